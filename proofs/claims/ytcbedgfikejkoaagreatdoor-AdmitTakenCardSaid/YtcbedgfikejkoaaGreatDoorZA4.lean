/-
  What the proof of the law rests on, part 4: walks of functions, and plain laws; each says its conditions itself.
-/
import Derived.Laws.StructEq
import Derived.Test.YtcbedgfikejkoaaGreatDoorZA3
set_option maxHeartbeats 1600000
set_option linter.unusedVariables false
set_option linter.unusedSimpArgs false
namespace Go.Proofs.YtcbedgfikejkoaaGreatDoor
open Go.RowKit Rt
open Fx (fE fT bC dw dR eG Lv sN Ln Ws Qv Wl Rp Wr Sb Wk rC sR Rs Rn Rd Rk Wb Wx Wo Wt qQ Qn yK zk Dy qx gP zl uH vM wX zi C8 zC rv aA aR bK ev cB Stp aS flat dD aW iN bG down jV bJ bI cells_one iP bP wY jP iF bX dG bL bR bZ cu gL ig pO gy)
namespace Rt
def Cc(t:Nat->Nat->Int)(n k:Nat):Nat->Nat->Int:=fun i=>if i<=k then(if i<n then t i else fun _=>0)else t (i-1)
def oQ(t:Nat->Nat->Int)(k:Nat)(id par:Int):Nat->Nat->Int:=fun i=>if i<k then t i else if i=k then(fun j=>if j=0 then id else par)else t (i-1)
theorem tV{w:World}{B tb tn tc:Nat}{ta:Option Addr}{t:Nat->Nat->Int}(b:aR w tb 1 (fun _ => .slice ta tn tc) 156)(a:Fx.Own w B 153 2 (.slice ta tn tc) tn (rv .u64 (kZ t)))(j:tn<=1000):EX w tb ta tn tc t where
 tc:=b.aH
 t:=fun k h=>by
  obtain⟨g,d,e,_,_,_,c⟩:=a.form (by omega);simp only[Value.slice.injEq,true_and]at e;refine⟨g,0,e.1,fun i f => ?_⟩;have:=c (2*k+i) (by omega);rw[G_]at this;rw[G_,this];show some (Value.int .u64 (t ((2*k+i) / 2) ((2*k+i) % 2)))=some (Value.int .u64 (t k i));rw[show(2*k+i) / 2=k by omega,show(2*k+i) % 2=i by omega]
 bt:=by omega
theorem xS(t:Nat->Nat->Int)(n:Nat) : ∀ j,j<(n+1)*2->iF (rv .u64 (kZ t)) (n*2) (bK (fun j=>rv .u64 (fun _=>0) (j % 2)) (0*2) 2 (rv .u64 (fun _=>0))) j=rv .u64 (kZ (Cc t n n)) j:=fun j a=>by
 unfold iF;by_cases h:j<n*2
 ·rw[d_ h];show Value.int .u64 (t (j / 2) (j % 2))=Value.int .u64 (Cc t n n (j / 2) (j % 2));unfold Cc; rw[d_ (by omega),d_ (by omega)]
 ·rw[b_ h];unfold bK; rw[d_ (by omega)];show Value.int .u64 0=Value.int .u64 (Cc t n n (j / 2) (j % 2));unfold Cc; rw[d_ (by omega),b_ (by omega)]
theorem zD{t:Nat->Nat->Int}{n k j p:Nat}(a:p=2*j)(h:j<k)(b:k<=n):rv .u64 (kZ (Cc t n k)) p=aC (t j 0):=by
 subst a;show Value.int .u64 (Cc t n k (2*j / 2) (2*j % 2))=_;unfold Cc; rw[d_ (by omega),d_ (by omega),show 2*j / 2=j by omega,show 2*j % 2=0 by omega]
theorem Uc{t:Nat->Nat->Int}{n k j i:Nat}(h:j<k)(a:k<=n)(hi:i<2):rv .u64 (kZ (Cc t n k)) (2*j+i)=rv .u64 (t j) i:=by
 show Value.int .u64 (Cc t n k ((2*j+i) / 2) ((2*j+i) % 2))=Value.int .u64 (t j i);unfold Cc; rw[d_ (by omega),d_ (by omega),show(2*j+i) / 2=j by omega,show(2*j+i) % 2=i by omega]
theorem yL{t:Nat->Nat->Int}{n k j:Nat}(e:k=j+1)(_hk:k<=n) : ∀ p,p<(n+1)*2->bK (rv .u64 (kZ (Cc t n k))) (2*k) 2 (rv .u64 (t j)) p=rv .u64 (kZ (Cc t n j)) p:=fun p b=>by
 unfold bK;by_cases h:2*k<=p/\p<2*k+2
 ·rw[d_ h];show Value.int .u64 (t j (p-2*k))=Value.int .u64 (Cc t n j (p / 2) (p % 2));unfold Cc; rw[b_ (by omega),show p / 2-1=j by omega,show p-2*k=p % 2 by omega]
 ·rw[b_ h];show Value.int .u64 (Cc t n k (p / 2) (p % 2))=Value.int .u64 (Cc t n j (p / 2) (p % 2));unfold Cc;by_cases a:p / 2<=j
  ·rw[d_ (by omega),d_ a]
  ·rw[b_ (by omega),b_ a]
theorem tF{t:Nat->Nat->Int}{n k:Nat}{id par:Int}(_hk:k<=n) : ∀ p,p<(n+1)*2->bK (rv .u64 (kZ (Cc t n k))) (2*k) 2 (bK (bK (rv .u64 (fun _=>0)) 0 1 (fun _=>aC id)) 1 1 (fun _=>aC par)) p=rv .u64 (kZ (oQ t k id par)) p:=fun p c=>by
 by_cases h:2*k<=p/\p<2*k+2
 ·rw[bK,d_ h];show _=Value.int .u64 (oQ t k id par (p / 2) (p % 2));unfold oQ; rw[b_ (by omega),d_ (by omega)];by_cases b:p=2*k
  ·subst b; rw[show 2*k-2*k=0 by omega,d_ (by omega)]; rfl
  ·rw[show p-2*k=1 by omega,b_ (by omega)]; rfl
 ·rw[bK,b_ h];show Value.int .u64 (Cc t n k (p / 2) (p % 2))=Value.int .u64 (oQ t k id par (p / 2) (p % 2));unfold Cc oQ;by_cases a:p / 2<k
  ·rw[d_ (by omega),d_ (by omega),d_ a]
  ·rw[b_ (by omega),b_ a,b_ (by omega)]
def Db(t:Nat->Nat->Int)(tn:Nat)(x:Int):Prop := ∀ i,i<4->0<=bF t tn (aT t tn i x)
theorem KP{t:Nat->Nat->Int}{tn K:Nat}{x:Int}(h : ∀ i,i<K->0<=bF t tn (aT t tn i x))(a:4<=K):Db t tn x:=fun i b=>h i (by omega)
theorem Ee{t:Nat->Nat->Int}{tn K:Nat}{x:Int}(h:bF t tn (aT t tn K x)<0)(a:K<4) : ¬ Db t tn x:=fun b=>by have:=b K a; omega
open Classical in
noncomputable def jI(t:Nat->Nat->Int)(tn:Nat)(id par:Int):Int:=if id=0 then 1 else if 0<=bF t tn id then 14 else if par≠0/\bF t tn par<0 then 9 else if 32<=tn\/Db t tn par then 6 else 0
theorem OL{t:Nat->Nat->Int}{n k j:Nat}{id:Int}(e:k=j+1)(h : ∀ i,k<=i->i<n->id<t i 0)(c:id<t j 0) : ∀ i,j<=i->i<n->id<t i 0:=fun i d b=>by
 by_cases a:i=j
 ·subst a; exact c
 ·exact h i (by omega) b
end Rt
set_option maxRecDepth 10000 in
theorem agw(B:Nat)(tb:Nat)(ta:Option Addr)(tn tc:Nat)(t:Nat->Nat->Int)(id par:Int)(D:Nat)(w:World)(P:aR w tb 1 (fun _ => .slice ta tn tc) 156)(X:Fx.Own w B 153 2 (.slice ta tn tc) tn (rv .u64 (kZ t)))(hne:(Value.slice ta tn tc).ownBlock≠some tb)(hB:B<=w.heap.size)(Q:tn<=1000)(hD:bF t tn (aT t tn D par)<0)(hD2:D<=1000) :
 Calls Tryz.prog 157 #[(pt tb),aC id,aC par] w fun e w'=>e = .returned (au (jI t tn id par))/\jV (fun k=>k=tb\/(Value.slice ta tn tc).ownBlock=some k) w w'/\((jI t tn id par≠0/\aR w' tb 1 (fun _ => .slice ta tn tc) 156/\Fx.Own w' B 153 2 (.slice ta tn tc) tn (rv .u64 (kZ t)))\/(jI t tn id par=0 /\ ∃ g cap,aR w' tb 1 (fun _=>bO g (tn+1) cap) 156/\Fx.Own w' B 153 2 (bO g (tn+1) cap) (tn+1) (rv .u64 (kZ (oQ t (down (fun i=>decide (id<t i 0)) tn) id par)))/\(Value.slice (some ⟨g,0,none⟩) (tn+1) cap).ownBlock≠some tb)):=by
 have lp:tb<w.heap.size:=P.lt;refine Kent Tryz.func157 89 ?_;refine ay<|av (au 0)<|aD<|Ws<|ay<|av (aC id) ?_;by_cases q:id=0
 ·refine Lv aG (eO q)<|aD<|aO<|ay<|av (au 1)<|aD<|Wr<|sR<|aJ (au 1) ?_;have c:jI t tn id par=1:=by unfold jI; rw[d_ q]
  exact⟨pU c.symm,(uH (fun k=>k=tb\/(Value.slice ta tn tc).ownBlock=some k) w),.inl ⟨by rw[c]; decide,P,X⟩⟩
 refine Lv aF (fO q)<|aD<|aK<|Wk<|sN<|Ws<|ay<|av (pt tb)<|av (aC id) ?_;by_cases p:(decide (0<=bF t tn id))=true
 ·refine dJ (OJ tb ta tn tc t id _ (tV P X Q)) aG (by rw[p]) ?_;intro w1 hb1;have s1:=Sb hb1;have⟨m1,m2⟩:=fq hb1 P X;have b1:=(uH (fun k=>k=tb\/(Value.slice ta tn tc).ownBlock=some k) w).then s1 (.inr (uH (fun k=>k=tb\/(Value.slice ta tn tc).ownBlock=some k) w).size);refine aD<|aO<|ay<|av (au 14)<|aD<|Wr<|sR<|aJ (au 14) ?_;have c:jI t tn id par=14:=by unfold jI; rw[b_ q,d_ (h_ p)]
  exact⟨pU c.symm,b1,.inl ⟨by rw[c]; decide,m1,m2⟩⟩
 rw[T_]at p;refine dJ (OJ tb ta tn tc t id _ (tV P X Q)) aF (by rw[p]) ?_;intro w2 hb2;have s2:=Sb hb2;have⟨E,L⟩:=fq hb2 P X;have F:=(uH (fun k=>k=tb\/(Value.slice ta tn tc).ownBlock=some k) w).then s2 (.inr (uH (fun k=>k=tb\/(Value.slice ta tn tc).ownBlock=some k) w).size);refine aD<|aK<|Wk<|sN<|Ws<|ay<|av (aC par) ?_;by_cases G:par=0
 ·refine Lv aF (jQ G)<|av aF<|dB<|dB<|dB<|dB<|av aF<|aD<|aK<|Wk<|sN<|Ws<|ay<|av (pt tb)<|av (pt tb)<|av (pt tb)<|Lv (.slice ta (tn) (tc)) (aM E.aH 0)<|av (au tn) ?_;by_cases T:32<=(tn:Int)
  ·refine Lv aG (kP T)<|av aG<|dB<|dB<|dB<|dB<|dB<|av aG<|aD<|aO<|ay<|av (au 6)<|aD<|Wr<|sR<|aJ (au 6) ?_;have c:jI t tn id par=6:=(by unfold jI; rw[b_ q,b_ (j_ p),b_ (fun h=>h.1 G),d_ (.inl (by omega))]);exact⟨pU c.symm,F,.inl ⟨by rw[c]; decide,E,L⟩⟩
  refine Lv aF (kr T)<|av aF<|av (pt tb)<|av (aC par)<|mh (Jf tb ta tn tc t par D _ (tV E L Q) hD hD2) ?_;rintro e w3 ⟨K,vv,Y,hown,rZ,W,hb3⟩;obtain⟨a1,n,rfl⟩:=hown.val;refine⟨.slice a1 K n,Y,?_⟩;clear Y hown;have s3:=Sb hb3;have⟨m5,m6⟩:=fq hb3 E L;have b3:=F.then s3 (.inr F.size);refine av (au K) ?_;by_cases U:4<=(K:Int)
  ·refine Lv aG (kP U)<|av aG<|aD<|aO<|ay<|av (au 6)<|aD<|Wr<|sR<|aJ (au 6) ?_;have c:jI t tn id par=6:=(by unfold jI; rw[b_ q,b_ (j_ p),b_ (fun h=>h.1 G),d_ (.inr (KP rZ (by omega)))]);exact⟨pU c.symm,b3,.inl ⟨by rw[c]; decide,m5,m6⟩⟩
  refine Lv aF (kr U)<|av aF<|aD<|aK<|Wk<|sN<|ay<|av (pt tb)<|av (pt tb)<|av (pt tb)<|Lv (.slice ta (tn) (tc)) (aM m5.aH 0)<|av (au tn)<|av (au tn)<|aD<|ay<|av (pt tb)<|av (pt tb)<|av (pt tb)<|av (pt tb)<|Lv (.slice ta (tn) (tc)) (aM m5.aH 0)<|av (.agg (aA 2 (rv .u64 (fun _=>0))))<|yK (vs := [(0,.agg (aA 2 (rv .u64 (fun _=>0))))]) (s:=2) (zc:=rv .u64 (fun _=>0)) (y:=bK (fun j=>(rv .u64 (fun _=>0)) (j % 2)) (0*2) 2 (rv .u64 (fun _=>0))) (by rfl) rfl rfl Tryz.underlying154 (by kernel_rfl) (by rfl) (by rfl) (by kernel_rfl) (by rw[bG (off:=0*2) (s:=2) (y:=rv .u64 (fun _=>0)) rfl (bI _ _) (by rfl)]; rfl) rfl fun g1 w4 mo m7 s4 z1 => ?_;have⟨m8,m9⟩:=fq s4.old m5 m6;have b4:=b3.then s4 (.inr b3.size);have sM:=iQ mo b3.size;have KN:=cK mo m5.lt;have agx:(.slice ta tn tc:Value).ownBlock≠some g1:=by rw[mo]; exact m6.ko (A_ _)
  have ug:=m7.lt;refine zk (B:=B) (s:=2) (bytes:=16) (k:=tn) (m:=1) (v := .slice ta tn tc) (by rfl) rfl rfl rfl Tryz.underlying154 (by kernel_rfl) (by kernel_rfl) rfl rfl m9 m7.aH (fun j Z=>by rcases j with _|_|j <;> first|rfl|omega) (by omega) (by omega) (by omega) (m_ hB b4.size) fun d n w5 ho1 hg1 wB hlt1 => ?_
  have m11:aR w5 tb 1 (fun _ => .slice ta tn tc) 156:=m8.grown hg1 hne;have agy:tb≠d:=fun e=>wB.elim (fun x=>hne (by rw[x,e])) (fun x=>by have:=m8.lt; omega);have m10:Fx.Own w5 B 153 2 (bO d (tn+1) n) (tn+1) (rv .u64 (kZ (Cc t tn tn))):=ho1.congr (xS t tn);have b5:jV (fun k=>k=tb\/(Value.slice ta tn tc).ownBlock=some k) w w5:=Fx.jV.grow b4 hg1 (fun k e => .inl (.inr e));have acj:(fun k=>k=tb\/(Value.slice ta tn tc).ownBlock=some k) d\/w.heap.size<=d:=wB.elim (fun e => .inl (.inr e)) (fun e => .inr (by rw[e]; exact b4.size));refine av (pt tb)<|av (pt tb)<|jg m11 0 (bO d (tn+1) n) fun w6 m12 s5 z2 => ?_;have m13:aR w6 tb 1 (fun _=>bO d (tn+1) n) 156:=dG m12;have m14:=m10.abb s5 (by omega);have b6:=b5.then s5 (.inl (.inl rfl));refine aD<|Ws<|Wb<|Wo (fun f M => ∃ k:Nat,k<=tn/\(∀ i,k<=i->i<tn->id<t i 0)/\f 0=(pt tb)/\f 1=aC id/\f 2=aC par/\f 7=au (k:Int)/\aR M tb 1 (fun _=>bO d (tn+1) n) 156/\Fx.Own M B 153 2 (bO d (tn+1) n) (tn+1) (rv .u64 (kZ (Cc t tn k)))/\jV (fun k=>k=tb\/(Value.slice ta tn tc).ownBlock=some k) w M) (fun f _=>(intOf (f 7)).toNat) ⟨tn,by omega,(fun i r N=>M_ r (by omega)),(by rfl),Fx.ic,Fx.ic,Fx.ic,m13,m14,b6⟩ ?_;rintro f1 w7 ⟨k,hk,J,r,N,h3,A,R,m16,b7⟩;refine Ws<|ay<|bf A ?_;by_cases V:0<(k:Int)
  ·obtain⟨j,H⟩ : ∃ j,k=j+1:=⟨k-1,by omega⟩;refine Lv aG (ng V)<|av aG<|bf r<|av (pt tb)<|av (pt tb)<|Lv (bO d (tn+1) n) (aM R.aH 0)<|bf A<|Lv (au j) gD<|Lv (pf d (2*j)) (dh 2)<|av (pf d (2*j))<|Lv (aC (t j 0)) (aM m16.aH (2*j) (zD (by omega) (by omega) (by omega)))<|bf N ?_;by_cases u:id<(t j 0)
   ·refine Lv aG (ng u)<|av aG<|aD<|aO<|Wk<|sN<|Wb<|Ws ?_;refine Wt 14 (by kernel_rfl) (by kernel_rfl) fun qA dP iE => ?_;have s6:Stp w7.heap.size w7 qA:=Sb dP;have⟨m17,m18⟩:=fq dP R m16;have b8:=b7.then s6 (.inr b7.size);refine qx (pt tb) (R5 r)<|EI (pt tb)<|EI (pt tb)<|qx (bO d (tn+1) n) (aM m17.aH 0)<|qx (au k) (R5 A)<|qx (pt tb) (R5 r)<|EI (pt tb)<|EI (pt tb)<|qx (bO d (tn+1) n) (aM m17.aH 0)<|qx (au k) (R5 A)<|qx (au j) gD<|qx (pf d (2*j)) (dh 2)<|qx (.agg (aA 2 (rv .u64 (t j)))) (fD m18.aH (2*j) (fun i hi=>Uc (by omega) (by omega) hi))<|qx (pf d (2*k)) (dh 2)<|Fx.St.nil ?_;refine zR m18 (2*k) fun w8 m19 s7 z3 => ?_;have m20:=m17.cO s7 (by omega);have b9:=b8.then s7 acj;have m21:Fx.Own w8 B 153 2 (bO d (tn+1) n) (tn+1) (rv .u64 (kZ (Cc t tn j))):=m19.congr (yL H (by omega));refine aD<|Wl<|bf A<|Lv (au j) gD<|av (au j)<|Ln<|bR<|ig ⟨j,by omega,(OL H J u),r,(N.trans Fx.ic),(h3.trans Fx.ic),Fx.ic,m20,m21,b9⟩ ?_;show(intOf (au j)).toNat<_;simp only[A,intOf]; omega
   refine Lv aF (ni u)<|av aF<|aD<|aK<|Wx<|bZ<|gL<|cu<|sN<|ay<|bf r<|av (pt tb)<|av (pt tb)<|Lv (bO d (tn+1) n) (aM R.aH 0)<|bf A<|bf N<|bf h3<|av (.agg (aA 2 (bK (bK (rv .u64 (fun _=>0)) 0 1 (fun _=>aC id)) 1 1 (fun _=>aC par))))<|Lv (pf d (2*k)) (dh 2)<|zR m16 (2*k) (h1:=(fun j Z=>by rcases j with _|_|j <;> first|rfl|omega)) fun w9 m22 s8 z4 => ?_
   have m23:=R.cO s8 (by omega);have b10:=b7.then s8 acj;have m24:Fx.Own w9 B 153 2 (bO d (tn+1) n) (tn+1) (rv .u64 (kZ (oQ t k id par))):=m22.congr (tF (by omega));refine aD<|ay<|av (au 0)<|aD<|Wr<|aJ (au 0) ?_;have c:jI t tn id par=0:=(by unfold jI; rw[b_ q,b_ (j_ p),b_ (fun h=>h.1 G),b_ (fun h=>h.elim (fun h=>by omega) (Ee W (by omega)))]);have I:k=down (fun i=>decide (id<t i 0)) tn:=Fx.pE hk (fun i a b=>f_ (J i a b)) (.inr (fun j e=>by have x:j=_:=Nat.succ.inj (e.symm.trans H); subst x; exact g_ u));exact⟨pU c.symm,b10,.inr ⟨c,d,n,m23,by rw[<- I]; exact m24,fun e=>agy (C_ e).symm⟩⟩
  refine Lv aF (ni V)<|av aF<|dB<|dB<|dB<|dB<|dB<|dB<|dB<|dB<|dB<|dB<|dB<|av aF<|aD<|aK<|Wx<|bZ<|gL<|cu<|sN<|ay<|bf r<|av (pt tb)<|av (pt tb)<|Lv (bO d (tn+1) n) (aM R.aH 0)<|bf A<|bf N<|bf h3<|av (.agg (aA 2 (bK (bK (rv .u64 (fun _=>0)) 0 1 (fun _=>aC id)) 1 1 (fun _=>aC par))))<|Lv (pf d (2*k)) (dh 2)<|zR m16 (2*k) (h1:=(fun j Z=>by rcases j with _|_|j <;> first|rfl|omega)) fun sO mQ s9 z5 => ?_
  have nH:=R.cO s9 (by omega);have b11:=b7.then s9 acj;have oq:Fx.Own sO B 153 2 (bO d (tn+1) n) (tn+1) (rv .u64 (kZ (oQ t k id par))):=mQ.congr (tF (by omega));refine aD<|ay<|av (au 0)<|aD<|Wr<|aJ (au 0) ?_;have c:jI t tn id par=0:=by unfold jI; rw[b_ q,b_ (j_ p),b_ (fun h=>h.1 G),b_ (fun h=>h.elim (fun h=>by omega) (Ee W (by omega)))]
  have I:k=down (fun i=>decide (id<t i 0)) tn:=Fx.pE hk (fun i a b=>f_ (J i a b)) (.inl (by omega));exact⟨pU c.symm,b11,.inr ⟨c,d,n,nH,by rw[<- I]; exact oq,fun e=>agy (C_ e).symm⟩⟩
 refine Lv aG (nk G)<|av aG<|av (pt tb)<|av (aC par) ?_;by_cases z:(decide (0<=bF t tn par))=true
 ·refine dJ (OJ tb ta tn tc t par _ (tV E L Q)) aG (by rw[z]) ?_;intro Gi hb4;have s10:=Sb hb4;have⟨oL,oM⟩:=fq hb4 E L;have b12:=F.then s10 (.inr F.size);refine av aF<|av aF<|aD<|aK<|Wk<|sN<|Ws<|ay<|av (pt tb)<|av (pt tb)<|av (pt tb)<|Lv (.slice ta (tn) (tc)) (aM oL.aH 0)<|av (au tn) ?_;by_cases T:32<=(tn:Int)
  ·refine Lv aG (kP T)<|av aG<|dB<|dB<|dB<|dB<|dB<|av aG<|aD<|aO<|ay<|av (au 6)<|aD<|Wr<|sR<|aJ (au 6) ?_;have c:jI t tn id par=6:=(by unfold jI; rw[b_ q,b_ (j_ p),b_ (fun h=>by have:=h_ z; omega),d_ (.inl (by omega))]);exact⟨pU c.symm,b12,.inl ⟨by rw[c]; decide,oL,oM⟩⟩
  refine Lv aF (kr T)<|av aF<|av (pt tb)<|av (aC par)<|mh (Jf tb ta tn tc t par D _ (tV oL oM Q) hD hD2) ?_;rintro e BR ⟨K,vv,Y,hown,rZ,W,hb5⟩;obtain⟨a1,n,rfl⟩:=hown.val;refine⟨.slice a1 K n,Y,?_⟩;clear Y hown;have s11:=Sb hb5;have⟨oC,mI⟩:=fq hb5 oL oM;have b13:=b12.then s11 (.inr b12.size);refine av (au K) ?_;by_cases U:4<=(K:Int)
  ·refine Lv aG (kP U)<|av aG<|aD<|aO<|ay<|av (au 6)<|aD<|Wr<|sR<|aJ (au 6) ?_;have c:jI t tn id par=6:=(by unfold jI; rw[b_ q,b_ (j_ p),b_ (fun h=>by have:=h_ z; omega),d_ (.inr (KP rZ (by omega)))]);exact⟨pU c.symm,b13,.inl ⟨by rw[c]; decide,oC,mI⟩⟩
  refine Lv aF (kr U)<|av aF<|aD<|aK<|Wk<|sN<|ay<|av (pt tb)<|av (pt tb)<|av (pt tb)<|Lv (.slice ta (tn) (tc)) (aM oC.aH 0)<|av (au tn)<|av (au tn)<|aD<|ay<|av (pt tb)<|av (pt tb)<|av (pt tb)<|av (pt tb)<|Lv (.slice ta (tn) (tc)) (aM oC.aH 0)<|av (.agg (aA 2 (rv .u64 (fun _=>0))))<|yK (vs := [(0,.agg (aA 2 (rv .u64 (fun _=>0))))]) (s:=2) (zc:=rv .u64 (fun _=>0)) (y:=bK (fun j=>(rv .u64 (fun _=>0)) (j % 2)) (0*2) 2 (rv .u64 (fun _=>0))) (by rfl) rfl rfl Tryz.underlying154 (by kernel_rfl) (by rfl) (by rfl) (by kernel_rfl) (by rw[bG (off:=0*2) (s:=2) (y:=rv .u64 (fun _=>0)) rfl (bI _ _) (by rfl)]; rfl) rfl fun g3 Gt zZ m32 s12 z6 => ?_;have⟨qB,nV⟩:=fq s12.old oC mI;have b14:=b13.then s12 (.inr b13.size);have C9:=iQ zZ b13.size;have alv:=cK zZ oC.lt;have alx:(.slice ta tn tc:Value).ownBlock≠some g3:=by rw[zZ]; exact mI.ko (A_ _)
  have JR:=m32.lt;refine zk (B:=B) (s:=2) (bytes:=16) (k:=tn) (m:=1) (v := .slice ta tn tc) (by rfl) rfl rfl rfl Tryz.underlying154 (by kernel_rfl) (by kernel_rfl) rfl rfl nV m32.aH (fun j Z=>by rcases j with _|_|j <;> first|rfl|omega) (by omega) (by omega) (by omega) (m_ hB b14.size) fun l o Mi ho2 hg2 M9 hlt2 => ?_
  have oN:aR Mi tb 1 (fun _ => .slice ta tn tc) 156:=qB.grown hg2 hne;have agz:tb≠l:=fun e=>M9.elim (fun x=>hne (by rw[x,e])) (fun x=>by have:=qB.lt; omega);have qC:Fx.Own Mi B 153 2 (bO l (tn+1) o) (tn+1) (rv .u64 (kZ (Cc t tn tn))):=ho2.congr (xS t tn);have b15:jV (fun k=>k=tb\/(Value.slice ta tn tc).ownBlock=some k) w Mi:=Fx.jV.grow b14 hg2 (fun k e => .inl (.inr e));have acn:(fun k=>k=tb\/(Value.slice ta tn tc).ownBlock=some k) l\/w.heap.size<=l:=M9.elim (fun e => .inl (.inr e)) (fun e => .inr (by rw[e]; exact b14.size));refine av (pt tb)<|av (pt tb)<|jg oN 0 (bO l (tn+1) o) fun Mj sP s13 z7 => ?_;have qX:aR Mj tb 1 (fun _=>bO l (tn+1) o) 156:=dG sP;have qY:=qC.abb s13 (by omega);have b16:=b15.then s13 (.inl (.inl rfl));refine aD<|Ws<|Wb<|Wo (fun f M => ∃ k:Nat,k<=tn/\(∀ i,k<=i->i<tn->id<t i 0)/\f 0=(pt tb)/\f 1=aC id/\f 2=aC par/\f 7=au (k:Int)/\aR M tb 1 (fun _=>bO l (tn+1) o) 156/\Fx.Own M B 153 2 (bO l (tn+1) o) (tn+1) (rv .u64 (kZ (Cc t tn k)))/\jV (fun k=>k=tb\/(Value.slice ta tn tc).ownBlock=some k) w M) (fun f _=>(intOf (f 7)).toNat) ⟨tn,by omega,(fun i r N=>M_ r (by omega)),(by rfl),Fx.ic,Fx.ic,Fx.ic,qX,qY,b16⟩ ?_;rintro f2 w16 ⟨k,hk,J,O,h6,h7,C,S,nI,b17⟩;refine Ws<|ay<|bf C ?_;by_cases V:0<(k:Int)
  ·obtain⟨j,H⟩ : ∃ j,k=j+1:=⟨k-1,by omega⟩;refine Lv aG (ng V)<|av aG<|bf O<|av (pt tb)<|av (pt tb)<|Lv (bO l (tn+1) o) (aM S.aH 0)<|bf C<|Lv (au j) gD<|Lv (pf l (2*j)) (dh 2)<|av (pf l (2*j))<|Lv (aC (t j 0)) (aM nI.aH (2*j) (zD (by omega) (by omega) (by omega)))<|bf h6 ?_;by_cases u:id<(t j 0)
   ·refine Lv aG (ng u)<|av aG<|aD<|aO<|Wk<|sN<|Wb<|Ws ?_;refine Wt 14 (by kernel_rfl) (by kernel_rfl) fun Da gG nU => ?_;have BG:Stp w16.heap.size w16 Da:=Sb gG;have⟨nJ,nK⟩:=fq gG S nI;have b18:=b17.then BG (.inr b17.size);refine qx (pt tb) (R5 O)<|EI (pt tb)<|EI (pt tb)<|qx (bO l (tn+1) o) (aM nJ.aH 0)<|qx (au k) (R5 C)<|qx (pt tb) (R5 O)<|EI (pt tb)<|EI (pt tb)<|qx (bO l (tn+1) o) (aM nJ.aH 0)<|qx (au k) (R5 C)<|qx (au j) gD<|qx (pf l (2*j)) (dh 2)<|qx (.agg (aA 2 (rv .u64 (t j)))) (fD nK.aH (2*j) (fun i hi=>Uc (by omega) (by omega) hi))<|qx (pf l (2*k)) (dh 2)<|Fx.St.nil ?_;refine zR nK (2*k) fun WZ rY s15 z8 => ?_;have qK:=nJ.cO s15 (by omega);have b19:=b18.then s15 acn;have oO:Fx.Own WZ B 153 2 (bO l (tn+1) o) (tn+1) (rv .u64 (kZ (Cc t tn j))):=rY.congr (yL H (by omega));refine aD<|Wl<|bf C<|Lv (au j) gD<|av (au j)<|Ln<|bR<|ig ⟨j,by omega,(OL H J u),O,(h6.trans Fx.ic),(h7.trans Fx.ic),Fx.ic,qK,oO,b19⟩ ?_;show(intOf (au j)).toNat<_;simp only[C,intOf]; omega
   refine Lv aF (ni u)<|av aF<|aD<|aK<|Wx<|bZ<|gL<|cu<|sN<|ay<|bf O<|av (pt tb)<|av (pt tb)<|Lv (bO l (tn+1) o) (aM S.aH 0)<|bf C<|bf h6<|bf h7<|av (.agg (aA 2 (bK (bK (rv .u64 (fun _=>0)) 0 1 (fun _=>aC id)) 1 1 (fun _=>aC par))))<|Lv (pf l (2*k)) (dh 2)<|zR nI (2*k) (h1:=(fun j Z=>by rcases j with _|_|j <;> first|rfl|omega)) fun W9 sQ s16 z9 => ?_
   have xE:=S.cO s16 (by omega);have b20:=b17.then s16 acn;have uh:Fx.Own W9 B 153 2 (bO l (tn+1) o) (tn+1) (rv .u64 (kZ (oQ t k id par))):=sQ.congr (tF (by omega));refine aD<|ay<|av (au 0)<|aD<|Wr<|aJ (au 0) ?_;have c:jI t tn id par=0:=(by unfold jI; rw[b_ q,b_ (j_ p),b_ (fun h=>by have:=h_ z; omega),b_ (fun h=>h.elim (fun h=>by omega) (Ee W (by omega)))]);have I:k=down (fun i=>decide (id<t i 0)) tn:=Fx.pE hk (fun i a b=>f_ (J i a b)) (.inr (fun j e=>by have x:j=_:=Nat.succ.inj (e.symm.trans H); subst x; exact g_ u));exact⟨pU c.symm,b20,.inr ⟨c,l,o,xE,by rw[<- I]; exact uh,fun e=>agz (C_ e).symm⟩⟩
  refine Lv aF (ni V)<|av aF<|dB<|dB<|dB<|dB<|dB<|dB<|dB<|dB<|dB<|dB<|dB<|av aF<|aD<|aK<|Wx<|bZ<|gL<|cu<|sN<|ay<|bf O<|av (pt tb)<|av (pt tb)<|Lv (bO l (tn+1) o) (aM S.aH 0)<|bf C<|bf h6<|bf h7<|av (.agg (aA 2 (bK (bK (rv .u64 (fun _=>0)) 0 1 (fun _=>aC id)) 1 1 (fun _=>aC par))))<|Lv (pf l (2*k)) (dh 2)<|zR nI (2*k) (h1:=(fun j Z=>by rcases j with _|_|j <;> first|rfl|omega)) fun w19 tL JQ z10 => ?_
  have xq:=S.cO JQ (by omega);have Qb:=b17.then JQ acn;have wC:Fx.Own w19 B 153 2 (bO l (tn+1) o) (tn+1) (rv .u64 (kZ (oQ t k id par))):=tL.congr (tF (by omega));refine aD<|ay<|av (au 0)<|aD<|Wr<|aJ (au 0) ?_;have c:jI t tn id par=0:=by unfold jI; rw[b_ q,b_ (j_ p),b_ (fun h=>by have:=h_ z; omega),b_ (fun h=>h.elim (fun h=>by omega) (Ee W (by omega)))]
  have I:k=down (fun i=>decide (id<t i 0)) tn:=Fx.pE hk (fun i a b=>f_ (J i a b)) (.inl (by omega));exact⟨pU c.symm,Qb,.inr ⟨c,l,o,xq,by rw[<- I]; exact wC,fun e=>agz (C_ e).symm⟩⟩
 rw[T_]at z;refine dJ (OJ tb ta tn tc t par _ (tV E L Q)) aF (by rw[z]) ?_;intro Xa hb6;have Mq:=Sb hb6;have⟨uJ,wD⟩:=fq hb6 E L;have OB:=F.then Mq (.inr F.size);refine av aG<|av aG<|aD<|aO<|ay<|av (au 9)<|aD<|Wr<|sR<|aJ (au 9) ?_;have c:jI t tn id par=9:=by unfold jI; rw[b_ q,b_ (j_ p),d_ ⟨G,by have:=j_ z; omega⟩]
 exact⟨pU c.symm,OB,.inl ⟨by rw[c]; decide,uJ,wD⟩⟩
namespace Rt
def jo(o a:Int):Int:=if 1<=o/\o<=6/\1<=a/\a<1099511627776 then 1099511627776*o+a else 0
end Rt
theorem aly(o a:Int)(w:World) :
 Calls Tryz.prog 156 #[au o,aC a] w fun e w'=>e = .returned (aC (jo o a))/\w'=w:=by
 refine Kent Tryz.func156 24 ?_;refine ay<|av (aC 0)<|aD<|Ws<|ay<|av (au o) ?_;by_cases f:o<1
 ·refine Lv aG (iq f)<|av aG<|dB<|dB<|av aG<|av aG<|dB<|dB<|av aG<|av aG<|dB<|dB<|av aG<|aD<|aO<|ay<|av (aC 0)<|aD<|Wr<|sR<|aJ (aC 0) ?_;exact⟨L_ (fun q=>Ending.returned (Value.int .u64 q)) (Eq.symm (by unfold jo; rw[b_ (by omega)])),rfl⟩
 refine Lv aF (iw f)<|av aF<|av (au o) ?_;by_cases g:6<o
 ·refine Lv aG (ng g)<|av aG<|av aG<|dB<|dB<|av aG<|av aG<|dB<|dB<|av aG<|aD<|aO<|ay<|av (aC 0)<|aD<|Wr<|sR<|aJ (aC 0) ?_;exact⟨L_ (fun q=>Ending.returned (Value.int .u64 q)) (Eq.symm (by unfold jo; rw[b_ (by omega)])),rfl⟩
 refine Lv aF (ni g)<|av aF<|av aF<|av (aC a) ?_;by_cases c:a<1
 ·refine Lv aG (iq c)<|av aG<|av aG<|dB<|dB<|av aG<|aD<|aO<|ay<|av (aC 0)<|aD<|Wr<|sR<|aJ (aC 0) ?_;exact⟨L_ (fun q=>Ending.returned (Value.int .u64 q)) (Eq.symm (by unfold jo; rw[b_ (by omega)])),rfl⟩
 refine Lv aF (iw c)<|av aF<|av aF<|av (aC a) ?_;by_cases d:1099511627776<=a
 ·refine Lv aG (kP d)<|av aG<|aD<|aO<|ay<|av (aC 0)<|aD<|Wr<|sR<|aJ (aC 0) ?_;exact⟨L_ (fun q=>Ending.returned (Value.int .u64 q)) (Eq.symm (by unfold jo; rw[b_ (by omega)])),rfl⟩
 refine Lv aF (kr d)<|av aF<|aD<|aK<|Wk<|sN<|ay<|av (au o)<|Lv (aC o) (dw rfl rfl (by kernel_rfl) Tryz.underlying23 (jP (by omega) rfl))<|Lv (aC (1099511627776*o)) (Fx.Ka (b:=40) rfl rfl rfl (by decide) (jP (by omega) (by omega)))<|av (aC a)<|Lv (aC (1099511627776*o+a)) fC<|av (aC (1099511627776*o+a))<|aD<|Wr<|aJ (aC (1099511627776*o+a)) ?_;exact⟨L_ (fun q=>Ending.returned (Value.int .u64 q)) (Eq.symm (by unfold jo; rw[d_ (by omega)])),rfl⟩
theorem aaj(a:Option Addr)(n cap:Nat)(w:World) :
 Calls Tryz.prog 9 #[.slice a (n) (cap)] w fun e w'=>e = .returned (.bool (decide ((n:Int)<=60)))/\w'=w:=by
 refine Kent Tryz.func9 6 ?_;refine ay<|av aF<|aD<|ay<|av (.slice a (n) (cap))<|av (au n) ?_;by_cases b:(n:Int)<=60
 ·refine Lv aG (mZ b)<|av aG<|aD<|Wr<|aJ aG ?_;exact⟨iG (Eq.symm (f_ b)),rfl⟩
 refine Lv aF (nP b)<|av aF<|aD<|Wr<|aJ aF ?_;exact⟨iG (Eq.symm (g_ b)),rfl⟩
section
theorem app0{s:Nat}{x y:Nat->Value}(j:Nat):iF x (0*s) y j=y j:=by unfold iF; rw[Nat.zero_mul,b_ (z_ _)]; rfl
theorem uZ(id par:Int)(R:Nat->Int)(j:Nat):(mG id par R j).oneCell'=true:=by unfold mG; split <;> (try split) <;> rfl
theorem Na(id par:Int)(R:Nat->Int){q p:Nat}(h:q=p+2):mG id par R q=au (R p):=by subst h; unfold mG; rw[b_ (by omega),b_ (by omega),Nat.add_sub_cancel]
theorem tX(x:Nat->Int)(j:Nat):(jm x j).oneCell'=true:=by unfold jm; split <;> (try split) <;> rfl
theorem XV(m:kR)(j:Nat):(JV m j).oneCell'=true:=uZ _ _ _ _
theorem XW(m:kR)(j:Nat):(Jd m j).oneCell'=true:=tX _ _
theorem XY(m:DR)(j:Nat):(nQ m j).oneCell'=true:=by unfold nQ; repeat (first|rfl|split)
def sZ(m:kR)(i:Nat):Value := .slice (m.ra i) (m.rn i) (m.rc i)
def wM(w:World)(B k:Nat)(m:kR):Prop :=
 (∀ i,i<k->Fx.Own w B 23 1 (sZ m i) (m.rn i) (rv .u64 (m.rq i))) /\ ∀ i j,i<k->j<k->i≠j -> ∀ g,(sZ m i).ownBlock=some g->(sZ m j).ownBlock≠some g
section
variable {w w':World} {B k:Nat} {m:kR}
theorem wM.up(h:wM w B k m)(a:Below w.heap.size w w'):wM w' B k m:=⟨fun i b=>(h.1 i b).up a,h.2⟩
instance:Rt.Tr w w' (wM w B k m) (wM w' B k m):=⟨fun b h=>h.up b⟩
theorem wM.kN{a:List TypeId}(h:wM w B k m)(c:iP a w w')(d:a.contains 23=false):wM w' B k m:=⟨fun i b=>(h.1 i b).kN c d,h.2⟩
instance {a:List TypeId}:Rt.Tc a w w' (wM w B k m) (wM w' B k m) (!(a.contains 23)):=⟨fun b h e=>h.kN b (by simpa using e)⟩
theorem wM.zero(w:World)(B:Nat)(m:kR):wM w B 0 m:=⟨fun _ h=>M_ h (z_ _),fun _ _ h=>M_ h (z_ _)⟩
theorem wM.fresh(h:wM w B k m){v:Value}(c:v = .slice none 0 0\/v.ownBlock=(Value.slice none 0 0).ownBlock\/v.ownBlock=some w.heap.size) : ∀ i,i<k -> ∀ g,(sZ m i).ownBlock=some g->v.ownBlock≠some g:=fun i b g a e=>by
 have d:=((h.1 i b).ge a).2
 rcases c with rfl|e2|e2
 ·cases e
 ·rw[e]at e2; cases e2
 ·rw[e]at e2; have:=C_ e2; omega
theorem wM.snoc{a:kR}(h:wM w B k m)(c : ∀ i,i<k->sZ a i=sZ m i/\a.rn i=m.rn i/\a.rq i=m.rq i)(s:Fx.Own w B 23 1 (sZ a k) (a.rn k) (rv .u64 (a.rq k)))(l : ∀ i,i<k -> ∀ g,(sZ m i).ownBlock=some g->(sZ a k).ownBlock≠some g):wM w B (k+1) a:=by
 refine⟨fun i t => ?_,fun i j t u n g b => ?_⟩
 ·by_cases e:i=k
  ·subst e; exact s
  obtain⟨p,q,r⟩:=c i (by omega);rw[p,q,r]; exact h.1 i (by omega)
 by_cases o:i=k
 ·subst o;by_cases d:j=i
  ·exact M_ d.symm n
  intro f;rw[(c j (by omega)).1]at f;exact l j (by omega) g f b
 rw[(c i (by omega)).1]at b;by_cases d:j=k
 ·subst d; exact l i (by omega) g b
 rw[(c j (by omega)).1]; exact h.2 i j (by omega) (by omega) n g b
end
structure um(w:World)(B p:Nat)(m:kR):Prop where
 c:aR w p 27 (lZ m) 56
 n:Fx.Own w B 84 56 (.slice m.s.na m.s.nn m.s.nc) m.s.nn (JV m)
 g:Fx.Own w B 106 5 (.slice m.s.ga m.s.gn m.s.gc) m.s.gn (Jd m)
 tc:aR w m.tb 1 (fun _ => .slice m.ta m.tn m.tc) 156
 t:Fx.Own w B 153 2 (.slice m.ta m.tn m.tc) m.tn (Qo m.t)
 r:wM w B 6 m
 pB:B<=p
 tB:B<=m.tb
 bn:m.s.nn<=1000
 bg:m.s.gn<=1000000
 bt:m.tn<=1000
 br : ∀ i,i<6->m.rn i<=1000000
section
variable {w w':World} {B p:Nat} {m:kR}
theorem um.ldg(h:um w B p m):Cb w p m where
 c:=h.c.aH
 an:=h.n.arr
 ag:=h.g.arr
 tc:=h.tc.aH
 at2:=h.t.arr
 ar:=fun i a=>(h.r.1 i a).arr
 bn:=by have:=h.bn; omega
 bg:=h.bg
 bt:=by have:=h.bt; omega
 br:=h.br
theorem um.up(h:um w B p m)(a:Below w.heap.size w w'):um w' B p m := { h with c:=h.c.cO (Sb a) (u_ h.c.lt),n:=h.n.up a,g:=h.g.up a,tc:=h.tc.cO (Sb a) (u_ h.tc.lt),t:=h.t.up a,r:=h.r.up a }
instance:Rt.Tr w w' (um w B p m) (um w' B p m):=⟨fun b h=>h.up b⟩
def KQ:List Nat := [56,84,106,156,153,23]
theorem um.kN{e:List TypeId}(h:um w B p m)(b:iP e w w')(i:(KQ.all fun T => !e.contains T)=true):um w' B p m:=by
 have a : ∀ d∈KQ,e.contains d=false:=fun d f=>by
  have:=List.all_eq_true.1 i d f
  simpa using this
 exact { h with
  c:=h.c.kN b (a _ (by decide)),n:=h.n.kN b (a _ (by decide)),g:=h.g.kN b (a _ (by decide)),tc:=h.tc.kN b (a _ (by decide)),t:=h.t.kN b (a _ (by decide)),r:=h.r.kN b (a _ (by decide)) }
instance {a:List TypeId}:Rt.Tc a w w' (um w B p m) (um w' B p m) (KQ.all fun T => !a.contains T):=⟨fun b h e=>h.kN b (by simpa using e)⟩
theorem um.mono{b:Nat}(h:um w B p m)(a:b<=B):um w b p m := { h with n:=h.n.mono a,g:=h.g.mono a,t:=h.t.mono a,r:=⟨fun i c=>(h.r.1 i c).mono a,h.r.2⟩,pB:=m_ a h.pB,tB:=m_ a h.tB }
end
def KR(m:kR)(na:Option Addr)(nc:Nat)(ga:Option Addr)(gc tb:Nat)(ta:Option Addr)(tc:Nat)(ra:Nat->Option Addr)(rc:Nat->Nat)(k:Nat):kR :=
 { m with s := { m.s with na:=na,nc:=nc,ga:=ga,gc:=gc },tb:=tb,ta:=ta,tc:=tc,ra:=fun i=>if i<k then ra i else none,rn:=fun i=>if i<k then m.rn i else 0,rc:=fun i=>if i<k then rc i else 0 }
def aI{a:Type}(f:Nat->a)(k:Nat)(v:a):Nat->a:=fun i=>if i=k then v else f i
section
variable {m:kR} {na:Option Addr} {nc:Nat} {ga:Option Addr} {gc tb:Nat} {ta:Option Addr} {tc:Nat} {ra:Nat->Option Addr} {rc:Nat->Nat} {k:Nat}
theorem XZ{q:Nat}(h:q=k+21):lZ (KR m na nc ga gc tb ta tc ra rc k) q = .slice none 0 0:=by
 subst h;rw[wK (p:=k) _ rfl];show Value.slice (if k<k then ra k else none) (if k<k then m.rn k else 0) (if k<k then rc k else 0)=_;rw[b_ (Nat.lt_irrefl _),b_ (Nat.lt_irrefl _),b_ (Nat.lt_irrefl _)]
theorem yR{i:Nat}(h:i<k):sZ (KR m na nc ga gc tb ta tc ra rc k) i = .slice (ra i) (m.rn i) (rc i):=by
 show Value.slice (if i<k then ra i else none) (if i<k then m.rn i else 0) (if i<k then rc i else 0)=_;rw[d_ h,d_ h,d_ h]
theorem Ud{a:Option Addr}{c q:Nat}(f:q=k+21):dD (lZ (KR m na nc ga gc tb ta tc ra rc k)) q (.slice a (m.rn k) c)=lZ (KR m na nc ga gc tb ta tc (aI ra k a) (aI rc k c) (k+1)):=by
 subst f
 funext p
 unfold dD;by_cases e:p=k+21
 ·subst e; rw[d_ rfl];rw[wK (p:=k) _ rfl];show _=Value.slice (if k<k+1 then aI ra k a k else none) (if k<k+1 then m.rn k else 0) (if k<k+1 then aI rc k c k else 0);simp[aI]
 rw[b_ e];unfold lZ;by_cases h:p<20
 ·rw[d_ h,d_ h]; rfl
 rw[b_ h,b_ h];by_cases b:p=20
 ·rw[d_ b,d_ b]; rfl
 rw[b_ b,b_ b];show Value.slice (if p-21<k then ra (p-21)else none) (if p-21<k then m.rn (p-21)else 0) (if p-21<k then rc (p-21)else 0)=Value.slice (if p-21<k+1 then aI ra k a (p-21)else none) (if p-21<k+1 then m.rn (p-21)else 0) (if p-21<k+1 then aI rc k c (p-21)else 0);by_cases d:p-21<k
 ·simp[aI,d,show p-21<k+1 by omega,show ¬ p-21=k by omega]
 simp[d,show ¬ p-21<k+1 by omega]
theorem X0{w:World}{B:Nat}{a:Option Addr}{c:Nat}(h:wM w B k (KR m na nc ga gc tb ta tc ra rc k))(e:Fx.Own w B 23 1 (.slice a (m.rn k) c) (m.rn k) (rv .u64 (m.rq k)))
 (f : ∀ i,i<k -> ∀ g,(sZ (KR m na nc ga gc tb ta tc ra rc k) i).ownBlock=some g->(Value.slice a (m.rn k) c).ownBlock≠some g):wM w B (k+1) (KR m na nc ga gc tb ta tc (aI ra k a) (aI rc k c) (k+1)):=by
 have b:sZ (KR m na nc ga gc tb ta tc (aI ra k a) (aI rc k c) (k+1)) k = .slice a (m.rn k) c:=by
  rw[yR (by omega)]; unfold aI; rw[d_ rfl,d_ rfl]
 refine h.snoc (fun i d=>⟨?_,?_,rfl⟩) ?_ ?_
 ·rw[yR (by omega),yR d]; unfold aI; rw[b_ (by omega),b_ (by omega)]
 ·show(if i<k+1 then m.rn i else 0)=(if i<k then m.rn i else 0);rw[d_ (by omega),d_ d]
 ·rw[b];show Fx.Own w B 23 1 _ (if k<k+1 then m.rn k else 0) _;rw[d_ (by omega)]; exact e
 rw[b]; exact f
end
def atM(m:kR)(na:Option Addr)(nc:Nat)(ga:Option Addr)(gc tb:Nat)(ta:Option Addr)(tc:Nat)(ra:Nat->Option Addr)(rc:Nat->Nat):kR :=
 { m with s := { m.s with na:=na,nc:=nc,ga:=ga,gc:=gc },tb:=tb,ta:=ta,tc:=tc,ra:=ra,rc:=rc }
section
variable {m:kR} {na:Option Addr} {nc:Nat} {ga:Option Addr} {gc tb:Nat} {ta:Option Addr} {tc:Nat} {ra:Nat->Option Addr} {rc:Nat->Nat}
theorem agB : ∀ j,j<27->lZ (KR m na nc ga gc tb ta tc ra rc 6) j=lZ (atM m na nc ga gc tb ta tc ra rc) j:=fun j b=>by
 unfold lZ;by_cases h:j<20
 ·rw[d_ h,d_ h]; rfl
 ·rw[b_ h,b_ h];by_cases a:j=20
  ·rw[d_ a,d_ a]; rfl
  ·rw[b_ a,b_ a];show Value.slice (if j-21<6 then ra (j-21)else none) (if j-21<6 then m.rn (j-21)else 0) (if j-21<6 then rc (j-21)else 0)=Value.slice (ra (j-21)) (m.rn (j-21)) (rc (j-21));rw[d_ (by omega),d_ (by omega),d_ (by omega)]
theorem X3{w:World}{B:Nat}(h:wM w B 6 (KR m na nc ga gc tb ta tc ra rc 6)):wM w B 6 (atM m na nc ga gc tb ta tc ra rc):=by
 refine⟨fun i a => ?_,fun i j a b d g c => ?_⟩
 ·have:=h.1 i a;rw[yR a]at this;have e:(KR m na nc ga gc tb ta tc ra rc 6).rn i=m.rn i:=by show(if i<6 then m.rn i else 0)=_; rw[d_ a]
  rw[e]at this;exact this
 have:=h.2 i j a b d g;rw[yR a,yR b]at this;exact this c
end
end
set_option maxRecDepth 20000 in
set_option maxHeartbeats 1000000 in
theorem aco(m:kR)(p:Nat)(w:World)(h:Cb w p m)(bn1:m.s.nn<=1000)(bt1:m.tn<=1000) :
 Calls Tryz.prog 81 #[(pt p)] w fun e w' => ∃ p' m',e = .returned (pt p')/\m'.core=m.core/\um w' w.heap.size p' m'/\Below w.heap.size w w':=by
 have N:=h.c;have lp:p<w.heap.size:=N.lt (by omega);have bn:=h.bn;have bg:=h.bg;have bt:=h.bt;have han:=h.an;have hag:=h.ag;have hat:=h.at2;have htc:=h.tc;have Ru:m.tb<w.heap.size:=htc.lt (by omega);refine Kent Tryz.func81 79 ?_;refine ay<|av (.pointer none)<|aD<|ay<|av (pt p)<|av (pt p)<|av (pt p)<|Lv (.agg (aA 20 (nQ m.s))) (fD N 0 (fun j hj=>(show lZ _ (0+j)=nQ _ j by rw[G_]; exact kF _ hj rfl)))<|av (.agg (aA 1 (fun _ => .slice none 0 0)))<|pR fun b w1 mo m1 s1 z1 => ?_;have⟨m2,m3,b1⟩:=iy s1.old N htc (Below.refl w.heap.size w);have sM:=gT mo;have nG:p≠b:=by rw[mo]; exact u_ (N.lt (by omega))
 have Ue:m.tb≠b:=by rw[mo]; exact u_ (htc.lt (by omega))
 have ug:=m1.lt;refine av (.agg (aA 27 (bK (bK (fun o=>if o<12 then .bool false else if o<18 then aC 0 else if o<20 then .slice none 0 0 else if o<21 then .pointer none else .slice none 0 0) 0 20 (nQ m.s)) 20 1 (fun _=>(pt b)))))<|Dy (m:=27) (y:=bK (bK (fun o=>if o<12 then .bool false else if o<18 then aC 0 else if o<20 then .slice none 0 0 else if o<21 then .pointer none else .slice none 0 0) 0 20 (nQ m.s)) 20 1 (fun _=>(pt b))) (by rfl) rfl rfl (bI _ _) rfl fun a w2 V m4 s2 z2 => ?_;have⟨m5,m6,m7,b2⟩:=kV s2.old m2 m3 m1 b1;have ru:=iQ V b1.size;have OM:p≠a:=by rw[V]; exact u_ (m2.lt (by omega))
 have aak:m.tb≠a:=by rw[V]; exact u_ (m3.lt (by omega))
 have OO:=cK V m1.lt;have zK:=m4.lt;refine av (pt a)<|aD<|ay<|av (pt a)<|Fx.L.Om (s:=56) (by rfl) rfl Tryz.underlying47 (by kernel_rfl) rfl fun g3 w3 zZ hO1 s3 => ?_;have P:Fx.Own w3 w.heap.size 84 56 (bO g3 0 0) 0 (JV m):=hO1 _ _ (by rw[zZ]; exact b2.size);have⟨m9,m10,m11,m12,S⟩:=qU s3.old m5 m6 m7 m4 b2;refine av (pt p)<|av (pt p)<|av (pt p)<|av (pf p 18)<|Lv (.slice m.s.na (m.s.nn) (m.s.nc)) (aM m9 18)<|Fx.L.IU (B:=w.heap.size) (s:=56) (bytes:=448) (k:=0) (m:=m.s.nn) (v:=bO g3 0 0) (x:=JV m) (by rfl) rfl rfl rfl Tryz.underlying47 (by kernel_rfl) (by kernel_rfl) rfl rfl P (han.up S rfl) (fun j _=>XV m j) (by omega) (by omega) S.size fun vv1 w4 ho1 X wB => ?_;rw[G_]at ho1;obtain⟨C,E,rfl⟩:=ho1.val;have gV:=zl X P;have m14:=m9.grown X (P.not (by omega));have m15:=m10.grown X (P.not (by omega));have⟨m16,m17⟩:=BM gV m11 m12;have m13:Fx.Own w4 w.heap.size 84 56 (.slice C (m.s.nn) (E)) m.s.nn (JV m):=(ho1.congr (fun j _=>app0 j));have b4:Below w.heap.size w w4:=zi S X S.size (fun q l=>(P.ge l).1);refine av (pt a)<|av (pt a)<|av (pf a 18)<|jg m17 18 (.slice C (m.s.nn) (E)) fun w5 m18 s4 z3 => ?_;have m19:=m14.cO s4 (by omega);have m20:=m15.cO s4 (by omega);have ku:=gP s4 m17.ty;have⟨m21,m22⟩:=BM ku m16 m13;have b5:=s4.below b4 b4.size (by omega);refine aD<|ay<|av (pt a)<|Fx.L.Om (s:=5) (by rfl) rfl Tryz.underlying48 (by kernel_rfl) rfl fun g4 w6 MS hO2 s5 => ?_;have O:Fx.Own w6 w.heap.size 106 5 (bO g4 0 0) 0 (Jd m):=hO2 _ _ (by rw[MS]; exact b5.size);have⟨m24,mQ,nH,oq,oL,T⟩:=rT s5.old m19 m20 m21 m22 m18 b5;refine av (pt p)<|av (pt p)<|av (pt p)<|av (pf p 19)<|Lv (.slice m.s.ga (m.s.gn) (m.s.gc)) (aM m24 19)<|Fx.L.IU (B:=w.heap.size) (s:=5) (bytes:=40) (k:=0) (m:=m.s.gn) (v:=bO g4 0 0) (x:=Jd m) (by rfl) rfl rfl rfl Tryz.underlying48 (by kernel_rfl) (by kernel_rfl) rfl rfl O (hag.up T rfl) (fun j _=>XW m j) (by omega) (by omega) T.size fun vv2 w7 ho2 Y M9 => ?_;rw[G_]at ho2;obtain⟨D,F,rfl⟩:=ho2.val;have rX:=zl Y O;have oC:=m24.grown Y (O.not (by omega));have mI:=mQ.grown Y (O.not (by omega));have⟨m32,qB,nV⟩:=DF rX nH oq oL;have oM:Fx.Own w7 w.heap.size 106 5 (.slice D (m.s.gn) (F)) m.s.gn (Jd m):=(ho2.congr (fun j _=>app0 j));have b7:Below w.heap.size w w7:=zi T Y T.size (fun q l=>(O.ge l).1);refine av (pt a)<|av (pt a)<|av (pf a 19)<|jg nV 19 (.slice D (m.s.gn) (F)) fun w8 qC s6 z4 => ?_;have oN:=oC.cO s6 (by omega);have sP:=mI.cO s6 (by omega);have zV:=gP s6 nV.ty;have⟨qX,qY,uI⟩:=DF zV m32 qB oM;have b8:=s6.below b7 b7.size (by omega);refine aD<|Ws ?_;refine zC [0,1,2,4,5,6,11,12,13,3,7,8,9,10,14,15,16,17,18,19,20,21] [0,0,0,1,0,0,0,4,0,0,4,0,0,0,4,0,0,4,2,0,0,3] (iP [153]) vM Fx.iP.trans (fG := [(21,3,[3]),(18,7,[10,9,8,7]),(21,7,[7]),(18,10,[10]),(21,10,[10]),(18,14,[17,16,15,14]),(21,14,[14]),(18,17,[17]),(21,17,[17]),(19,18,[18]),(20,18,[18]),(21,18,[18])]) (by kernel_rfl) (by kernel_rfl) (by kernel_rfl) (by kernel_rfl) (by kernel_rfl) fun I dP iE => ?_;have⟨nI,nJ,nK,rY,qK,oO,U⟩:=jR dP oN sP qX qY uI qC b8;refine aY (pt a)<|aY (pt a)<|aY (pf a 20)<|aY (pt a)<|aY (pt a)<|aY (pf a 20)<|aY (pt p)<|aY (pt p)<|aY (pf p 20)<|Rd (v:=(pt b)) (by rfl) (by rfl) (vM _) (fun v1 hv1=>bC (x:=dD (dD (bK (bK (fun o=>if o<12 then .bool false else if o<18 then aC 0 else if o<20 then .slice none 0 0 else if o<21 then .pointer none else .slice none 0 0) 0 20 (nQ m.s)) 20 1 (fun _=>(pt b))) 18 (.slice C (m.s.nn) (E))) 19 (.slice D (m.s.gn) (F))) rfl rfl (by kernel_rfl) (oO.kN hv1 (by decide)).aH (i:=20) (by omega) (by omega) (Fx.AL (by omega) (Fx.AL (by omega) (Fx.qy (j:=0) (by omega) (by omega) rfl)))) ?_;refine Rs (pt b) (aM oO.aH 20 (Fx.AL (by omega) (Fx.AL (by omega) (Fx.qy (j:=0) (by omega) (by omega) rfl)))) ?_;refine aY (pt b)<|aY (pt b)<|Rs (.slice none 0 0) (aM nK.aH 0) ?_;refine Rs (pt m.tb) (aM nI 20) ?_;refine aY (pt m.tb)<|aY (pt m.tb)<|Rs (.slice m.ta (m.tn) (m.tc)) (aM nJ 0) ?_;refine xM<|Fx.L.IU (B:=w.heap.size) (s:=2) (bytes:=16) (k:=0) (m:=m.tn) (v := .slice none 0 0) (x:=Qo m.t) (by rfl) rfl rfl rfl Tryz.underlying154 (by kernel_rfl) (by kernel_rfl) rfl rfl (wX I w.heap.size 153 2 (Qo m.t)) (hat.up U rfl) (fun _ _=>rfl) (by omega) (by omega) U.size fun vv3 w9 ho3 A avm => ?_;rw[G_]at ho3
 obtain⟨u,z,rfl⟩:=ho3.val;have zn:=zl A (wX I w.heap.size 153 2 (Qo m.t));have hq1:Below I.heap.size I w9:=⟨A.os,A.tape,A.output,A.size,fun q l=>A.block q l (fun e=>by cases e)⟩
 have xE:=nI.cO (Sb hq1) (u_ (nI.lt (by omega)));have hq2:Below I.heap.size I w9:=⟨A.os,A.tape,A.output,A.size,fun q l=>A.block q l (fun e=>by cases e)⟩
 have uh:=nJ.cO (Sb hq2) (u_ (nJ.lt (by omega)));have⟨tL,xq,wC,uJ⟩:=Kg zn nK rY qK oO;have sQ:Fx.Own w9 w.heap.size 153 2 (.slice u (m.tn) (z)) m.tn (Qo m.t):=(ho3.congr (fun j _=>app0 j));have b10:Below w.heap.size w w9:=zi U A U.size (fun q l=>((wX I w.heap.size 153 2 (Qo m.t)).ge l).1);refine Ln ⟨zn,?_⟩;refine aY (pt b)<|aY (pt b)<|gQ<|jg tL 0 (.slice u (m.tn) (z)) fun sO wD s8 z5 => ?_;have xY:aR sO b 1 (fun _ => .slice u (m.tn) (z)) 156:=dG wD;have uK:=xE.cO s8 (by omega);have sU:=uh.cO s8 (by omega);have zo:=gP s8 tL.ty;have⟨tN,xZ,qZ,vN⟩:=Kg zo xq wC uJ sQ;have b11:=s8.below b10 b10.size (by omega);refine Ln<|bS<|Ws<|ay<|av (au 0)<|aD<|Wb ?_;have oD:aR sO a 27 (lZ (KR m C E D F b u z (fun _=>none) (fun _=>0) 0)) 56:=qZ.congr (fun j hj=>by rcases j with _|_|_|_|_|_|_|_|_|_|_|_|_|_|_|_|_|_|_|_|_|_|_|_|_|_|_|j <;> first|rfl|omega)
 have uj:=wM.zero sO w.heap.size (KR m C E D F b u z (fun _=>none) (fun _=>0) 0);refine Wo (fun f H => ∃ k:Nat,∃ ra:Nat->Option Addr,∃ rc:Nat->Nat,k<=6/\f 0=(pt p)/\f 3=(pt a)/\f 4=au (k:Int)/\iN H p 0 27 (lZ m)/\Fx.Own H w.heap.size 84 56 (.slice C (m.s.nn) (E)) m.s.nn (JV m)/\Fx.Own H w.heap.size 106 5 (.slice D (m.s.gn) (F)) m.s.gn (Jd m)/\Fx.Own H w.heap.size 153 2 (.slice u (m.tn) (z)) m.tn (Qo m.t)/\aR H b 1 (fun _ => .slice u (m.tn) (z)) 156/\aR H a 27 (lZ (KR m C E D F b u z ra rc k)) 56/\wM H w.heap.size k (KR m C E D F b u z ra rc k)/\Below w.heap.size w H) (fun f _=>(6-(intOf (f 4)).toNat)) ⟨0,(fun _=>none),(fun _=>0),by omega,(by rfl),(by rfl),Fx.ic,uK,tN,xZ,vN,xY,oD,uj,b11⟩ ?_;rintro f1 Gi ⟨k,ra,rc,hk,h1,W,J,m64,xG,xu,vO,xH,sV,vP,b12⟩;refine Ws<|ay<|bf J ?_;by_cases c57:(k:Int)<6
 ·refine Lv aG (iq c57)<|aD<|aO<|Wk<|sN<|Ws<|Wb ?_;have brk:=h.br k (by omega);have uT:=N.below b12 lp;refine zC [0,1,2,3,4,5,6,8,9,10,11,12,15,16,7,13,14,17,18] [0,0,0,0,0,0,0,4,0,0,0,0,0,4,2,0,0,0,3] (iP [23]) vM Fx.iP.trans (fG := [(14,7,[7]),(18,7,[7]),(14,13,[13]),(18,13,[13]),(17,14,[14]),(18,14,[14])]) (by kernel_rfl) (by kernel_rfl) (by kernel_rfl) (by kernel_rfl) (by kernel_rfl) fun G gG nU => ?_;have⟨vQ,vR,zJ,xw,zq,zu,yP,xA,R⟩:=BL gG m64 xG xu vO xH sV vP uT b12;refine bW W<|bW J<|bW W<|bW J<|aY (pt a)<|aY (pf a 21)<|Rp (pf a (k+21)) (fun _=>jM 6 1)<|bW h1<|bW J<|aY (pt p)<|aY (pf p 21)<|Rp (pf p (k+21)) (fun _=>jM 6 1)<|aY (pt a)<|aY (pf a 21)<|Rs (.slice none 0 0) (aM zu.aH (k+21) (XZ (by omega))) ?_;refine Rs (.slice (m.ra k) (m.rn k) (m.rc k)) (aM vQ (k+21) (wK _ (by omega))) ?_;refine xM<|Fx.L.IU (B:=w.heap.size) (s:=1) (bytes:=8) (k:=0) (m:=(m.rn k)) (v := .slice none 0 0) (x:=rv .u64 (m.rq k)) (by rfl) rfl rfl rfl Tryz.underlying53 (by kernel_rfl) (by kernel_rfl) rfl rfl (wX G w.heap.size 23 1 (rv .u64 (m.rq k))) ((h.ar k (by omega)).up R rfl) (fun _ _=>rfl) (by omega) (by omega) R.size fun vv4 Q ho4 d alB => ?_;rw[G_]at ho4;obtain⟨K,M,rfl⟩:=ho4.val;have Bb:=zl d (wX G w.heap.size 23 1 (rv .u64 (m.rq k)));have hq3:Below G.heap.size G Q:=⟨d.os,d.tape,d.output,d.size,fun q l=>d.block q l (fun e=>by cases e)⟩
  have wF:=vQ.cO (Sb hq3) (u_ (vQ.lt (by omega)));have⟨yc,zW,yg,AZ,Ay⟩:=qV Bb vR zJ xw zq zu;have hq4:Below G.heap.size G Q:=⟨d.os,d.tape,d.output,d.size,fun q l=>d.block q l (fun e=>by cases e)⟩
  have Az:=yP.up hq4;have hq5:Below G.heap.size G Q:=⟨d.os,d.tape,d.output,d.size,fun q l=>d.block q l (fun e=>by cases e)⟩
  have zX:=xA.cO (Sb hq5) (u_ (xA.lt (by omega)));have wE:Fx.Own Q w.heap.size 23 1 (.slice K (m.rn k) (M)) (m.rn k) (rv .u64 (m.rq k)):=(ho4.congr (fun j _=>app0 j));have b14:Below w.heap.size w Q:=zi R d R.size (fun q l=>((wX G w.heap.size 23 1 (rv .u64 (m.rq k))).ge l).1);have hf1:=yP.fresh alB;refine Ln ⟨Bb,?_⟩;refine Rp (pf a (k+21)) (fun _=>jM 6 1)<|gQ<|jg Ay (k+21) (.slice K (m.rn k) (M)) fun Gt zY Z z6 => ?_;have A8:=wF.cO Z (by omega);have EZ:=gP Z Ay.ty;have⟨ET,DT,Ce,Dc,Ae⟩:=qV EZ yc zW yg AZ Az;have Gj:=zX.cO Z (by omega);have Ef:=kQ EZ wE;have b15:=Z.below b14 b14.size (by omega);refine Ln<|Rn<|bR<|sN<|Wl<|bf J<|Lv (au ((k:Int)+1)) fC<|av (au ((k:Int)+1))<|Ln ?_;have Gl:aR Gt a 27 (lZ (KR m C E D F b u z (aI ra k K) (aI rc k M) (k+1))) 56:=zY.to (Ud (by omega));have Gu:wM Gt w.heap.size (k+1) (KR m C E D F b u z (aI ra k K) (aI rc k M) (k+1)):=X0 Ae Ef hf1
  skip
  refine ig ⟨k+1,(aI ra k K),(aI rc k M),by omega,h1,W,Fx.ic,A8,ET,DT,Ce,Dc,Gl,Gu,b15⟩ ?_;show(6-(intOf (au ((k:Int)+1))).toNat)<_;simp only[J,intOf]; omega
 refine Lv aF (iw c57)<|aD<|aK<|Wx<|bZ<|gL<|cu<|sN<|ay<|bf W<|av (pt a)<|aD<|Wr<|aJ (pt a) ?_;have ek:k=6:=by omega
 subst ek;exact⟨a,atM m C E D F b u z ra rc,rfl,rfl,{ c:=sV.congr agB,n:=xG,g:=xu,tc:=xH,t:=vO,r:=X3 vP,pB:=ru,tB:=sM,bn:=bn1,bg:=bg,bt:=bt1,br:=h.br },b12⟩
namespace Rt
def mK(id:Nat->Int)(o:Int):Nat->Nat
 | 0=>0
 | n+1=>mK id o n+if id n / 1099511627776=o then 1 else 0
theorem Uf{id:Nat->Int}{o:Int}{c k:Nat}(h:c=mK id o k)(e:id k / 1099511627776=o):c+1=mK id o (k+1):=by unfold mK; rw[d_ e,h]
theorem X4{id:Nat->Int}{o:Int}{c k:Nat}(h:c=mK id o k)(e : ¬ id k / 1099511627776=o):c=mK id o (k+1):=by unfold mK; rw[b_ e,h]; rfl
noncomputable def kI(L:eY)(v:EvM):Int:=if 5<=mK L.id v.o L.nn\/140737488355328<v.aQ then 6 else jI L.t L.tn (jo v.o v.seq) v.node
def sF(f:Nat->Int)(n:Nat)(x:Int):Nat:=down (fun i=>decide (x<f i)) n
def qD(L:eY)(v:EvM):eY :=
 { L with nn:=L.nn+1,id:=cB L.id (sF L.id L.nn (jo v.o v.seq)) (jo v.o v.seq),par:=cB L.par (sF L.id L.nn (jo v.o v.seq)) v.node,
          R:=cB L.R (sF L.id L.nn (jo v.o v.seq)) (upd (fun _=>0) (v.o-1).toNat v.aQ),
          tn:=L.tn+1,t:=oQ L.t (down (fun i=>decide (jo v.o v.seq<L.t i 0)) L.tn) (jo v.o v.seq) v.node }
theorem Ug{id par:Int}(j:Nat):bK (bK (fun c=>if c<2 then aC 0 else au 0) 0 1 (fun _=>aC id)) 1 1 (fun _=>aC par) j=mG id par (fun _=>0) j:=by
 unfold bK mG;by_cases a:j=0
 ·subst a; rfl
 by_cases b:j=1
 ·subst b; rfl
 rw[b_ (by omega),b_ (by omega),b_ a,b_ b]; show(if j<2 then _ else _)=_; rw[b_ (by omega)]
theorem OP{id par:Int}{R:Nat->Int}{a q:Nat}{x:Int}(d:q=a+2):dD (mG id par R) q (au x)=mG id par (upd R a x):=by
 subst d
 funext p
 unfold dD mG upd;by_cases h:p=a+2
 ·subst h; rw[d_ rfl,b_ (by omega),b_ (by omega),d_ (by omega)]
 rw[b_ h];by_cases b:p=0
 ·rw[d_ b,d_ b]
 by_cases c:p=1
 ·rw[b_ b,d_ c,b_ b,d_ c]
 rw[b_ b,b_ c,b_ b,b_ c,b_ (by omega)]
theorem OQ{id par:Nat->Int}{R:Nat->Nat->Int}{k:Nat}{a b:Int}{c:Nat->Int}:Fx.IW (fun d=>mG (id d) (par d) (R d)) k (mG a b c)=fun d=>mG (cB id k a d) (cB par k b d) (cB R k c d):=by
 funext i
 unfold Fx.IW cB;by_cases h:i<k
 ·simp only[d_ h]
 by_cases e:i=k
 ·simp only[b_ h,d_ e]
 simp only[b_ h,b_ e]
theorem Ht(m:kR)(a:Option Addr)(n c:Nat):dD (lZ m) 18 (.slice a n c)=lZ { m with s := { m.s with na:=a,nn:=n,nc:=c } }:=by
 funext p
 unfold dD lZ;by_cases h:p=18
 ·subst h; rfl
 rw[b_ h];by_cases e:p<20
 ·rw[d_ e,d_ e]; unfold nQ;by_cases b:p<6
  ·rw[d_ b,d_ b]
  by_cases d:p<12
  ·rw[b_ b,d_ d,b_ b,d_ d]
  by_cases f:p<18
  ·rw[b_ b,b_ d,d_ f,b_ b,b_ d,d_ f]
  rw[b_ b,b_ d,b_ f,b_ h,b_ b,b_ d,b_ f,b_ h]
 rw[b_ e,b_ e]
theorem yS{s:Nat}{z y:Nat->Value}(hy : ∀ j,(y j).oneCell'=true) : ∀ j,j<1*s->(bK z (0*s) s y j).oneCell'=true:=fun j a=>by
 unfold bK; rw[d_ (by omega)]; exact hy _
theorem Uh{f:Nat->Int}{n k j:Nat}{x:Int}(e:k=j+1)(h : ∀ i,k<=i->i<n->x<f i)(c:x<f j) : ∀ i,j<=i->i<n->x<f i:=fun i d b=>by
 by_cases a:i=j
 ·subst a; exact c
 ·exact h i (by omega) b
end Rt
theorem Rt.KS{t:Nat->Nat->Int}{tn:Nat}{id par:Int}(h:jI t tn id par=0):tn+1<=33:=by
 unfold jI at h;split at h; · cases h
 split at h; · cases h
 split at h; · cases h
 split at h; · cases h
 rename_i h4
 rcases Nat.lt_or_ge tn 32 with h5|h5
 ·omega
 exact M_ (Or.inl h5) h4
set_option maxRecDepth 20000 in
set_option maxHeartbeats 2000000 in
theorem X5(m:kR)(B p a D:Nat)(v:EvM)(w:World)(C:um w B p m)(u:B<=w.heap.size)(ha:a<6)(ho:v.o=(a:Int)+1)(bnn:m.s.nn<=900)(hD:bF m.t m.tn (aT m.t m.tn D v.node)<0)(hD2:D<=1000) :
 Calls Tryz.prog 124 #[(pt p),.agg (aA 14 (bM v))] w fun e w'=>e = .returned (au (kI m.core v))/\Below B w w'/\(kI m.core v=0 -> ∃ m',m'.core=qD m.core v/\um w' B p m'):=by
 have Ui:=C.c;have hLn:=C.n;have hLg:=C.g;have Uj:=C.tc;have Uk:=C.t;have hLr:=C.r;have Ul:=C.pB;have DU:=C.tB;have bn:=C.bn;have bg:=C.bg;have bt:=C.bt;have lpp:p<w.heap.size:=Ui.lt;have Ru:m.tb<w.heap.size:=Uj.lt;refine Kent Tryz.func124 132 ?_;refine ay<|pR fun I w1 mo m1 s1 z1 => ?_;have⟨m2,m3,m4,m5,m6,m7⟩:=rT s1.old Ui hLn hLg Uj Uk hLr;have b1:=eZ s1.old (Below.refl B w) u;have sM:=iQ mo (Below.refl B w).size;have⟨nG,xC⟩:=wh mo Ui.lt Uj.lt;have ug:=m1.lt;refine av (au 0)<|aD<|ay<|av (au 0)<|aD<|Ws<|ay<|av (au 0)<|aD<|Wb<|Wo (fun f z => ∃ k:Nat,∃ G:Nat,k<=m.s.nn/\G<=k/\G=mK m.id v.o k/\f 0=(pt p)/\f 3=(pt I)/\f 5=au (G:Int)/\f 6=au (k:Int)/\aR z p 27 (lZ m) 56/\Fx.Own z B 84 56 (.slice m.s.na (m.s.nn) (m.s.nc)) m.s.nn (JV m)/\Fx.Own z B 106 5 (.slice m.s.ga (m.s.gn) (m.s.gc)) m.s.gn (Jd m)/\aR z m.tb 1 (fun _ => .slice m.ta m.tn m.tc) 156/\Fx.Own z B 153 2 (.slice m.ta (m.tn) (m.tc)) m.tn (Qo m.t)/\wM z B 6 m/\aR z I 14 (bM v) 37/\Below B w z) (fun f _=>(m.s.nn-(intOf (f 6)).toNat)) ⟨0,0,by omega,by omega,rfl,(by rfl),(by rfl),Fx.ic,Fx.ic,m2,m3,m4,m5,m6,m7,m1,b1⟩ ?_;rintro f1 O ⟨k,G,hk,hcl,aa,J,K,h3,Y,m8,m9,m10,m11,m12,m13,W,b2⟩;refine Ws<|ay<|bf Y<|bf J<|av (pt p)<|av (pt p)<|av (pf p 18)<|Lv (.slice m.s.na (m.s.nn) (m.s.nc)) (aM m8.aH 18)<|av (au m.s.nn) ?_;by_cases c18:(k:Int)<(m.s.nn:Int)
 ·refine Lv aG (iq c18)<|aD<|aO<|Wk<|sN<|Ws<|Wb<|Ws ?_;refine uO<|dZ J<|aX (pt p)<|aX (pt p)<|aX (pf p 18)<|Qv (.slice m.s.na (m.s.nn) (m.s.nc)) (fun F E=>aM (m8.aH.dr E) 18)<|dZ Y ?_;obtain⟨Gm,eq1⟩:=m9.addr (by omega);have m15:Fx.Own O B 84 56 (bO Gm m.s.nn m.s.nc) m.s.nn (JV m):=m9.fH (L_ (fun q=>Value.slice q m.s.nn m.s.nc) eq1);refine Qv (pf Gm (56*k)) (fun F E=>dh 56 (hx:=(rfl.trans (L_ (fun q=>Value.slice q (m.s.nn) (m.s.nc)) eq1))))<|aX (pf Gm (56*k))<|Qv (aC (m.id k)) (fun F E=>aM (m15.aH.dr E) (56*k) (Fx.gJ (k:=k) (j:=0) (by omega) (by omega) rfl))<|Qv (aC ((m.id k) / 1099511627776)) (fun F E=>Fx.ZR (b:=40) (q:=1099511627776) rfl rfl rfl (by decide) (by decide))<|Qv (pt I) (fun F E=>jD K 0)<|Qv (au v.o) (fun F E=>aM (W.aH.dr E) 0)<|Qv (aC v.o) (fun F E=>dw rfl rfl (by kernel_rfl) Tryz.underlying23 (jP (by omega) rfl)) ?_;by_cases c34:((m.id k) / 1099511627776)=v.o
  ·refine Qv aG (fun F E=>eO c34)<|Qn ?_;rintro _ ⟨qd,rfl⟩;obtain⟨BZ,oU⟩ : ∃ F,F=World.drewN O qd:=⟨_,rfl⟩;rw[<- oU];have s2:Stp O.heap.size O BZ:=(by rw[oU]; exact Sb (je O qd));have⟨m16,m17,m18,m19,m20,m21,m22⟩:=jR s2.old m8 m10 m11 m12 m13 W m15;have b3:=eZ s2.old b2 u;clear oU;refine sN<|aO<|Wl<|bf h3<|Lv (au ((G:Int)+1)) fC<|av (au ((G:Int)+1))<|Ln<|bR<|sN<|Wl<|bf Y<|Lv (au ((k:Int)+1)) fC<|av (au ((k:Int)+1))<|Ln ?_;have m23:Fx.Own BZ B 84 56 (.slice m.s.na (m.s.nn) (m.s.nc)) m.s.nn (JV m):=m22.fH (L_ (fun q=>Value.slice q m.s.nn m.s.nc) eq1.symm);refine ig ⟨k+1,G+1,by omega,by omega,(Uf aa c34),J,K,Fx.ic,Fx.ic,m16,m23,m17,m18,m19,m20,m21,b3⟩ ?_;show(m.s.nn-(intOf (au ((k:Int)+1))).toNat)<_;simp only[Y,intOf]; omega
  refine Qv aF (fun F E=>fO c34)<|Qn ?_;rintro _ ⟨qd,rfl⟩;obtain⟨wq2,sG⟩ : ∃ F,F=World.drewN O qd:=⟨_,rfl⟩;rw[<- sG];have s3:Stp O.heap.size O wq2:=by rw[sG]; exact Sb (je O qd)
  have⟨m24,mQ,nH,oq,oL,oM,oC⟩:=jR s3.old m8 m10 m11 m12 m13 W m15;have b4:=eZ s3.old b2 u;clear sG;refine sN<|aK<|Wk<|bR<|sN<|Wl<|bf Y<|Lv (au ((k:Int)+1)) fC<|av (au ((k:Int)+1))<|Ln ?_;have mI:Fx.Own wq2 B 84 56 (.slice m.s.na (m.s.nn) (m.s.nc)) m.s.nn (JV m):=oC.fH (L_ (fun q=>Value.slice q m.s.nn m.s.nc) eq1.symm);refine ig ⟨k+1,G,by omega,by omega,(X4 aa c34),J,K,(h3.trans Fx.ic),Fx.ic,m24,mI,mQ,nH,oq,oL,oM,b4⟩ ?_;show(m.s.nn-(intOf (au ((k:Int)+1))).toNat)<_;simp only[Y,intOf]; omega
 refine Lv aF (iw c18)<|aD<|aK<|Wx<|bZ<|gL<|cu<|sN<|Ws<|ay<|bf h3 ?_;by_cases c38:5<=(G:Int)
 ·refine Lv aG (kP c38)<|av aG<|dB<|dB<|dB<|av aG<|aD<|aO<|ay<|av (au 6)<|aD<|Wr<|sR<|aJ (au 6) ?_;have N:k=m.s.nn:=by omega
  subst N;have H:kI m.core v=6:=d_ (.inl (by rw[show mK m.core.id v.o m.core.nn=G from aa.symm]; omega));exact⟨pU H.symm,b2,fun U=>by rw[H]at U; cases U⟩
 refine Lv aF (kr c38)<|av aF<|Lv (pf I 11) (jD K 11)<|Lv (au v.aQ) (aM W.aH 11) ?_;by_cases SK:140737488355328<v.aQ
 ·refine Lv aG (ng SK)<|av aG<|aD<|aO<|ay<|av (au 6)<|aD<|Wr<|sR<|aJ (au 6) ?_;have N:k=m.s.nn:=by omega
  subst N;have H:kI m.core v=6:=d_ (.inr (by omega));exact⟨pU H.symm,b2,fun U=>by rw[H]at U; cases U⟩
 refine Lv aF (ni SK)<|av aF<|aD<|aK<|Wk<|sN<|ay<|Lv (pt I) (jD K 0)<|Lv (au v.o) (aM W.aH 0)<|Lv (pf I 1) (jD K 1)<|Lv (aC v.seq) (aM W.aH 1)<|lU (aly v.o v.seq _) _ rfl<|av (aC (jo v.o v.seq))<|aD<|Ws ?_;refine jW [0,1,2,4,5,3,6,7,8] [0,0,0,4,0,0,4,3,0] [(7,3,[3]),(7,6,[6]),(8,7,[7])] fun qA dP iE => ?_;have⟨m32,qB,nV,qC,oN,sP,qX⟩:=jR dP m8 m9 m10 m11 m12 m13 W;have b5:=eZ dP b2 u;refine bW J<|aY (pt p)<|aY (pf p 20)<|aY (aC (jo v.o v.seq))<|Rp (pf I 9) (fun _=>jD K 9)<|Rs (pt m.tb) (aM m32.aH 20) ?_;refine Rs (aC v.node) (aM qX.aH 9) ?_;refine gQ<|dJ (agw B m.tb m.ta m.tn m.tc m.t (jo v.o v.seq) v.node D _ qC oN (fun e=>Fx.Ty.ne (oN.ty e) qC.ty (by decide) rfl) (m_ u b5.size) bt hD hD2) _ rfl ?_;rintro X ⟨agF,hcs1⟩;have hc1:iP [156,153] qA X:=Fx.iP.R3 agF (by rintro k (rfl|e) <;> first|exact⟨_,qC.ty,by decide⟩|exact⟨_,oN.ty e,by decide⟩)
 have qY:aR X p 27 (lZ m) 56:=m32.kN hc1 (by decide);have uI:Fx.Own X B 84 56 (.slice m.s.na (m.s.nn) (m.s.nc)) m.s.nn (JV m):=qB.kN hc1 (by decide);have nI:Fx.Own X B 106 5 (.slice m.s.ga (m.s.gn) (m.s.gc)) m.s.gn (Jd m):=nV.kN hc1 (by decide);have nJ:wM X B 6 m:=sP.kN hc1 (by decide);have nK:aR X I 14 (bM v) 37:=qX.kN hc1 (by decide);have b6:Below B w X:=Fx.jV.below b5 agF (by rintro k (rfl|e) <;> first|exact DU|exact(oN.ge e).1) (m_ u b5.size)
 rcases hcs1 with ⟨Q,hT1,hO1⟩|⟨Q,g9,X6,hT1,hO1,hne1⟩
 ·refine Ln<|aY (au (jI m.t m.tn (jo v.o v.seq) v.node))<|bS<|Ws<|ay<|av (au (jI m.t m.tn (jo v.o v.seq) v.node))<|Lv aG (nk Q)<|aD<|aO<|ay<|av (au (jI m.t m.tn (jo v.o v.seq) v.node))<|av (au (jI m.t m.tn (jo v.o v.seq) v.node))<|aD<|Wr<|sR<|aJ (au (jI m.t m.tn (jo v.o v.seq) v.node)) ?_;have N:k=m.s.nn:=by omega
  subst N;have H:kI m.core v=jI m.t m.tn (jo v.o v.seq) v.node:=b_ (fun h=>h.elim (fun h=>by rw[show mK m.core.id v.o m.core.nn=G from aa.symm]at h; omega) (fun h=>by omega));exact⟨pU H.symm,b6,fun U=>M_ (H.symm.trans U) Q⟩
 refine Ln<|aY (au (jI m.t m.tn (jo v.o v.seq) v.node))<|bS<|Ws<|ay<|av (au (jI m.t m.tn (jo v.o v.seq) v.node))<|Lv aF (jQ Q)<|aD<|aK<|Wk<|sN<|ay<|av (aC (jo v.o v.seq))<|Lv (pf I 9) (jD K 9)<|Lv (aC v.node) (aM nK.aH 9)<|av (.agg (aA 56 (bK (bK (fun L=>if L<2 then aC 0 else au 0) 0 1 (fun _=>aC (jo v.o v.seq))) 1 1 (fun _=>aC v.node))))<|rR 56 (fun L=>if L<2 then aC 0 else au 0) fun M w4 AA rY s5 z2 => ?_;have⟨qK,oO,sQ,xE,uh,tL,xq⟩:=jR s5.old qY uI nI nJ nK hT1 hO1;have b7:=eZ s5.old b6 u;have ru:=iQ AA b6.size;have alD:=cK AA qY.lt;have E5:(.slice m.s.na (m.s.nn) (m.s.nc):Value).ownBlock≠some M:=by rw[AA]; exact uI.ko (A_ _)
 have⟨alE,alF,acr⟩:=EK AA nK.lt hT1.lt hO1.lt;have zK:=rY.lt;refine eP rY 0 (h1:=(bP (bP (fun jq _=>by show((fun L=>if L<2 then aC 0 else au 0:Nat->Value) jq).oneCell'=true; simp only[]; repeat (first|rfl|split)) (fun _ _=>rfl)) (fun _ _=>rfl))) fun w5 wC s6 z3 => ?_
 have uJ:aR w5 M 56 (bK (bK (fun L=>if L<2 then aC 0 else au 0) 0 1 (fun _=>aC (jo v.o v.seq))) 1 1 (fun _=>aC v.node)) 84:=aS wC;have gV:=gP s6 rY.ty;have wD:=kQ gV qK;have xY:=oO.cO s6 E5;have⟨uK,sU,tN,xZ,qZ⟩:=qV gV sQ xE uh tL xq;have b8:=s6.below b7 (m_ u b7.size) (by omega);refine aD<|Ws ?_;have vN:aR w5 M 56 (mG (jo v.o v.seq) v.node (fun _=>0)) 84:=uJ.congr (fun j hj=>Ug j);refine Wl<|Lv (pt I) (jD K 0)<|Lv (au v.o) (aM tN.aH 0)<|Lv (au a) gD<|Lv (pf I 11) (jD K 11)<|Lv (au v.aQ) (aM tN.aH 11)<|av (pf M 2)<|av (pf M 2)<|Lv (pf M (a+2)) (jM 6 1)<|jg vN (a+2) (au v.aQ) fun w6 oD s7 z4 => ?_;have uj:aR w6 M 56 (mG (jo v.o v.seq) v.node (upd (fun _=>0) a v.aQ)) 84:=oD.to (OP (by omega));have ku:=gP s7 vN.ty;have m64:=kQ ku wD;have xG:=xY.cO s7 E5;have⟨xu,vO,xH,sV,vP⟩:=qV ku uK sU tN xZ qZ;have b9:=s7.below b8 (m_ u b8.size) (by omega);refine aD<|Ws ?_;have ek0:k=m.s.nn:=by omega
 obtain⟨cn0,agH,hc38⟩ : ∃ cn0,cn0=mK m.id v.o m.s.nn /\ ¬ (5:Int)<=(cn0:Int):=⟨G,by rw[<- ek0]; exact aa,c38⟩;clear aa hcl ek0;refine Wl<|bf J<|av (pt p)<|av (pt p)<|av (pf p 18)<|Lv (.slice m.s.na (m.s.nn) (m.s.nc)) (aM m64.aH 18)<|av (au m.s.nn)<|av (au m.s.nn)<|aD<|Ws ?_;refine zC [0,1,2,3,4,5,6,7,8,9,10,11,12] [0,0,0,0,0,1,4,2,2,0,0,0,3] (iP [84]) vM Fx.iP.trans (fG := [(12,5,[5]),(7,6,[6]),(8,6,[7,6]),(12,6,[6]),(8,7,[7]),(9,7,[7]),(10,7,[7]),(11,7,[7]),(12,7,[7]),(9,8,[8]),(10,8,[8]),(11,8,[8]),(12,8,[8])]) (by kernel_rfl) (by kernel_rfl) (by kernel_rfl) (by kernel_rfl) (by kernel_rfl) fun Da gG nU => ?_;have⟨uT,vQ,vR,zJ,xw,zq,zu,yP⟩:=ny gG m64 xG xu vO xH sV vP uj;have b10:=eZ gG b9 u;refine bW J<|bW J<|aY (pt p)<|aY (pt p)<|aY (pf p 18)<|Rd (v := .slice m.s.na (m.s.nn) (m.s.nc)) (by rfl) (by rfl) (vM _) (fun F E=>bC (x:=lZ m) rfl rfl (by kernel_rfl) (uT.kN E (by decide)).aH (i:=18) (by omega) (by omega) rfl) ?_;refine Rs (.agg (aA 56 (mG (jo v.o v.seq) v.node (upd (fun _=>0) a v.aQ)))) (fD yP.aH 0) ?_;refine xM<|yK (vs := [(0,.agg (aA 56 (mG (jo v.o v.seq) v.node (upd (fun _=>0) a v.aQ))))]) (s:=56) (zc:=fun L=>if L<2 then aC 0 else au 0) (y:=bK (fun j=>(fun L=>if L<2 then aC 0 else au 0) (j % 56)) (0*56) 56 (mG (jo v.o v.seq) v.node (upd (fun _=>0) a v.aQ))) (by rfl) rfl rfl Tryz.underlying47 (by kernel_rfl) (by rfl) (by rfl) (by kernel_rfl) (by rw[bG (off:=0*56) (s:=56) (y:=mG (jo v.o v.seq) v.node (upd (fun _=>0) a v.aQ)) rfl (bI _ _) (by rfl)]; rfl) rfl fun g3 w7 zZ xA s9 z5 => ?_;have⟨wE,wF,yc,zW,yg,AZ,Ay,Az⟩:=ny s9.old uT vQ vR zJ xw zq zu yP;have b11:=eZ s9.old b10 u;have C9:=iQ zZ b10.size;have alH:=cK zZ uT.lt;have alI:(.slice m.s.na (m.s.nn) (m.s.nc):Value).ownBlock≠some g3:=by rw[zZ]; exact vQ.ko (A_ _)
 have⟨alJ,acs,Jg,acu⟩:=PY zZ xw.lt zq.lt zu.lt yP.lt;have JR:=xA.lt;refine Ln ⟨Fx.iP.of_below s9.old,?_⟩;refine xM<|zk (B:=B) (s:=56) (bytes:=448) (k:=m.s.nn) (m:=1) (v := .slice m.s.na (m.s.nn) (m.s.nc)) (x:=JV m) (by rfl) rfl rfl rfl Tryz.underlying47 (by kernel_rfl) (by kernel_rfl) rfl rfl wF xA.aH (yS (uZ _ _ _)) (by omega) (by omega) (by omega) (m_ u b11.size) fun l A w8 ho1 hg1 wB hlt1 => ?_;have rX:=zl hg1 wF;have⟨zY,A8,ET,DT,Ce,Dc⟩:=R7 rX wE yc zW yg AZ Ay;have Ae:=Az.grown hg1 E5;have alK:M≠l:=fun e=>wB.elim (fun e2=>E5 (by rw[e]; exact e2)) (fun e2=>by have:=Az.lt; omega);have zX:Fx.Own w8 B 84 56 (bO l (m.s.nn+1) A) (m.s.nn+1) (flat 56 (Fx.Ke (fun d=>mG (m.id d) (m.par d) (m.R d)) (mG (jo v.o v.seq) v.node (upd (fun _=>0) a v.aQ)) m.s.nn m.s.nn)):=(ho1.congr (fun j hj=>(Fx.xR j hj).trans (bJ (fun i V q _=>Fx.xS i V q) j hj)));have b12:Below B w w8:=zi b11 hg1 (m_ u b11.size) (fun q hq=>(wF.ge hq).1);refine Ln ⟨rX,?_⟩;refine aY (pt p)<|aY (pt p)<|aY (pf p 18)<|gQ<|jg zY 18 (bO l (m.s.nn+1) A) fun w9 Gj s10 z6 => ?_;have zV:=gP s10 zY.ty;have⟨Ef,Gl,Gu,wN,yj,wO,uo⟩:=R8 zV A8 ET DT Ce Dc Ae zX;have b13:=s10.below b12 (m_ u b12.size) (by omega);refine Ln<|bS<|Ws<|Wb<|Wo (fun f z => ∃ k:Nat,k<=m.s.nn/\(∀ i,k<=i->i<m.s.nn->(jo v.o v.seq)<m.id i)/\f 0=(pt p)/\f 7=aC (jo v.o v.seq)/\f 9=(pt M)/\f 10=au (k:Int)/\Fx.Own z B 106 5 (.slice m.s.ga (m.s.gn) (m.s.gc)) m.s.gn (Jd m)/\wM z B 6 m/\aR z I 14 (bM v) 37/\aR z m.tb 1 (fun _=>bO g9 (m.tn+1) X6) 156/\Fx.Own z B 153 2 (bO g9 (m.tn+1) X6) (m.tn+1) (rv .u64 (kZ (oQ m.t (down (fun i=>decide ((jo v.o v.seq)<m.t i 0)) m.tn) (jo v.o v.seq) v.node)))/\aR z M 56 (mG (jo v.o v.seq) v.node (upd (fun _=>0) a v.aQ)) 84/\aR z p 27 (dD (lZ m) 18 (bO l (m.s.nn+1) A)) 56/\Fx.Own z B 84 56 (bO l (m.s.nn+1) A) (m.s.nn+1) (flat 56 (Fx.Ke (fun d=>mG (m.id d) (m.par d) (m.R d)) (mG (jo v.o v.seq) v.node (upd (fun _=>0) a v.aQ)) m.s.nn k))/\Below B w z) (fun f _=>(intOf (f 10)).toNat) ⟨m.s.nn,by omega,(fun i J K=>M_ J (by omega)),J,Fx.ic,(by rfl),Fx.ic,Ef,Gl,Gu,wN,yj,wO,Gj,uo,b13⟩ ?_;rintro f2 sO ⟨k,hk,hgt,Z,h6,h7,P,pX,oV,qE,pY,rz,sH,vg,rA,b14⟩;refine Ws<|ay<|bf P ?_;by_cases c91:0<(k:Int)
 ·obtain⟨j,ej⟩ : ∃ j,k=j+1:=⟨k-1,by omega⟩;refine Lv aG (ng c91)<|av aG<|bf Z<|av (pt p)<|av (pt p)<|av (pf p 18)<|Lv (bO l (m.s.nn+1) A) (aM vg.aH 18 (Fx.lQ (by omega)))<|bf P<|Lv (au j) gD<|Lv (pf l (56*j)) (dh 56)<|av (pf l (56*j))<|Lv (aC (m.id j)) (aM rA.aH (56*j) (Fx.gJ (k:=j) (j:=0) (by omega) (by omega) ((congrFun (Fx.zD (by omega) (by omega)) 0).trans rfl)))<|bf h6 ?_;by_cases X7:(jo v.o v.seq)<(m.id j)
  ·refine Lv aG (ng X7)<|av aG<|aD<|aO<|Wk<|sN<|Wb<|Ws ?_;refine jW [0,1,2,3,5,6,7,8,9,11,12,4,10,13,14,15,16] [0,0,0,0,4,0,0,0,0,0,4,0,0,0,4,0,3] [(16,4,[4]),(16,10,[10]),(16,14,[14])] fun Rv lY AX => ?_;have⟨uq,zw,vk,zx,Cg,xI,uw,qF⟩:=ny lY pX oV qE pY rz sH vg rA;have b15:=eZ lY b14 u;refine bW Z<|aY (pt p)<|aY (pt p)<|aY (pf p 18)<|bW P<|bW Z<|aY (pt p)<|aY (pt p)<|aY (pf p 18)<|bW P<|Rp (au j) (fun _=>gD)<|Rs (bO l (m.s.nn+1) A) (aM uw.aH 18 (Fx.lQ (by omega))) ?_;refine Rs (bO l (m.s.nn+1) A) (aM uw.aH 18 (Fx.lQ (by omega))) ?_;refine Rp (pf l (56*j)) (fun _=>dh 56)<|Rs (.agg (aA 56 (mG (m.id j) (m.par j) (m.R j)))) (fD qF.aH (56*j) (fun jq hjq=>(Fx.jJ (k:=j) (by omega) hjq).trans (congrFun (Fx.zD (by omega) (by omega)) jq))) ?_;refine Rp (pf l (56*k)) (fun _=>dh 56)<|gQ<|zR qF (56*k) (h1:=(fun j _=>uZ _ _ _ j)) fun Gi yt s12 z7 => ?_;have zn:=gP s12 qF.Kc;have⟨yu,uy,Ch,Jh,E8⟩:=qV zn uq zw vk zx Cg;have Bc:=xI.cO s12 (by omega);have E9:=kQ zn uw;have b16:=s12.below b15 (m_ u b15.size) qF.blk.1;have Gv:Fx.Own Gi B 84 56 (bO l (m.s.nn+1) A) (m.s.nn+1) (flat 56 (Fx.Ke (fun d=>mG (m.id d) (m.par d) (m.R d)) (mG (jo v.o v.seq) v.node (upd (fun _=>0) a v.aQ)) m.s.nn j)):=yt.congr (fun T S=>(Fx.uN (k:=k) (by omega) T S).trans (bJ (fun i V q _=>Fx.yL ej (by omega) i V q) T S));refine Ln<|bS<|Wl<|bf P<|Lv (au j) gD<|av (au j)<|Ln<|bR<|ig ⟨j,by omega,(Uh ej hgt X7),Z,(h6.trans Fx.ic),h7,Fx.ic,yu,uy,Ch,Jh,E8,Bc,E9,Gv,b16⟩ ?_;show(intOf (au j)).toNat<_;simp only[P,intOf]; omega
  refine Lv aF (ni X7)<|av aF<|aD<|aK<|Wx<|bZ<|gL<|cu<|sN<|Ws ?_;refine jW [0,1,2,3,5,4,6,7,8] [0,0,0,0,4,0,4,0,3] [(8,4,[4]),(8,6,[6])] fun wt4 qJ G9 => ?_;have⟨Ci,Af,KT,Fa,Fb,Gw,Gx⟩:=jR qJ pX oV pY rz sH vg rA;have b17:=eZ qJ b14 u;refine bW Z<|aY (pt p)<|aY (pt p)<|aY (pf p 18)<|bW P<|Rs (bO l (m.s.nn+1) A) (aM Gw.aH 18 (Fx.lQ (by omega))) ?_;refine Rs (.agg (aA 56 (mG (jo v.o v.seq) v.node (upd (fun _=>0) a v.aQ)))) (fD Fb.aH 0 (ha:=h7)) ?_;refine Rp (pf l (56*k)) (fun _=>dh 56)<|gQ<|zR Gx (56*k) (h1:=(fun j _=>uZ _ _ _ j)) fun BR Cj BG z8 => ?_;have zo:=gP BG Gx.Kc;have⟨Fe,Ck,Fg,Ag⟩:=Kg zo Ci Af KT Fa;have Cm:=Fb.cO BG (by omega);have Bd:=kQ zo Gw;have b18:=BG.below b17 (m_ u b17.size) Gx.blk.1;have Ji:Fx.Own BR B 84 56 (bO l (m.s.nn+1) A) (m.s.nn+1) (flat 56 (Fx.IW (fun d=>mG (m.id d) (m.par d) (m.R d)) k (mG (jo v.o v.seq) v.node (upd (fun _=>0) a v.aQ)))):=Cj.congr (fun T S=>(Fx.uN (k:=k) (by omega) T S).trans (bJ (fun i V q _=>Fx.tF (by omega) i V q) T S));refine Ln<|bS<|ay<|av (au 0)<|aD<|Wr<|aJ (au 0) ?_;have H:kI m.core v=jI m.t m.tn (jo v.o v.seq) v.node:=b_ (fun h=>h.elim (fun h=>by rw[show mK m.core.id v.o m.core.nn=cn0 from agH.symm]at h; omega) (fun h=>by omega));have N:k=sF m.id m.s.nn (jo v.o v.seq):=Fx.pE hk (fun i a b=>f_ (hgt i a b)) (.inr (fun j2 e=>by rw[show j2=j by omega]; exact g_ X7));have Um:Fx.Own BR B 84 56 (bO l (m.s.nn+1) A) (m.s.nn+1) (flat 56 fun d=>mG (cB m.id k (jo v.o v.seq) d) (cB m.par k v.node d) (cB m.R k (upd (fun _=>0) a v.aQ) d)):=by rw[<- OQ]; exact Ji
  have eR:(upd (fun _=>0) a v.aQ)=upd (fun _=>0) (v.o-1).toNat v.aQ:=by rw[show(v.o-1).toNat=a by omega]
  have bn9:m.tn+1<=33:=KS Q;refine⟨pU (Q.symm.trans H.symm),b18,fun _=>⟨{ m with s := { m.s with na:=some ⟨l,0,none⟩,nn:=m.s.nn+1,nc:=A },id:=cB m.id k (jo v.o v.seq),par:=cB m.par k v.node,R:=cB m.R k (upd (fun _=>0) a v.aQ),ta:=some ⟨g9,0,none⟩,tn:=m.tn+1,tc:=X6,t:=oQ m.t (down (fun i=>decide ((jo v.o v.seq)<m.t i 0)) m.tn) (jo v.o v.seq) v.node },?_,?_⟩⟩
  ·unfold qD; rw[show sF m.core.id m.core.nn (jo v.o v.seq)=k from N.symm,<- eR]; rfl
  exact { c:=Bd.to (Ht m _ _ _),n:=Um,g:=Fe,tc:=Fg,t:=Ag,r:=Ck,pB:=Ul,tB:=DU,bn:=(by have:=bnn; show m.s.nn+1<=1000; omega),bg:=bg,bt:=(by show m.tn+1<=1000; omega),br:=C.br }
 refine Lv aF (ni c91)<|av aF<|dB<|dB<|dB<|dB<|dB<|dB<|dB<|dB<|dB<|dB<|dB<|dB<|av aF<|aD<|aK<|Wx<|bZ<|gL<|cu<|sN<|Ws ?_;refine jW [0,1,2,3,5,4,6,7,8] [0,0,0,0,4,0,4,0,3] [(8,4,[4]),(8,6,[6])] fun wt5 zI SQ => ?_;have⟨Un,Uo,Uq,acv,Ur,Qu,Ut⟩:=jR zI pX oV pY rz sH vg rA;have b19:=eZ zI b14 u;refine bW Z<|aY (pt p)<|aY (pt p)<|aY (pf p 18)<|bW P<|Rs (bO l (m.s.nn+1) A) (aM Qu.aH 18 (Fx.lQ (by omega))) ?_;refine Rs (.agg (aA 56 (mG (jo v.o v.seq) v.node (upd (fun _=>0) a v.aQ)))) (fD Ur.aH 0 (ha:=h7)) ?_;refine Rp (pf l (56*k)) (fun _=>dh 56)<|gQ<|zR Ut (56*k) (h1:=(fun j _=>uZ _ _ _ j)) fun Gt Uu s16 z9 => ?_;have Bb:=gP s16 Ut.Kc;have⟨acw,acy,Qw,acz⟩:=Kg Bb Un Uo Uq acv;have agI:=Ur.cO s16 (by omega);have acA:=kQ Bb Qu;have b20:=s16.below b19 (m_ u b19.size) Ut.blk.1;have acB:Fx.Own Gt B 84 56 (bO l (m.s.nn+1) A) (m.s.nn+1) (flat 56 (Fx.IW (fun d=>mG (m.id d) (m.par d) (m.R d)) k (mG (jo v.o v.seq) v.node (upd (fun _=>0) a v.aQ)))):=Uu.congr (fun T S=>(Fx.uN (k:=k) (by omega) T S).trans (bJ (fun i V q _=>Fx.tF (by omega) i V q) T S));refine Ln<|bS<|ay<|av (au 0)<|aD<|Wr<|aJ (au 0) ?_;have H:kI m.core v=jI m.t m.tn (jo v.o v.seq) v.node:=b_ (fun h=>h.elim (fun h=>by rw[show mK m.core.id v.o m.core.nn=cn0 from agH.symm]at h; omega) (fun h=>by omega));have N:k=sF m.id m.s.nn (jo v.o v.seq):=Fx.pE hk (fun i a b=>f_ (hgt i a b)) (.inl (by omega));have acC:Fx.Own Gt B 84 56 (bO l (m.s.nn+1) A) (m.s.nn+1) (flat 56 fun d=>mG (cB m.id k (jo v.o v.seq) d) (cB m.par k v.node d) (cB m.R k (upd (fun _=>0) a v.aQ) d)):=by rw[<- OQ]; exact acB
 have eR:(upd (fun _=>0) a v.aQ)=upd (fun _=>0) (v.o-1).toNat v.aQ:=by rw[show(v.o-1).toNat=a by omega]
 have bn9:m.tn+1<=33:=KS Q;refine⟨pU (Q.symm.trans H.symm),b20,fun _=>⟨{ m with s := { m.s with na:=some ⟨l,0,none⟩,nn:=m.s.nn+1,nc:=A },id:=cB m.id k (jo v.o v.seq),par:=cB m.par k v.node,R:=cB m.R k (upd (fun _=>0) a v.aQ),ta:=some ⟨g9,0,none⟩,tn:=m.tn+1,tc:=X6,t:=oQ m.t (down (fun i=>decide ((jo v.o v.seq)<m.t i 0)) m.tn) (jo v.o v.seq) v.node },?_,?_⟩⟩
 ·unfold qD; rw[show sF m.core.id m.core.nn (jo v.o v.seq)=k from N.symm,<- eR]; rfl
 exact { c:=acA.to (Ht m _ _ _),n:=acC,g:=acw,tc:=Qw,t:=acz,r:=acy,pB:=Ul,tB:=DU,bn:=(by have:=bnn; show m.s.nn+1<=1000; omega),bg:=bg,bt:=(by show m.tn+1<=1000; omega),br:=C.br }
namespace Rt
theorem og(x:Nat->Int)(n:Int)(is:Bool)(a:Int)(off:Nat) :
 ((bT x n is a off).1=zero/\(bT x n is a off).2≠0 /\ ¬ (may x=true/\1<=n/\n<=1125899906842624/\is=true/\a=0/\x off+n<=1125899906842624)) \/
 ((may x=true/\1<=n/\n<=1125899906842624/\is=true/\a=0/\x off+n<=1125899906842624)/\bT x n is a off=(upd x off (x off+n),0)):=by
 unfold bT;by_cases f:may x=true
 ·by_cases c:1<=n
  ·by_cases d:n<=1125899906842624
   ·rw[f,f_ c,f_ d];simp only[Bool.and_self,if_true]
    cases is
    ·left; exact⟨rfl,(by show(10:Int)≠0; decide),fun h=>by cases h.2.2.2.1⟩
    by_cases b:a=0
    ·by_cases e:x off+n<=1125899906842624
     ·right; exact⟨⟨trivial,c,d,rfl,b,e⟩,by rw[d_ rfl,d_ b,d_ e]⟩
     left; rw[d_ rfl,d_ b,b_ e]; exact⟨rfl,by decide,fun h=>e h.2.2.2.2.2⟩
    left; rw[d_ rfl,b_ b]; exact⟨rfl,b,fun h=>b h.2.2.2.2.1⟩
   left; rw[g_ d,I_,b_ (by decide)]; exact⟨rfl,by decide,fun h=>d h.2.2.1⟩
  left; rw[g_ c,I_,Bool.false_and,b_ (by decide)]; exact⟨rfl,by decide,fun h=>c h.2.1⟩
 left; rw[show may x=false by simpa using f,Bool.false_and,Bool.false_and,b_ (by decide)]; exact⟨rfl,by decide,fun h=>by cases h.1⟩
theorem Nb{x:Nat->Int}(h:Qm x){off:Nat}{n:Int}(h1:1<=n)(c:x off+n<=1125899906842624)(a:off<54):Qm (upd x off (x off+n)):=by
 intro p b;unfold upd;split
 ·have:=h off a; omega
 exact h p b
theorem pI{i:Int}(h:gW i=true) : ∃ a:Nat,a<6/\i=(a:Int)+1/\i.toNat-1=a:=by
 have:1<=i/\i<=6:=by unfold gW at h; simpa using h
 exact⟨(i-1).toNat,by omega,by omega,by omega⟩
structure Moved(x y:Nat->Int)(a b:Nat)(n:Int):Prop where
 may:may y=true
 l : ∀ k,k<6->L y k=L x k+(if k=b then n else 0)-(if k=a then n else 0)
 g:sD y=sD x
 u:nZ y=nZ x
theorem Bf{x:Nat->Int}{i j n:Int}(h:(dn x i j n).2=0) : ∃ a b:Nat,a<6/\b<6/\a≠b/\i=(a:Int)+1/\j=(b:Int)+1/\1<=n/\n<=1125899906842624/\n<=L x a/\Moved x (dn x i j n).1 a b n/\(dn x i j n).1=upd x (18+a*6+b) (x (18+a*6+b)+n):=by
 unfold dn at *
 rcases og x n (gW i&&gW j) (nX x i j n) (kY i j)with ⟨_,f,_⟩|⟨⟨hm,h1,f,hr,he,hx⟩,heq⟩
 ·exact M_ h f
 rw[S_]at hr;obtain⟨a,g,l,D⟩:=pI hr.1;obtain⟨b,m,q,E⟩:=pI hr.2;have s:kY i j=18+a*6+b:=by unfold kY; rw[D,E]
 rw[s]at heq hx;rw[s];have B:a≠b:=by
  intro z;unfold nX at he;rw[d_ (by rw[l,q,z])]at he
  cases he
 have y:n<=L x a:=by
  unfold nX at he;rw[b_ (by omega)]at he;by_cases d:fJ x i<n
  ·rw[f_ d]at he; cases he
  ·rw[l,nY hm a g]at d; omega
 obtain⟨e,t,w⟩:=(jT x).1 hm;have d:=acf x a b g m n;have c : ∀ p,p<18->upd x (18+a*6+b) (x (18+a*6+b)+n) p=x p:=fun p I=>gI _ _ _ _ (by omega);have o:sD (upd x (18+a*6+b) (x (18+a*6+b)+n))=sD x:=by unfold sD G; rw[c 0 (by omega),c 1 (by omega),c 2 (by omega),c 3 (by omega),c 4 (by omega),c 5 (by omega)]
 have A:(bT x n (gW i&&gW j) (nX x i j n) (18+a*6+b)).1=upd x (18+a*6+b) (x (18+a*6+b)+n):=by rw[heq]
 rw[A];refine⟨a,b,g,m,B,l,q,h1,f,y,⟨?_,d,o,?_⟩,rfl⟩
 ·rw[jT];refine⟨Nb e h1 hx (by omega),fun k r => ?_,by rw[o]; exact w⟩;obtain⟨H,u,v⟩:=t k r;refine⟨?_,?_,?_⟩
  ·rw[d k r];split
   ·split <;> omega
   split
   ·rename_i hka; subst hka; omega
   omega
  ·unfold F C at *; rw[c _ (by omega),c _ (by omega)]; exact u
  unfold R at *; rw[gI _ _ _ _ (by omega)]; exact v
 unfold nZ C F; simp only[c _ (show 6+0<18 by omega),c _ (show 6+1<18 by omega),c _ (show 6+2<18 by omega),c _ (show 6+3<18 by omega),c _ (show 6+4<18 by omega),c _ (show 6+5<18 by omega),c _ (show 12+0<18 by omega),c _ (show 12+1<18 by omega),c _ (show 12+2<18 by omega),c _ (show 12+3<18 by omega),c _ (show 12+4<18 by omega),c _ (show 12+5<18 by omega)]
theorem Fh(x:Nat->Int)(off:Nat)(c:off<18)(v:Int)(a b:Nat):R (upd x off v) a b=R x a b:=gI _ _ _ _ (by omega)
theorem Uv(x:Nat->Int)(off:Nat)(a:off<18)(v:Int)(k:Nat):L (upd x off v) k=L x k+(G (upd x off v) k-G x k)+(F (upd x off v) k-F x k)-(C (upd x off v) k-C x k):=by
 unfold L;simp only[Fh x off a v];omega
theorem agJ(x:Nat->Int)(a:Nat)(n:Int)(k:Nat):C (upd x (6+a) (x (6+a)+n)) k=C x k+(if k=a then n else 0):=by
 unfold C upd;by_cases h:k=a
 ·subst h; simp
 rw[b_ (by omega),b_ h]; omega
theorem agK(x:Nat->Int)(a:Nat)(n:Int)(k:Nat):F (upd x (12+a) (x (12+a)+n)) k=F x k+(if k=a then n else 0):=by
 unfold F upd;by_cases h:k=a
 ·subst h; simp
 rw[b_ (by omega),b_ h]; omega
theorem agL(x:Nat->Int)(a:Nat)(n:Int)(k:Nat):G (upd x a (x a+n)) k=G x k+(if k=a then n else 0):=by
 unfold G upd;by_cases h:k=a
 ·subst h; simp
 rw[b_ h,b_ h]; omega
theorem six(a:Nat)(ha:a<6)(n:Int):(if 0=a then n else 0)+(if 1=a then n else 0)+(if 2=a then n else 0)+(if 3=a then n else 0)+(if 4=a then n else 0)+(if 5=a then n else 0)=n:=by
 have:a=0\/a=1\/a=2\/a=3\/a=4\/a=5:=by omega
 rcases this with h|h|h|h|h|h <;> subst h <;> simp
theorem Jj{x:Nat->Int}{i n:Int}(h:(bD x i n).2=0) : ∃ a:Nat,a<6/\i=(a:Int)+1/\1<=n/\n<=1125899906842624/\n<=L x a/\C x a+n<=1125899906842624/\may (bD x i n).1=true /\
 (∀ k,k<6->L (bD x i n).1 k=L x k-(if k=a then n else 0))/\sD (bD x i n).1=sD x/\nZ (bD x i n).1=nZ x+n/\(bD x i n).1=upd x (6+a) (x (6+a)+n):=by
 unfold bD at *
 rcases og x n (gW i) (pW x i n) (6+(i.toNat-1))with ⟨_,j,_⟩|⟨⟨hm,h1,j,hr,he,hx⟩,heq⟩
 ·exact M_ h j
 obtain⟨a,l,o,p⟩:=pI hr;rw[p]at heq hx;rw[p];have t:n<=L x a:=by
  unfold pW at he;by_cases g:fJ x i<n
  ·rw[f_ g]at he; cases he
  ·rw[o,nY hm a l]at g; omega
 obtain⟨e,q,s⟩:=(jT x).1 hm;have u:(bT x n (gW i) (pW x i n) (6+a)).1=upd x (6+a) (x (6+a)+n):=by rw[heq]
 rw[u];have b:=agJ x a n;have f : ∀ k,k<6->G (upd x (6+a) (x (6+a)+n)) k=G x k:=fun k d=>gI _ _ _ _ (by omega);have c : ∀ k,k<6->F (upd x (6+a) (x (6+a)+n)) k=F x k:=fun k d=>gI _ _ _ _ (by omega);have g : ∀ k,k<6->L (upd x (6+a) (x (6+a)+n)) k=L x k-(if k=a then n else 0):=by
  intro k d;rw[Uv x (6+a) (by omega),f k d,c k d,b k]; omega
 have m:sD (upd x (6+a) (x (6+a)+n))=sD x:=by unfold sD; rw[f 0 (by omega),f 1 (by omega),f 2 (by omega),f 3 (by omega),f 4 (by omega),f 5 (by omega)]
 refine⟨a,l,o,h1,j,t,hx,?_,g,m,?_,rfl⟩
 ·rw[jT];refine⟨Nb e h1 hx (by omega),fun k d => ?_,by rw[m]; exact s⟩;obtain⟨v,w,r⟩:=q k d;refine⟨?_,?_,?_⟩
  ·rw[g k d];split
   ·rename_i hka; subst hka; omega
   omega
  ·rw[c k d,b k]; split <;> omega
  rw[Fh x (6+a) (by omega)]; exact r
 unfold nZ;rw[c 0 (by omega),c 1 (by omega),c 2 (by omega),c 3 (by omega),c 4 (by omega),c 5 (by omega),b 0,b 1,b 2,b 3,b 4,b 5];have:=six a l n;omega
theorem Jk{x:Nat->Int}{i n:Int}(h:(bH x i n).2=0) : ∃ a:Nat,a<6/\i=(a:Int)+1/\1<=n/\n<=1125899906842624/\n<=C x a-F x a/\may (bH x i n).1=true /\
 (∀ k,k<6->L (bH x i n).1 k=L x k+(if k=a then n else 0))/\sD (bH x i n).1=sD x/\nZ (bH x i n).1=nZ x-n/\(bH x i n).1=upd x (12+a) (x (12+a)+n):=by
 unfold bH at *
 rcases og x n (gW i) (qL x i n) (12+(i.toNat-1))with ⟨_,j,_⟩|⟨⟨hm,h1,j,hr,he,hx⟩,heq⟩
 ·exact M_ h j
 obtain⟨a,m,u,l⟩:=pI hr;rw[l]at heq hx;rw[l];have s:n<=C x a-F x a:=by
  unfold qL at he;rw[l]at he;by_cases g:C x a-F x a<n
  ·rw[f_ g]at he; cases he
  ·omega
 obtain⟨e,p,r⟩:=(jT x).1 hm;have t:(bT x n (gW i) (qL x i n) (12+a)).1=upd x (12+a) (x (12+a)+n):=by rw[heq]
 rw[t];have c:=agK x a n;have f : ∀ k,k<6->G (upd x (12+a) (x (12+a)+n)) k=G x k:=fun k d=>gI _ _ _ _ (by omega);have b : ∀ k,k<6->C (upd x (12+a) (x (12+a)+n)) k=C x k:=fun k d=>gI _ _ _ _ (by omega);have g : ∀ k,k<6->L (upd x (12+a) (x (12+a)+n)) k=L x k+(if k=a then n else 0):=by
  intro k d;rw[Uv x (12+a) (by omega),f k d,c k,b k d]; omega
 have o:sD (upd x (12+a) (x (12+a)+n))=sD x:=by unfold sD; rw[f 0 (by omega),f 1 (by omega),f 2 (by omega),f 3 (by omega),f 4 (by omega),f 5 (by omega)]
 refine⟨a,m,u,h1,j,s,?_,g,o,?_,rfl⟩
 ·rw[jT];refine⟨Nb e h1 hx (by omega),fun k d => ?_,by rw[o]; exact r⟩;obtain⟨v,w,q⟩:=p k d;refine⟨?_,?_,?_⟩
  ·rw[g k d]; split <;> omega
  ·rw[c k,b k d];split
   ·rename_i hka; subst hka; omega
   omega
  rw[Fh x (12+a) (by omega)]; exact q
 unfold nZ;rw[b 0 (by omega),b 1 (by omega),b 2 (by omega),b 3 (by omega),b 4 (by omega),b 5 (by omega),c 0,c 1,c 2,c 3,c 4,c 5];have:=six a m n;omega
end Rt
section
namespace Rt
def cZ(f:(Nat->Int)->(Nat->Int) × Int)(idx:Nat->Nat)(R:Nat->Nat->Int):Nat->(Nat->Nat->Int) × Int
 | 0=>(R,0)
 | j+1=>if(cZ f idx R j).2=0 then(if(f ((cZ f idx R j).1 (idx j))).2=0 then(aI (cZ f idx R j).1 (idx j) (f ((cZ f idx R j).1 (idx j))).1,0)else((cZ f idx R j).1,(f ((cZ f idx R j).1 (idx j))).2))else cZ f idx R j
section
variable {f:(Nat->Int)->(Nat->Int) × Int} {idx:Nat->Nat} {R Rk:Nat->Nat->Int} {k q:Nat}
theorem Fj(h:cZ f idx R k=(Rk,0))(e:idx k=q)(a:(f (Rk q)).2=0):cZ f idx R (k+1)=(aI Rk q (f (Rk q)).1,0):=by
 unfold cZ; rw[h,d_ rfl,e,d_ a]
theorem Hu(h:cZ f idx R k=(Rk,0))(e:idx k=q)(a : ¬ (f (Rk q)).2=0):(cZ f idx R (k+1)).2=(f (Rk q)).2:=by
 unfold cZ; rw[h,d_ rfl,e,b_ a]
theorem Ah(a : ¬ (cZ f idx R k).2=0) : ∀ n,k<=n->cZ f idx R n=cZ f idx R k
 | 0,h=>by obtain rfl:k=0:=by omega
           rfl
 | n+1,h=>by
   by_cases e:k=n+1
   ·rw[e]
   ·have:=Ah a n (by omega);rw[cZ,this,b_ a]
end
def lead(P:Nat->Bool):Nat->Nat
 | 0=>0
 | n+1=>if lead P n=n/\P n=true then n+1 else lead P n
theorem Jl(P:Nat->Bool) : ∀ n,lead P n<=n
 | 0=>A_ _
 | n+1=>by
   unfold lead; split
   ·exact A_ _
   ·have:=Jl P n; omega
theorem KU{P:Nat->Bool} : ∀ {n:Nat},(∀ i,i<n->P i=true)->lead P n=n
 | 0,_=>rfl
 | n+1,h=>by unfold lead; rw[d_ ⟨KU fun i a=>h i (by omega),h n (by omega)⟩]
theorem OT{P:Nat->Bool}{K:Nat}(h1 : ∀ i,i<K->P i=true)(a:P K=false) : ∀ {n:Nat},K<=n->lead P n=K
 | 0,h=>by unfold lead; omega
 | n+1,h=>by
   unfold lead;by_cases e:K=n+1
   ·rw[d_ ⟨KU fun i d=>h1 i (by omega),h1 n (by omega)⟩]; exact e.symm
   ·rw[OT h1 a (n:=n) (by omega),b_];rintro ⟨c,b⟩;subst c; rw[a]at b; cases b
def dF(t:Nat->Nat->Int)(tn:Nat)(x:Int):Nat:=lead (fun i=>decide (0<=bF t tn (aT t tn i x))) 1000
theorem vo{t:Nat->Nat->Int}{tn K D:Nat}{x:Int}(h1 : ∀ i,i<K->0<=bF t tn (aT t tn i x))(c:bF t tn (aT t tn K x)<0)(d:bF t tn (aT t tn D x)<0)(e:D<=1000):K=dF t tn x:=by
 have a:K<=1000:=by
  rcases Nat.lt_or_ge D K with h|h
  ·have:=h1 D h; omega
  ·omega
 exact(OT (fun i b=>f_ (h1 i b)) (g_ (by omega)) a).symm
end Rt
def eY.node(L:eY)(x:Int):Int:=gX (fun i=>decide (L.id i=x)) L.nn
def eY.grant(L:eY)(o r:Int):Int:=gX (fun i=>decide (L.g i 0=o)&&decide (L.g i 1=r)) L.gn
def eY.lD(L:eY)(a:Nat)(r:Int):Int:=gX (fun i=>decide (L.rq a i=r)) (L.rn a)
namespace Rt
def ou(L:eY)(x:Int)(i:Nat):Nat:=(L.node (aT L.t L.tn i x)).toNat
def pJ(v:EvM):Nat->Int:=fun j=>if j=0 then v.o else if j=1 then v.req else if j=2 then v.node else if j=3 then v.aQ else 0
def Df(v:EvM)(x:Nat->Int):Bool:=decide (v.o<x 0) || (decide (x 0=v.o)&&decide (v.req<x 1))
def aL(v:EvM):Nat:=(v.o-1).toNat
def nD(L:eY)(v:EvM):(Nat->Nat->Int) × Int:=cZ (fun x=>bD x v.o v.aQ) (ou L v.node) L.R (dF L.t L.tn v.node)
def iZ(L:eY)(v:EvM):Int:=if 0<=L.lD (aL v) v.req then 14 else if dF L.t L.tn v.node=0 then 9 else(nD L v).2
def qG(L:eY)(a:Nat)(r:Int):eY := { L with rn:=aI L.rn a (L.rn a+1),rq:=aI L.rq a (aI (L.rq a) (L.rn a) r) }
def mE(L:eY)(v:EvM):eY :=
 qG { L with R:=(nD L v).1,gn:=L.gn+1,g:=cB L.g (down (fun i=>Df v (L.g i)) L.gn) (pJ v) } (aL v) v.req
theorem Cn{n q:Nat}{id par:Nat->Int}{R:Nat->Nat->Int}{r:Nat->Int} : ∀ i,i<n -> ∀ j,j<56->Fx.qR (fun a=>mG (id a) (par a) (R a)) q (bK (mG (id q) (par q) (R q)) 2 54 (rv .i64 r)) i j=mG (id i) (par i) (aI R q r i) j:=fun i _ j d=>by
 unfold Fx.qR aI;by_cases h:i=q
 ·subst h;rw[d_ rfl,d_ rfl];unfold bK mG rv;by_cases b:j=0
  ·subst b; rfl
  ·by_cases c:j=1
   ·subst c; rfl
   ·rw[d_ (by omega),b_ b,b_ c]
 ·rw[b_ h,b_ h]
theorem X8{g:Nat->Nat->Int}{k:Nat}{x:Nat->Int}:Fx.IW (fun a=>jm (g a)) k (jm x)=fun a=>jm (cB g k x a):=by
 funext i
 unfold Fx.IW cB;by_cases h:i<k
 ·simp only[d_ h]
 by_cases b:i=k
 ·simp only[b_ h,d_ b]
 simp only[b_ h,b_ b]
theorem Nc(m:kR)(a:Option Addr)(n c:Nat):dD (lZ m) 19 (.slice a n c)=lZ { m with s := { m.s with ga:=a,gn:=n,gc:=c } }:=by
 funext p
 unfold dD lZ;by_cases h:p=19
 ·subst h; rfl
 rw[b_ h];by_cases e:p<20
 ·rw[d_ e,d_ e]; unfold nQ;by_cases b:p<6
  ·rw[d_ b,d_ b]
  by_cases d:p<12
  ·rw[b_ b,d_ d,b_ b,d_ d]
  by_cases f:p<18
  ·rw[b_ b,b_ d,d_ f,b_ b,b_ d,d_ f]
  rw[b_ b,b_ d,b_ f,d_ (by omega),b_ b,b_ d,b_ f,d_ (by omega)]
 rw[b_ e,b_ e]
theorem KV(m:kR){i q:Nat}(f:q=i+21)(a:Option Addr)(n c:Nat):dD (lZ m) q (.slice a n c)=lZ { m with ra:=aI m.ra i a,rn:=aI m.rn i n,rc:=aI m.rc i c }:=by
 subst f
 funext p
 unfold dD lZ;by_cases h:p=i+21
 ·subst h;rw[d_ rfl,b_ (by omega),b_ (by omega),Nat.add_sub_cancel];simp[aI]
 rw[b_ h];by_cases b:p<20
 ·rw[d_ b,d_ b]
 rw[b_ b,b_ b];by_cases d:p=20
 ·rw[d_ d,d_ d]
 rw[b_ d,b_ d];have e : ¬ p-21=i:=by omega
 simp[aI,e]
theorem wM.app{w w':World}{B a g cap:Nat}{r:Int}{m d:kR}(h:wM w B 6 m)(_ha:a<6)(h1:d.ra=aI m.ra a (some ⟨g,0,none⟩))(l:d.rn=aI m.rn a (m.rn a+1))(t:d.rc=aI m.rc a cap)(u:d.rq=aI m.rq a (aI (m.rq a) (m.rn a) r))
 (z:Fx.Own w' B 23 1 (bO g (m.rn a+1) cap) (m.rn a+1) (rv .u64 (aI (m.rq a) (m.rn a) r))) (A:w.grownBy w' (sZ m a).ownBlock) (C:(sZ m a).ownBlock=some g\/g=w.heap.size):wM w' B 6 d:=by
 have k : ∀ i,i≠a->sZ d i=sZ m i:=fun i c=>by unfold sZ; rw[h1,l,t]; simp[aI,c]
 have n:sZ d a=bO g (m.rn a+1) cap:=by unfold sZ; rw[h1,l,t]; simp[aI]
 have y : ∀ i,i<6->i≠a -> ∀ q,(sZ m i).ownBlock=some q->q≠g:=fun i c D q b e=>by
  subst e
  rcases C with f|f
  ·exact h.2 i a c _ha D q b f
  ·have:=((h.1 i c).ge b).2; omega
 refine⟨fun i c => ?_,fun i j c v p q b => ?_⟩
 ·by_cases e:i=a
  ·subst e; rw[n,l,u]; simp only[aI,if_true]; exact z
  rw[k i e,l,u];simp only[aI,b_ e];refine World.ownsRow.kept (h.1 i c) A ?_;by_cases x:(sZ m i).ownBlock=none
  ·exact .inl x
  right;intro f
  cases b:(sZ m i).ownBlock with
  | none=>exact x b
  | some q=>rw[b]at f; exact h.2 i a c _ha e q b f.symm
 by_cases e:i=a
 ·subst e;rw[n]at b;rw[k j (fun e=>p e.symm)];intro o;exact y j v (fun e=>p e.symm) q o (C_ b).symm
 rw[k i e]at b;by_cases s:j=a
 ·subst s; rw[n]; intro o; exact y i c e q b (C_ o).symm
 rw[k j s]; exact h.2 i j c v p q b
end Rt
end
def JW(a:World)(l:List (Nat × (Nat->Int)))(w':World):Prop:=(∀ p∈l,w'.heap[p.1]? = some (.cells (aU .i64 54 p.2) 82 (0,0)))/\Below a.heap.size a w'
theorem JW.up{b w w':World}{l:List (Nat × (Nat->Int))}(h:JW b l w)(a:Below w.heap.size w w'):JW b l w':=⟨fun p c=>RU (h.1 p c) a,JN h.2 a⟩
instance {a w w':World} {l:List (Nat × (Nat->Int))}:Rt.Tr w w' (JW a l w) (JW a l w'):=⟨fun b h=>h.up b⟩
theorem JW.drew{a w:World}{l:List (Nat × (Nat->Int))}(h:JW a l w):JW a l w.drew:=⟨h.1,bN h.2 1⟩
theorem JW.drop{a w:World}{p:Nat × (Nat->Int)}{l:List (Nat × (Nat->Int))}(h:JW a (p::l) w):JW a l w:=⟨fun q b=>h.1 q (by simp[b]),h.2⟩
theorem JW.row{b w:World}{l:List (Nat × (Nat->Int))}(h:JW b l w)(g:Nat)(x:Nat->Int)(a:(g,x)∈l):w.heap[g]? = some (.cells (aU .i64 54 x) 82 (0,0)):=h.1 (g,x) a
theorem JW.add{b w:World}{l:List (Nat × (Nat->Int))}(h:JW b l w){g:Nat}{x:Nat->Int}(c:w.heap[g]? = some (.cells (aU .i64 54 x) 82 (0,0))):JW b ((g,x)::l) w :=
 ⟨fun p a=>by
  rcases List.mem_cons.1 a with rfl|a
  ·exact c
  ·exact h.1 p a,h.2⟩
theorem JW.start(w:World)(x:Nat->Int):JW w [(w.heap.size,x)] (w.alloc (.cells (aU .i64 54 x) 82)):=⟨fun p a=>by
 obtain rfl:p=(w.heap.size,x):=by simpa using a
 exact heap_alloc_new w _,(Below.refl _ _).alloc (A_ _) _⟩
namespace Rt
def vw(x:Nat->Int)(k:Nat):Nat->Int
 | 0=>G x k-C x k+F x k
 | j+1=>vw x k j+R x j k-R x k j
theorem acD(x:Nat->Int)(k:Nat):vw x k 6=L x k:=by simp only[vw,L]; omega
theorem OU{x:Nat->Int}(h:Qm x)(k:Nat)(d:k<6) : ∀ j:Nat,j<=6 -> -(1125899906842624*((j:Int)+1))<=vw x k j/\vw x k j<=1125899906842624*((j:Int)+2)
 | 0,_=>by
   have a:=h k (by omega); have b:=h (6+k) (by omega); have c:=h (12+k) (by omega);simp only[vw,G,C,F]; omega
 | j+1,hj=>by
   have:=OU h k d j (by omega);have a:=h (18+j*6+k) (by omega); have b:=h (18+k*6+j) (by omega);simp only[vw,R]; omega
end Rt
theorem nL(n:Int)(w:World) :
 Calls Tryz.prog 147 #[au n] w fun e w'=>e = .returned (.bool (zU n))/\w'=w:=by
 refine Kent Tryz.func147 9 ?_;refine ay<|av aF<|aD<|ay<|av (au n) ?_;by_cases a:0<=n
 ·refine Lv aG (kP a)<|av aG<|av (au n) ?_;by_cases b:n<=1125899906842624
  ·refine Lv aG (mZ b)<|av aG<|av aG<|aD<|Wr<|aJ aG ?_;exact⟨iG (by simp only[zU]; first|(symm; simp; omega)|(symm; simp; done)),rfl⟩
  refine Lv aF (nP b)<|av aF<|av aF<|aD<|Wr<|aJ aF ?_;exact⟨iG (by simp only[zU]; first|(symm; simp; omega)|(symm; simp; done)),rfl⟩
 refine Lv aF (kr a)<|av aF<|dB<|dB<|av aF<|av aF<|aD<|Wr<|aJ aF ?_;exact⟨iG (by simp only[zU]; first|(symm; simp; omega)|(symm; simp; done)),rfl⟩
theorem yT(n:Int)(w:World) :
 Calls Tryz.prog 99 #[au n] w fun e w'=>e = .returned (.bool (gW n))/\w'=w:=by
 refine Kent Tryz.func99 9 ?_;refine ay<|av aF<|aD<|ay<|av (au n) ?_;by_cases a:1<=n
 ·refine Lv aG (kP a)<|av aG<|av (au n) ?_;by_cases b:n<=6
  ·refine Lv aG (mZ b)<|av aG<|av aG<|aD<|Wr<|aJ aG ?_;exact⟨iG (by simp only[gW]; first|(symm; simp; omega)|(symm; simp; done)),rfl⟩
  refine Lv aF (nP b)<|av aF<|av aF<|aD<|Wr<|aJ aF ?_;exact⟨iG (by simp only[gW]; first|(symm; simp; omega)|(symm; simp; done)),rfl⟩
 refine Lv aF (kr a)<|av aF<|dB<|dB<|av aF<|av aF<|aD<|Wr<|aJ aF ?_;exact⟨iG (by simp only[gW]; first|(symm; simp; omega)|(symm; simp; done)),rfl⟩
theorem Rt.Qx(x:Nat->Int)(k j:Nat):vw x k (j+1)=vw x k j+x (18+j*6+k)-x (18+k*6+j):=rfl
theorem Rt.Qy(x:Nat->Int)(k:Nat):vw x k 0=x k-x (6+k)+x (12+k):=rfl
theorem Fp(x:Nat->Int)(k:Nat)(w:World)(E:k<6)(d:Qm x) :
 Calls Tryz.prog 100 #[.agg (aA 54 (rv .i64 x)),au ((k:Int)+1)] w fun e w'=>e = .returned (au (L x k))/\Below w.heap.size w w':=by
 have B:vw x k 6=L x k:=acD x k;have A:=fun j=>OU d k E j;have S:vw x k 0=x k-x (k+6)+x (k+12):=by rw[Qy,Nat.add_comm 6 k,Nat.add_comm 12 k]
 have O:=d k (by omega);have P:=d (k+6) (by omega);have Q:=d (k+12) (by omega);refine Kent Tryz.func100 44 ?_;refine ay<|pR fun c l D h H X => ?_;have s:=bE H.old (Below.refl w.heap.size w);have U:=gT D;have W:=h.lt;refine av (au 0)<|aD<|ay<|av (au ((k:Int)+1))<|Lv (au k) gD<|av (au k)<|aD<|Ws ?_;refine uO<|aX (au k)<|aX (pt c)<|Qv (pf c k) (fun b a=>jM 6 1)<|Qv (au (x k)) (fun b a=>aM (h.aH.dr a) k)<|aX (au k)<|aX (pf c 6)<|Qv (pf c (k+6)) (fun b a=>jM 6 1)<|Qv (au (x (k+6))) (fun b a=>aM (h.aH.dr a) (k+6))<|Qv (au ((x k)-(x (k+6)))) (fun b a=>gD)<|aX (au k)<|aX (pf c 12)<|Qv (pf c (k+12)) (fun b a=>jM 6 1)<|Qv (au (x (k+12))) (fun b a=>aM (h.aH.dr a) (k+12))<|Qv (au (((x k)-(x (k+6)))+(x (k+12)))) (fun b a=>fC)<|aX (au (((x k)-(x (k+6)))+(x (k+12))))<|Qn ?_;rintro _ ⟨i,rfl⟩;obtain⟨K,n⟩ : ∃ b,b=World.drewN l i:=⟨_,rfl⟩;rw[<- n];have I:Stp l.heap.size l K:=by rw[n]; exact Sb (je l i)
 have⟨F,t⟩:=fq I.old h s;clear n;refine sN<|Ws<|ay<|av (au 0)<|aD<|Wb<|Wo (fun f z => ∃ j:Nat,j<=6/\f 2=(pt c)/\f 5=au (k:Int)/\f 6=au (vw x k j)/\f 7=au (j:Int)/\aR z c 54 (rv .i64 x) 82/\Below w.heap.size w z) (fun f _=>(6-(intOf (f 7)).toNat)) ⟨0,by omega,(by rfl),Fx.ic,Fx.ic,Fx.ic,F,t⟩ ?_;rintro R m ⟨j,V,p,q,y,g,r,u⟩;have T:=A j (by omega);have N:vw x k (j+1)=vw x k j+x (6*j+k+18)-x (j+6*k+18):=by rw[Qx,show 18+j*6+k=6*j+k+18 by omega,show 18+k*6+j=j+6*k+18 by omega]
 have s:=d (6*j+k+18);have t:=d (j+6*k+18);refine Ws<|ay<|bf g ?_;by_cases v:(j:Int)<6
 ·refine Lv aG (iq v)<|aD<|aO<|Wk<|sN<|Ws<|Wb ?_;refine uO<|dZ y<|dZ g<|dZ q<|Qv (pf c 18) (fun b a=>jD p 18)<|Qv (pf c (6*j+18)) (fun b a=>jM 6 6)<|Qv (pf c (6*j+k+18)) (fun b a=>jM 6 1)<|Qv (au (x (6*j+k+18))) (fun b a=>aM (r.aH.dr a) (6*j+k+18))<|Qv (au ((vw x k j)+(x (6*j+k+18)))) (fun b a=>fC)<|dZ q<|dZ g<|Qv (pf c 18) (fun b a=>jD p 18)<|Qv (pf c (6*k+18)) (fun b a=>jM 6 6)<|Qv (pf c (j+6*k+18)) (fun b a=>jM 6 1)<|Qv (au (x (j+6*k+18))) (fun b a=>aM (r.aH.dr a) (j+6*k+18))<|Qv (au (((vw x k j)+(x (6*j+k+18)))-(x (j+6*k+18)))) (fun b a=>gD)<|aX (au (((vw x k j)+(x (6*j+k+18)))-(x (j+6*k+18))))<|Qn ?_;rintro _ ⟨i,rfl⟩;obtain⟨M,o⟩ : ∃ b,b=World.drewN m i:=⟨_,rfl⟩;rw[<- o];have J:Stp m.heap.size m M:=by rw[o]; exact Sb (je m i)
  have⟨G,C⟩:=fq J.old r u;clear o;refine bR<|sN<|Wl<|bf g<|Lv (au ((j:Int)+1)) fC<|av (au ((j:Int)+1))<|Ln<|ig ⟨j+1,by omega,p,(q.trans Fx.ic),Fx.ic,Fx.ic,G,C⟩ ?_;show(6-(intOf (au ((j:Int)+1))).toNat)<_;simp only[g,intOf]; omega
 refine Lv aF (iw v)<|aD<|aK<|Wx<|bZ<|gL<|cu<|sN<|ay<|bf y<|av (au (vw x k j))<|aD<|Wr<|aJ (au (vw x k j)) ?_;exact⟨pU (by rw[<- B]; exact L_ _ (by omega)),u⟩
namespace Rt
def Uw(x:Nat->Int)(i:Nat):Prop:=zU (x i)=true/\zU (x (i+6))=true/\zU (x (i+12))=true/\x (i+12)<=x (i+6)/\x (7*i+18)=0
def Fq(x:Nat->Int)(i j:Nat):Prop := ∀ q,q<j->zU (x (6*i+q+18))=true
def KW(x:Nat->Int)(i:Nat):Prop := ∀ k,k<i->Uw x k/\Fq x k 6
def zy(x:Nat->Int):Nat->Int
 | 0=>0
 | i+1=>zy x i+x i
theorem Qz(x:Nat->Int):KW x 0:=fun _ h=>M_ h (by omega)
theorem Nf(x:Nat->Int)(i:Nat):Fq x i 0:=fun _ h=>M_ h (by omega)
theorem Ng{x:Nat->Int}{i j:Nat}(h:Fq x i j)(a:zU (x (6*i+j+18))=true):Fq x i (j+1):=fun q b=>by
 by_cases e:q=j
 ·subst e; exact a
 ·exact h q (by omega)
theorem QA{x:Nat->Int}{i:Nat}(h:KW x i)(hr:Uw x i)(a:Fq x i 6):KW x (i+1):=fun k b=>by
 by_cases e:k=i
 ·subst e; exact⟨hr,a⟩
 ·exact h k (by omega)
theorem KX{x:Nat->Int}(h:KW x 6):Qm x:=fun p d=>by
 by_cases a:p<6
 ·exact Ac (h p a).1.1
 ·by_cases b:p<12
  ·have:=Ac (h (p-6) (by omega)).1.2.1; rwa [show p-6+6=p by omega]at this
  ·by_cases c:p<18
   ·have:=Ac (h (p-12) (by omega)).1.2.2.1; rwa [show p-12+12=p by omega]at this
   ·have:=Ac ((h ((p-18) / 6) (by omega)).2 ((p-18) % 6) (by omega)); rwa [show 6*((p-18) / 6)+(p-18) % 6+18=p by omega]at this
theorem OV{x:Nat->Int} : ∀ {i:Nat},KW x i->0<=zy x i/\zy x i<=1125899906842624*(i:Int)
 | 0,_=>by simp[zy]
 | i+1,h=>by
   have a:=OV (i:=i) (fun k c=>h k (by omega));have b:=Ac (h i (by omega)).1.1;simp only[zy]; omega
theorem Jm{x:Nat->Int}{p:Nat}(a:p<54)(h:zU (x p)=false):may x=false:=by
 cases hm:may x
 ·rfl
 have:=(jT x).1 hm |>.1 p a;unfold zU at h; simp at h; omega
theorem agM{x:Nat->Int}{i:Nat}(hi:i<6)(h:x (i+6)<x (i+12)):may x=false:=by
 cases hm:may x
 ·rfl
 have:=((jT x).1 hm |>.2.1 i hi).2.1;unfold F C at this; rw[Nat.add_comm 12 i,Nat.add_comm 6 i]at this; omega
theorem agN{x:Nat->Int}{i:Nat}(hi:i<6)(h : ¬ x (7*i+18)=0):may x=false:=by
 cases hm:may x
 ·rfl
 have:=((jT x).1 hm |>.2.1 i hi).2.2;unfold R at this; rw[show 18+i*6+i=7*i+18 by omega]at this; exact M_ this h
theorem acE{x:Nat->Int}{i:Nat}(hi:i<6)(h:L x i<0):may x=false:=by
 cases hm:may x
 ·rfl
 have:=((jT x).1 hm |>.2.1 i hi).1;omega
theorem Ux{x:Nat->Int}{m:Nat}(h : ∀ k,k<m->0<=L x k)(a:0<=L x m) : ∀ k,k<m+1->0<=L x k:=fun k b=>by
 by_cases e:k=m
 ·rw[e]; exact a
 ·exact h k (by omega)
theorem OW{x:Nat->Int}(ha:KW x 6)(b : ∀ k,k<6->0<=L x k):may x=decide (zy x 6<=1125899906842624):=by
 have c:zy x 6=sD x:=by simp only[zy,sD,G]; omega
 rw[c,Bool.eq_iff_iff,jT,P_];refine⟨fun h=>h.2.2,fun h=>⟨KX ha,fun k a=>⟨b k a,?_,?_⟩,h⟩⟩
 ·have:=(ha k a).1.2.2.2.1; unfold F C; rwa [Nat.add_comm 12 k,Nat.add_comm 6 k]
 have:=(ha k a).1.2.2.2.2; unfold R; rwa [show 18+k*6+k=7*k+18 by omega]
end Rt
set_option maxRecDepth 10000 in
set_option maxHeartbeats 1000000 in
theorem Uy(x:Nat->Int)(w:World) :
 Calls Tryz.prog 98 #[.agg (aA 54 (rv .i64 x))] w fun e w'=>e = .returned (.bool (may x))/\Below w.heap.size w w':=by
 refine Kent Tryz.func98 81 ?_;refine ay<|pR fun c w1 mo m1 s1 z1 => ?_;have b1:=bE s1.old (Below.refl w.heap.size w);have sM:=gT mo;have ug:=m1.lt;refine av aF<|aD<|ay<|av (au 0)<|aD<|Ws<|ay<|av (au 0)<|aD<|Wb<|Wo (fun f q => ∃ i:Nat,i<=6/\KW x i/\f 1=(pt c)/\f 3=au (zy x i)/\f 4=au (i:Int)/\aR q c 54 (rv .i64 x) 82/\Below w.heap.size w q) (fun f _=>(6-(intOf (f 4)).toNat)) ⟨0,by omega,Qz x,(by rfl),Fx.ic,Fx.ic,m1,b1⟩ ?_;rintro f1 d ⟨i,hi,B,n,h2,l,o,r⟩;have hG:=OV B;have HG:zy x (i+1)=zy x i+x i:=rfl;refine Ws<|ay<|bf l ?_;by_cases Z:(i:Int)<6
 ·refine Lv aG (iq Z)<|aD<|aO<|Wk<|sN<|Ws<|Wb<|Ws<|Ws ?_;refine uO<|dZ l<|Qv (pt c) (fun a b=>jD n 0)<|Qv (pf c i) (fun a b=>jM 6 1)<|Qv (au (x i)) (fun a b=>aM (o.aH.dr b) i) ?_;by_cases s:(zU (x i))=true
  ·refine qo (fun _ _=>nL (x i) _) aG (by rw[s])<|aX aF<|aX aF<|dZ l<|Qv (pf c 6) (fun a b=>jD n 6)<|Qv (pf c (i+6)) (fun a b=>jM 6 1)<|Qv (au (x (i+6))) (fun a b=>aM (o.aH.dr b) (i+6)) ?_;by_cases v:(zU (x (i+6)))=true
   ·refine qo (fun _ _=>nL (x (i+6)) _) aG (by rw[v])<|aX aF<|aX aF<|aX aF<|dZ l<|Qv (pf c 12) (fun a b=>jD n 12)<|Qv (pf c (i+12)) (fun a b=>jM 6 1)<|Qv (au (x (i+12))) (fun a b=>aM (o.aH.dr b) (i+12)) ?_;by_cases y:(zU (x (i+12)))=true
    ·refine qo (fun _ _=>nL (x (i+12)) _) aG (by rw[y])<|aX aF<|aX aF<|aX aF<|dZ l<|Qv (pf c 12) (fun a b=>jD n 12)<|Qv (pf c (i+12)) (fun a b=>jM 6 1)<|Qv (au (x (i+12))) (fun a b=>aM (o.aH.dr b) (i+12))<|dZ l<|Qv (pf c 6) (fun a b=>jD n 6)<|Qv (pf c (i+6)) (fun a b=>jM 6 1)<|Qv (au (x (i+6))) (fun a b=>aM (o.aH.dr b) (i+6)) ?_;by_cases H:(x (i+6))<(x (i+12))
     ·refine Qv aG (fun a b=>ng H)<|aX aG<|aX aG<|aP<|aP<|aP<|aP<|aP<|aP<|aP<|aX aG<|Qn ?_;rintro _ ⟨g,rfl⟩;obtain⟨BZ,K⟩ : ∃ a,a=World.drewN d g:=⟨_,rfl⟩;rw[<- K];have s2:Stp d.heap.size d BZ:=(by rw[K]; exact Sb (je d g));have b3:=bE s2.old r;clear K;refine sN (aO (ay (av aF (aD (Wr (sR (bL (sR (pO (bL (sR (aJ aF (⟨iG (Eq.symm ?_),b3⟩)))))))))))));exact agM (i:=i) (by omega) H
     refine Qv aF (fun a b=>ni H)<|aX aF<|aX aF<|dZ l<|dZ l<|Qv (pf c 18) (fun a b=>jD n 18)<|Qv (pf c (6*i+18)) (fun a b=>jM 6 6)<|Qv (pf c (7*i+18)) (fun a b=>jM 6 1)<|Qv (au (x (7*i+18))) (fun a b=>aM (o.aH.dr b) (7*i+18)) ?_;by_cases C:(x (7*i+18))=0
     ·refine Qv aF (fun a b=>jQ C)<|aX aF<|Qn ?_;rintro _ ⟨g,rfl⟩;obtain⟨wq2,M⟩ : ∃ a,a=World.drewN d g:=⟨_,rfl⟩;rw[<- M];have s3:Stp d.heap.size d wq2:=(by rw[M]; exact Sb (je d g));have⟨m4,b4⟩:=fq s3.old o r;clear M;refine sN<|aK<|Wk<|sN<|Ws ?_;have hR:Uw x i:=⟨s,v,y,by omega,C⟩;have b15:=Ac s;refine Wl<|bf h2<|bf l<|Lv (pt c) (jD n 0)<|Lv (pf c i) (jM 6 1)<|Lv (au (x i)) (aM m4.aH i)<|Lv (au ((zy x i)+(x i))) fC<|av (au ((zy x i)+(x i)))<|aD<|ay<|av (au 0)<|aD<|Wb<|Wo (fun f q => ∃ j:Nat,j<=6/\Fq x i j/\f 1=(pt c)/\f 3=au (zy x (i+1))/\f 4=au (i:Int)/\f 5=au (j:Int)/\aR q c 54 (rv .i64 x) 82/\Below w.heap.size w q) (fun f _=>(6-(intOf (f 5)).toNat)) ⟨0,by omega,Nf x i,n,Fx.ic,(l.trans Fx.ic),Fx.ic,m4,b4⟩ ?_;rintro f2 w3 ⟨j,hj,T,R,h5,S,E,U,G⟩;refine Ws<|ay<|bf E ?_;by_cases X:(j:Int)<6
      ·refine Lv aG (iq X)<|aD<|aO<|Wk<|sN<|Ws<|Wb<|ay<|bf S<|bf E<|Lv (pf c 18) (jD R 18)<|Lv (pf c (6*i+18)) (jM 6 6)<|Lv (pf c (6*i+j+18)) (jM 6 1)<|Lv (au (x (6*i+j+18))) (aM U.aH (6*i+j+18)) ?_;by_cases z:(zU (x (6*i+j+18)))=true
       ·refine lU (nL (x (6*i+j+18)) _) aG (by rw[z])<|av aF<|aD<|aK<|Wk<|bR<|sN<|Wl<|bf E<|Lv (au ((j:Int)+1)) fC<|av (au ((j:Int)+1))<|Ln<|ig ⟨j+1,by omega,Ng T z,R,(h5.trans Fx.ic),(S.trans Fx.ic),Fx.ic,U,G⟩ ?_;show(6-(intOf (au ((j:Int)+1))).toNat)<_;simp only[E,intOf]; omega
       rw[T_]at z;refine lU (nL (x (6*i+j+18)) _) aF (by rw[z]) (av aG (aD (aO (ay (av aF (aD (Wr (bL (sR (pO (bL (bL (sR (pO (bL (sR (aJ aF (⟨iG (Eq.symm ?_),G⟩))))))))))))))))));exact Jm (p:=6*i+j+18) (by omega) z
      refine Lv aF (iw X)<|aD<|aK<|Wx<|bZ<|gL<|cu<|bR<|sN<|Wl<|bf S<|Lv (au ((i:Int)+1)) fC<|av (au ((i:Int)+1))<|Ln ?_;have A:j=6:=(by omega);have hT6:Fq x i 6:=(by rw[A]at T; exact T);refine ig ⟨i+1,by omega,QA B hR hT6,R,(h5.trans Fx.ic),Fx.ic,U,G⟩ ?_;show(6-(intOf (au ((i:Int)+1))).toNat)<_;simp only[l,intOf]; omega
     refine Qv aG (fun a b=>nk C)<|aX aG<|Qn ?_;rintro _ ⟨g,rfl⟩;obtain⟨Xd,N⟩ : ∃ a,a=World.drewN d g:=⟨_,rfl⟩;rw[<- N];have s4:Stp d.heap.size d Xd:=(by rw[N]; exact Sb (je d g));have b6:=bE s4.old r;clear N;refine sN (aO (ay (av aF (aD (Wr (sR (bL (sR (pO (bL (sR (aJ aF (⟨iG (Eq.symm ?_),b6⟩)))))))))))));exact agN (i:=i) (by omega) C
    rw[T_]at y;refine qo (fun _ _=>nL (x (i+12)) _) aF (by rw[y])<|aX aG<|aX aG<|aX aG<|aP<|aP<|aP<|aP<|aP<|aP<|aP<|aP<|aP<|aX aG<|aX aG<|aP<|aP<|aP<|aP<|aP<|aP<|aP<|aX aG<|Qn ?_;rintro _ ⟨g,rfl⟩;obtain⟨wq4,O⟩ : ∃ a,a=World.drewN d g:=⟨_,rfl⟩;rw[<- O];have s5:Stp d.heap.size d wq4:=(by rw[O]; exact Sb (je d g));have b7:=bE s5.old r;clear O;refine sN (aO (ay (av aF (aD (Wr (sR (bL (sR (pO (bL (sR (aJ aF (⟨iG (Eq.symm ?_),b7⟩)))))))))))));exact Jm (p:=i+12) (by omega) y
   rw[T_]at v;refine qo (fun _ _=>nL (x (i+6)) _) aF (by rw[v])<|aX aG<|aX aG<|aX aG<|aP<|aP<|aP<|aP<|aP<|aP<|aX aG<|aX aG<|aP<|aP<|aP<|aP<|aP<|aP<|aP<|aP<|aP<|aX aG<|aX aG<|aP<|aP ?_;refine aP<|aP<|aP<|aP<|aP<|aX aG<|Qn ?_;rintro _ ⟨g,rfl⟩;obtain⟨wq5,P⟩ : ∃ a,a=World.drewN d g:=⟨_,rfl⟩;rw[<- P];have s6:Stp d.heap.size d wq5:=(by rw[P]; exact Sb (je d g));have b8:=bE s6.old r;clear P;refine sN (aO (ay (av aF (aD (Wr (sR (bL (sR (pO (bL (sR (aJ aF (⟨iG (Eq.symm ?_),b8⟩)))))))))))));exact Jm (p:=i+6) (by omega) v
  rw[T_]at s;refine qo (fun _ _=>nL (x i) _) aF (by rw[s])<|aX aG<|aX aG<|aP<|aP<|aP<|aP<|aP<|aP<|aX aG<|aX aG<|aP<|aP<|aP<|aP<|aP<|aP<|aX aG<|aX aG<|aP<|aP<|aP<|aP<|aP<|aP ?_;refine aP<|aP<|aP<|aX aG<|aX aG<|aP<|aP<|aP<|aP<|aP<|aP<|aP<|aX aG<|Qn ?_;rintro _ ⟨g,rfl⟩;obtain⟨wq6,Q⟩ : ∃ a,a=World.drewN d g:=⟨_,rfl⟩;rw[<- Q];have s7:Stp d.heap.size d wq6:=by rw[Q]; exact Sb (je d g)
  have b9:=bE s7.old r;clear Q;refine sN (aO (ay (av aF (aD (Wr (sR (bL (sR (pO (bL (sR (aJ aF (⟨iG (Eq.symm ?_),b9⟩)))))))))))));exact Jm (p:=i) (by omega) s
 refine Lv aF (iw Z)<|aD<|aK<|Wx<|bZ<|gL<|cu<|sN<|Ws<|ay<|av (au 1)<|aD<|Wb ?_;have A:i=6:=by omega
 rw[A]at B;have HE:=KX B;have V:KW x 6:=B;refine Wo (fun f q => ∃ m:Nat,m<=6/\(∀ k,k<m->0<=L x k)/\f 1=(pt c)/\f 3=au (zy x i)/\f 6=au ((m:Int)+1)/\aR q c 54 (rv .i64 x) 82/\Below w.heap.size w q) (fun f _=>(7-(intOf (f 6)).toNat)) ⟨0,by omega,(fun _ h=>M_ h (by omega)),n,(h2.trans Fx.ic),Fx.ic,o,r⟩ ?_;rintro f3 w4 ⟨m,hm,u,h8,h9,D,m10,F⟩;refine Ws<|ay<|bf D ?_;by_cases Y:((m:Int)+1)<=6
 ·refine Lv aG (mZ Y)<|aD<|aO<|Wk<|sN<|Ws<|Wb<|ay<|Lv (.agg (aA 54 (rv .i64 x))) (fD m10.aH 0 (ha:=h8))<|bf D<|dJ (Fp x m _ (by omega) HE) _ rfl ?_;intro w5 hb1;have⟨m11,W⟩:=fq hb1 m10 F;by_cases I:(L x m)<0
  ·refine Lv aG (iq I) (aD (aO (ay (av aF (aD (Wr (bL (sR (pO (bL (sR (aJ aF (⟨iG (Eq.symm ?_),W⟩)))))))))))));exact acE (i:=m) (by omega) I
  refine Lv aF (iw I)<|aD<|aK<|Wk<|bR<|sN<|Wl<|bf D<|Lv (au ((m:Int)+2)) fC<|av (au ((m:Int)+2))<|Ln<|ig ⟨m+1,by omega,Ux u (by omega),h8,(h9.trans Fx.ic),Fx.ic,m11,W⟩ ?_;show(7-(intOf (au ((m:Int)+2))).toNat)<_;simp only[D,intOf]; omega
 refine Lv aF (nP Y)<|aD<|aK<|Wx<|bZ<|gL<|cu<|sN<|ay<|bf h9 ?_;by_cases t:(zy x i)<=1125899906842624
 ·refine Lv aG (mZ t) (av aG (aD (Wr (aJ aG (⟨iG (Eq.symm ?_),F⟩)))));have J:m=6:=by omega
  rw[J]at u;rw[A]at t;rw[OW V u]; exact f_ t
 refine Lv aF (nP t) (av aF (aD (Wr (aJ aF (⟨iG (Eq.symm ?_),F⟩)))));have J:m=6:=by omega
 rw[J]at u;rw[A]at t;rw[OW V u]; exact g_ t
namespace Rt
def eX(x:Nat->Int)(i n:Int):Int:=if may x&&decide (1<=n)&&decide (n<=1125899906842624)then(if gW i then 0 else 10)else 1
end Rt
theorem Fu(x:Nat->Int)(i n:Int)(w:World) :
 Calls Tryz.prog 162 #[.agg (aA 54 (rv .i64 x)),au i,au n] w fun e w'=>e = .returned (au (eX x i n))/\Below w.heap.size w w':=by
 refine Kent Tryz.func162 21 ?_;refine ay<|pR fun p s k h o v => ?_;have d:=bE o.old (Below.refl w.heap.size w);have q:=gT k;have r:=h.lt;refine av (au 0)<|aD<|Ws<|ay<|Lv (.agg (aA 54 (rv .i64 x))) (fD h.aH 0) ?_;by_cases a:(may x)=true
 ·refine dJ (Uy x _) aG (by rw[a]) ?_;intro t l;have c:=bE l d;refine av aF<|av aF<|av (au n) ?_;by_cases f:n<1
  ·refine Lv aG (iq f) (av aG (av aG (dB (dB (av aG (aD (aO (ay (av (au 1) (aD (Wr (sR (aJ (au 1) (⟨pU ?_,c⟩))))))))))))));unfold eX; rw[a,g_ (show ¬ 1<=n by omega)]; simp
  refine Lv aF (iw f)<|av aF<|av aF<|av (au n) ?_;by_cases g:1125899906842624<n
  ·refine Lv aG (ng g) (av aG (aD (aO (ay (av (au 1) (aD (Wr (sR (aJ (au 1) (⟨pU ?_,c⟩))))))))));unfold eX; rw[a,f_ (show 1<=n by omega),g_ (show ¬ n<=1125899906842624 by omega)]; simp
  refine Lv aF (ni g)<|av aF<|aD<|aK<|Wk<|sN<|Ws<|ay<|av (au i) ?_;by_cases b:(gW i)=true
  ·refine lU (yT i _) aG (by rw[b]) (av aF (aD (aK (Wk (sN (ay (av (au 0) (aD (Wr (aJ (au 0) (⟨pU ?_,c⟩)))))))))));unfold eX; rw[a,f_ (show 1<=n by omega),f_ (show n<=1125899906842624 by omega),b]; simp
  rw[T_]at b;refine lU (yT i _) aF (by rw[b]) (av aG (aD (aO (ay (av (au 10) (aD (Wr (sR (aJ (au 10) (⟨pU ?_,c⟩))))))))));unfold eX; rw[a,f_ (show 1<=n by omega),f_ (show n<=1125899906842624 by omega),b]; simp
 rw[T_]at a;refine dJ (Uy x _) aF (by rw[a]) ?_;intro u m;have j:=bE m d;refine av aG (av aG (dB (dB (av aG (av aG (dB (dB (av aG (aD (aO (ay (av (au 1) (aD (Wr (sR (aJ (au 1) (⟨pU ?_,j⟩)))))))))))))))));unfold eX; rw[a]; simp
namespace Rt
theorem Fv{x:Nat->Int}{i n:Int}(h:eX x i n=0):may x=true/\1<=n/\n<=1125899906842624/\gW i=true:=by
 unfold eX at h;by_cases a:may x=true
 ·by_cases b:1<=n
  ·by_cases c:n<=1125899906842624
   ·rw[a,f_ b,f_ c]at h
    cases h4:gW i
    ·rw[h4]at h; simp at h
    exact⟨a,b,c,rfl⟩
   rw[g_ c]at h; simp at h
  rw[g_ b]at h; simp at h
 rw[show may x=false by simpa using a]at h; simp at h
theorem KY{x:Nat->Int}{i n b:Int}{off:Nat}(h : ¬ eX x i n=0):bT x n (gW i) b off=(zero,eX x i n):=by
 unfold eX at *;unfold bT;by_cases a:(may x&&decide (1<=n)&&decide (n<=1125899906842624))=true
 ·simp only[d_ a]at *
  cases h4:gW i
  ·simp
  simp[h4]at h
 simp only[b_ a]at *
theorem Co{x:Nat->Int}{n a:Int}{is:Bool}{off:Nat}(h1:may x=true)(b:1<=n)(c:n<=1125899906842624)(d:is=true) :
 bT x n is a off=if a=0 then(if x off+n<=1125899906842624 then(upd x off (x off+n),0)else(zero,6))else(zero,a):=by
 unfold bT; rw[h1,f_ b,f_ c,d]; simp
theorem Ai{x:Nat->Int}{n a:Int}{is:Bool}{off:Nat}(h1:may x=true)(b:1<=n)(c:n<=1125899906842624)(d:is=true)(e:a=0)(f:x off+n<=1125899906842624):bT x n is a off=(upd x off (x off+n),0):=by
 rw[Co h1 b c d,d_ e,d_ f]
theorem Dh{x:Nat->Int}{n a:Int}{is:Bool}{off:Nat}(h1:may x=true)(b:1<=n)(c:n<=1125899906842624)(d:is=true)(e:a=0)(f : ¬ x off+n<=1125899906842624):bT x n is a off=(zero,6):=by
 rw[Co h1 b c d,d_ e,b_ f]
theorem wP{x:Nat->Int}{n a e:Int}{is:Bool}{off:Nat}(h1:may x=true)(b:1<=n)(c:n<=1125899906842624)(d:is=true)(f:a=e)(g:e≠0):bT x n is a off=(zero,e):=by
 rw[Co h1 b c d,f,b_ g]
theorem QD{x:Nat->Int}{n a:Int}{off:Nat}(h1:may x=true)(b:1<=n)(c:n<=1125899906842624):bT x n false a off=(zero,10):=by
 unfold bT; rw[h1,f_ b,f_ c]; simp
theorem pl(k:Nat):((k:Int)+1).toNat-1=k:=by omega
theorem QE{x:Nat->Int}{i j n:Int}(h : ¬ eX x i n=0):dn x i j n=(zero,eX x i n):=by
 unfold dn;unfold eX at *;unfold bT;by_cases a:(may x&&decide (1<=n)&&decide (n<=1125899906842624))=true
 ·simp only[d_ a]at *
  cases h4:gW i
  ·simp
  simp[h4]at h
 simp only[b_ a]at *
theorem KZ(k q:Nat):kY ((k:Int)+1) ((q:Int)+1)=6*k+q+18:=by unfold kY; omega
theorem Uz{x:Nat->Int}{k:Nat}(a:may x=true)(b:k<6):x (k+6)<=1125899906842624:=(lV a (k+6) (by omega)).2
end Rt
set_option maxRecDepth 10000 in
theorem X9(x:Nat->Int)(i n:Int)(w:World) :
 Calls Tryz.prog 159 #[.agg (aA 54 (rv .i64 x)),au i,au n] w fun e w'=>e = .returned (.tuple #[.agg (aA 54 (rv .i64 (bD x i n).1)),au (bD x i n).2])/\Below w.heap.size w w':=by
 refine Kent Tryz.func159 42 ?_;refine ay<|pR fun b w1 Q p s1 z1 => ?_;have u:=bE s1.old (Below.refl w.heap.size w);have sM:=gT Q;have ug:=p.lt;refine rR 54 (rv .i64 (fun _=>0)) fun l w2 z B s2 z2 => ?_;have⟨C,K⟩:=fq s2.old p u;have ru:=iQ z u.size;have KE:=cK z p.lt;have zK:=B.lt;refine av (au 0)<|aD<|ay<|Lv (.agg (aA 54 (rv .i64 x))) (fD C.aH 0)<|av (au i)<|av (au n)<|dJ (Fu x i n _) _ rfl ?_;intro w3 S;have⟨q,D,m⟩:=iy S C B K;refine av (au (eX x i n))<|aD<|Ws<|ay<|av (au (eX x i n)) ?_;by_cases j:(eX x i n)=0
 ·refine Lv aF (jQ j)<|aD<|aK<|Wk<|sN<|Ws<|Ws ?_;obtain⟨a,s,t,h⟩:=Fv j;have J:=lV a;obtain⟨k,o,R,_⟩:=pI h;subst R;refine Wl<|av (au n)<|Lv (.agg (aA 54 (rv .i64 x))) (fD q.aH 0)<|av (au ((k:Int)+1))<|dJ (Fp x k _ (by omega) (lV a)) _ rfl ?_;intro w4 T;have⟨g,r,d⟩:=iy T q D m;by_cases f:(L x k)<n
  ·refine Lv aG (ng f)<|aD<|aO<|ay<|av (.agg (aA 54 (rv .i64 (fun _=>0))))<|eP r 0 fun w5 m8 E z3 => ?_;have m9:aR w5 l 54 (rv .i64 (fun _=>0)) 82:=aS m8;have m10:=g.cO E (by omega);have M:=E.below d d.size (by omega);refine av (au 11) (aD (Wr (sR (⟨.tuple #[.agg (aA 54 (rv .i64 (fun _=>0))),au 11],gy Tryz.results159 ⟨_,rfl,aW m9.aH (by kernel_rfl) (by kernel_rfl)⟩ (by exact rfl),?_⟩))));refine⟨?_,M⟩;have c:bD x ((k:Int)+1) n=(zero,11):=by
    unfold bD pW;rw[nY a k o,f_ f];exact wP a s t h rfl (by decide)
   rw[c]
   all_goals rfl
  refine Lv aF (ni f)<|aD<|aK<|Wk<|sN<|Ws<|Ws ?_;have q1:=J (k+6);refine Wl<|av (au ((k:Int)+1))<|Lv (au k) gD<|av (pf b 6)<|Lv (pf b (k+6)) (jM 6 1)<|Lv (au (x (k+6))) (aM g.aH (k+6))<|av (au n)<|Lv (au ((x (k+6))+n)) fC ?_;by_cases y:1125899906842624<((x (k+6))+n)
  ·refine Lv aG (ng y)<|aD<|aO<|ay<|av (.agg (aA 54 (rv .i64 (fun _=>0))))<|eP r 0 fun w6 U F z4 => ?_;have V:aR w6 l 54 (rv .i64 (fun _=>0)) 82:=aS U;have m13:=g.cO F (by omega);have N:=F.below d d.size (by omega);refine av (au 6) (aD (Wr (sR (⟨.tuple #[.agg (aA 54 (rv .i64 (fun _=>0))),au 6],gy Tryz.results159 ⟨_,rfl,aW V.aH (by kernel_rfl) (by kernel_rfl)⟩ (by exact rfl),?_⟩))));refine⟨?_,N⟩;have c:bD x ((k:Int)+1) n=(zero,6):=by
    unfold bD pW;rw[nY a k o,g_ f,pl,Nat.add_comm 6 k];exact Dh a s t h rfl (by omega)
   rw[c]
   all_goals rfl
  refine Lv aF (ni y)<|aD<|aK<|Wk<|sN<|ay<|av (au ((k:Int)+1))<|Lv (au k) gD<|av (pf b 6)<|Lv (pf b (k+6)) (jM 6 1)<|Lv (au (x (k+6))) (aM g.aH (k+6))<|av (au n)<|Lv (au ((x (k+6))+n)) fC<|av (pf b 6)<|Lv (pf b (k+6)) (jM 6 1)<|jg g (k+6) (au ((x (k+6))+n)) fun w7 W G z5 => ?_;have A:aR w7 b 54 (rv .i64 (upd x (k+6) ((x (k+6))+n))) 82:=W.to (Fx.yJ _ _ _ _);have X:=r.cO G (by omega);have v:=G.below d d.size (by omega);refine aD<|ay<|Lv (.agg (aA 54 (rv .i64 (upd x (k+6) ((x (k+6))+n))))) (fD A.aH 0)<|eP X 0 fun w8 Y H z6 => ?_;have Z:aR w8 l 54 (rv .i64 (upd x (k+6) ((x (k+6))+n))) 82:=aS Y;have m19:=A.cO H (by omega);have O:=H.below v v.size (by omega);refine av (au 0) (aD (Wr (⟨.tuple #[.agg (aA 54 (rv .i64 (upd x (k+6) ((x (k+6))+n)))),au 0],gy Tryz.results159 ⟨_,rfl,aW Z.aH (by kernel_rfl) (by kernel_rfl)⟩ (by exact rfl),?_⟩)));refine⟨?_,O⟩;have c:bD x ((k:Int)+1) n=(upd x (k+6) (x (k+6)+n),0):=by
   unfold bD pW;rw[nY a k o,g_ f,pl,Nat.add_comm 6 k];exact Ai a s t h rfl (by omega)
  rw[c]
  all_goals rfl
 refine Lv aG (nk j)<|aD<|aO<|ay<|av (.agg (aA 54 (rv .i64 (fun _=>0))))<|av (au (eX x i n))<|eP D 0 fun w9 aa I z7 => ?_;have ab:aR w9 l 54 (rv .i64 (fun _=>0)) 82:=aS aa;have m22:=q.cO I (by omega);have P:=I.below m m.size (by omega);refine av (au (eX x i n)) (aD (Wr (sR (⟨.tuple #[.agg (aA 54 (rv .i64 (fun _=>0))),au (eX x i n)],gy Tryz.results159 ⟨_,rfl,aW ab.aH (by kernel_rfl) (by kernel_rfl)⟩ (by exact rfl),?_⟩))));refine⟨?_,P⟩;have c:bD x i n=(zero,eX x i n):=by
  exact KY j
 rw[c]
 all_goals rfl
set_option maxRecDepth 10000 in
theorem Ya(x:Nat->Int)(i n:Int)(w:World) :
 Calls Tryz.prog 161 #[.agg (aA 54 (rv .i64 x)),au i,au n] w fun e w'=>e = .returned (.tuple #[.agg (aA 54 (rv .i64 (bH x i n).1)),au (bH x i n).2])/\Below w.heap.size w w':=by
 refine Kent Tryz.func161 41 ?_;refine ay<|pR fun c w1 T t s1 z1 => ?_;have y:=bE s1.old (Below.refl w.heap.size w);have sM:=gT T;have ug:=t.lt;refine rR 54 (rv .i64 (fun _=>0)) fun s w2 D H s2 z2 => ?_;have⟨I,P⟩:=fq s2.old t y;have ru:=iQ D y.size;have KE:=cK D t.lt;have zK:=H.lt;refine av (au 0)<|aD<|ay<|Lv (.agg (aA 54 (rv .i64 x))) (fD I.aH 0)<|av (au i)<|av (au n)<|dJ (Fu x i n _) _ rfl ?_;intro d V;have⟨g,u,l⟩:=iy V I H P;refine av (au (eX x i n))<|aD<|Ws<|ay<|av (au (eX x i n)) ?_;by_cases m:(eX x i n)=0
 ·refine Lv aF (jQ m)<|aD<|aK<|Wk<|sN<|Ws<|Ws ?_;obtain⟨j,J,K,p⟩:=Fv m;have v:=lV j;obtain⟨k,W,U,_⟩:=pI p;subst U;have q1:=v (k+6);have q2:=v (k+12);refine uO<|aX (au n)<|aX (au ((k:Int)+1))<|Qv (au k) (fun a b=>gD)<|aX (pf c 6)<|Qv (pf c (k+6)) (fun a b=>jM 6 1)<|Qv (au (x (k+6))) (fun a b=>aM (g.aH.dr b) (k+6))<|aX (au ((k:Int)+1))<|Qv (au k) (fun a b=>gD)<|aX (pf c 12)<|Qv (pf c (k+12)) (fun a b=>jM 6 1)<|Qv (au (x (k+12))) (fun a b=>aM (g.aH.dr b) (k+12))<|Qv (au ((x (k+6))-(x (k+12)))) (fun a b=>gD) ?_;by_cases o:((x (k+6))-(x (k+12)))<n
  ·refine Qv aG (fun a b=>ng o)<|Qn ?_;rintro _ ⟨h,rfl⟩;obtain⟨BZ,q⟩ : ∃ a,a=World.drewN d h:=⟨_,rfl⟩;rw[<- q];have s4:Stp d.heap.size d BZ:=(by rw[q]; exact Sb (je d h));have⟨m6,m7,z⟩:=iy s4.old g u l;clear q;refine sN<|aO<|ay<|av (.agg (aA 54 (rv .i64 (fun _=>0))))<|eP m7 0 fun w4 m8 L z3 => ?_;have m9:aR w4 s 54 (rv .i64 (fun _=>0)) 82:=aS m8;have m10:=m6.cO L (by omega);have Q:=L.below z z.size (by omega);refine av (au 12) (aD (Wr (sR (⟨.tuple #[.agg (aA 54 (rv .i64 (fun _=>0))),au 12],gy Tryz.results161 ⟨_,rfl,aW m9.aH (by kernel_rfl) (by kernel_rfl)⟩ (by exact rfl),?_⟩))));refine⟨?_,Q⟩;have f:bH x ((k:Int)+1) n=(zero,12):=by
    unfold bH qL C F;rw[pl,Nat.add_comm 6 k,Nat.add_comm 12 k,f_ o];exact wP j J K p rfl (by decide)
   rw[f]
   all_goals rfl
  refine Qv aF (fun a b=>ni o)<|Qn ?_;rintro _ ⟨h,rfl⟩;obtain⟨wq2,r⟩ : ∃ a,a=World.drewN d h:=⟨_,rfl⟩;rw[<- r];have s6:Stp d.heap.size d wq2:=by rw[r]; exact Sb (je d h)
  have⟨E,X,A⟩:=iy s6.old g u l;clear r;refine sN<|aK<|Wk<|sN<|ay<|av (au ((k:Int)+1))<|Lv (au k) gD<|av (pf c 12)<|Lv (pf c (k+12)) (jM 6 1)<|Lv (au (x (k+12))) (aM E.aH (k+12))<|av (au n)<|Lv (au ((x (k+12))+n)) fC<|av (pf c 12)<|Lv (pf c (k+12)) (jM 6 1)<|jg E (k+12) (au ((x (k+12))+n)) fun w5 Y M z4 => ?_;have G:aR w5 c 54 (rv .i64 (upd x (k+12) ((x (k+12))+n))) 82:=Y.to (Fx.yJ _ _ _ _);have Z:=X.cO M (by omega);have B:=M.below A A.size (by omega);refine aD<|ay<|Lv (.agg (aA 54 (rv .i64 (upd x (k+12) ((x (k+12))+n))))) (fD G.aH 0)<|eP Z 0 fun w6 aa N z5 => ?_;have ab:aR w6 s 54 (rv .i64 (upd x (k+12) ((x (k+12))+n))) 82:=aS aa;have m18:=G.cO N (by omega);have R:=N.below B B.size (by omega);refine av (au 0) (aD (Wr (⟨.tuple #[.agg (aA 54 (rv .i64 (upd x (k+12) ((x (k+12))+n)))),au 0],gy Tryz.results161 ⟨_,rfl,aW ab.aH (by kernel_rfl) (by kernel_rfl)⟩ (by exact rfl),?_⟩)));refine⟨?_,R⟩;have f:bH x ((k:Int)+1) n=(upd x (k+12) (x (k+12)+n),0):=by
   unfold bH qL C F;rw[pl,Nat.add_comm 6 k,Nat.add_comm 12 k,g_ o];exact Ai j J K p rfl (by have:=Uz j W; omega)
  rw[f]
  all_goals rfl
 refine Lv aG (nk m)<|aD<|aO<|ay<|av (.agg (aA 54 (rv .i64 (fun _=>0))))<|av (au (eX x i n))<|eP u 0 fun w7 ac O z6 => ?_;have ad:aR w7 s 54 (rv .i64 (fun _=>0)) 82:=aS ac;have m21:=g.cO O (by omega);have S:=O.below l l.size (by omega);refine av (au (eX x i n)) (aD (Wr (sR (⟨.tuple #[.agg (aA 54 (rv .i64 (fun _=>0))),au (eX x i n)],gy Tryz.results161 ⟨_,rfl,aW ad.aH (by kernel_rfl) (by kernel_rfl)⟩ (by exact rfl),?_⟩))));refine⟨?_,S⟩;have f:bH x i n=(zero,eX x i n):=by
  exact KY m
 rw[f]
 all_goals rfl
set_option maxRecDepth 10000 in
theorem Yb(x:Nat->Int)(i j n:Int)(w:World) :
 Calls Tryz.prog 127 #[.agg (aA 54 (rv .i64 x)),au i,au j,au n] w fun e w'=>e = .returned (.tuple #[.agg (aA 54 (rv .i64 (dn x i j n).1)),au (dn x i j n).2])/\Below w.heap.size w w':=by
 refine Kent Tryz.func127 59 ?_;refine ay<|pR fun c w1 aa z s1 z1 => ?_;have B:=bE s1.old (Below.refl w.heap.size w);have sM:=gT aa;have ug:=z.lt;refine rR 54 (rv .i64 (fun _=>0)) fun h w2 F H s2 z2 => ?_;have⟨J,W⟩:=fq s2.old z B;have ru:=iQ F B.size;have KE:=cK F z.lt;have zK:=H.lt;refine av (au 0)<|aD<|ay<|Lv (.agg (aA 54 (rv .i64 x))) (fD J.aH 0)<|av (au i)<|av (au n)<|dJ (Fu x i n _) _ rfl ?_;intro w3 hb1;have⟨p,u,f⟩:=iy hb1 J H W;refine av (au (eX x i n))<|aD<|Ws<|ay<|av (au (eX x i n)) ?_;by_cases t:(eX x i n)=0
 ·refine Lv aF (jQ t)<|aD<|aK<|Wk<|sN<|Ws<|Ws ?_;obtain⟨b,r,s,l⟩:=Fv t;have S:=lV b;obtain⟨k,y,ei,_⟩:=pI l;subst ei;refine Wl<|av (au j) ?_;by_cases d:(gW j)=true
  ·refine lU (yT j _) aG (by rw[d])<|av aF<|aD<|aK<|Wk<|sN<|Ws<|Ws ?_;obtain⟨q,hq,ej,_⟩:=pI d;subst ej;refine Wl<|av (au ((k:Int)+1))<|av (au ((q:Int)+1)) ?_;by_cases g:((k:Int)+1)=((q:Int)+1)
   ·refine Lv aG (eO g)<|aD<|aO<|ay<|av (.agg (aA 54 (rv .i64 (fun _=>0))))<|eP u 0 fun w4 m6 O z3 => ?_;have m7:aR w4 h 54 (rv .i64 (fun _=>0)) 82:=aS m6;have m8:=p.cO O (by omega);have X:=O.below f f.size (by omega);refine av (au 1) (aD (Wr (sR (⟨.tuple #[.agg (aA 54 (rv .i64 (fun _=>0))),au 1],gy Tryz.results127 ⟨_,rfl,aW m7.aH (by kernel_rfl) (by kernel_rfl)⟩ (by exact rfl),?_⟩))));refine⟨?_,X⟩;have a:dn x ((k:Int)+1) ((q:Int)+1) n=(zero,1):=by
     unfold dn nX;rw[d_ g];exact wP b r s (by rw[l,d]; rfl) rfl (by decide)
    rw[a]
    all_goals rfl
   refine Lv aF (fO g)<|aD<|aK<|Wk<|sN<|Ws<|ay<|av (au n)<|Lv (.agg (aA 54 (rv .i64 x))) (fD p.aH 0)<|av (au ((k:Int)+1))<|dJ (Fp x k _ (by omega) (lV b)) _ rfl ?_;intro w5 hb2;have⟨v,A,m⟩:=iy hb2 p u f;by_cases o:(L x k)<n
   ·refine Lv aG (ng o)<|aD<|aO<|ay<|av (.agg (aA 54 (rv .i64 (fun _=>0))))<|eP A 0 fun w6 m11 P z4 => ?_;have m12:aR w6 h 54 (rv .i64 (fun _=>0)) 82:=aS m11;have m13:=v.cO P (by omega);have Y:=P.below m m.size (by omega);refine av (au 11) (aD (Wr (sR (⟨.tuple #[.agg (aA 54 (rv .i64 (fun _=>0))),au 11],gy Tryz.results127 ⟨_,rfl,aW m12.aH (by kernel_rfl) (by kernel_rfl)⟩ (by exact rfl),?_⟩))));refine⟨?_,Y⟩;have a:dn x ((k:Int)+1) ((q:Int)+1) n=(zero,11):=by
     unfold dn nX;rw[b_ g,nY b k y,f_ o];exact wP b r s (by rw[l,d]; rfl) rfl (by decide)
    rw[a]
    all_goals rfl
   refine Lv aF (ni o)<|aD<|aK<|Wk<|sN<|Ws<|Ws ?_;have q1:=S (6*k+q+18);refine Wl<|av (au ((k:Int)+1))<|Lv (au k) gD<|av (au ((q:Int)+1))<|Lv (au q) gD<|av (pf c 18)<|Lv (pf c (6*k+18)) (jM 6 6)<|Lv (pf c (6*k+q+18)) (jM 6 1)<|Lv (au (x (6*k+q+18))) (aM v.aH (6*k+q+18))<|av (au n)<|Lv (au ((x (6*k+q+18))+n)) fC ?_;by_cases E:1125899906842624<((x (6*k+q+18))+n)
   ·refine Lv aG (ng E)<|aD<|aO<|ay<|av (.agg (aA 54 (rv .i64 (fun _=>0))))<|eP A 0 fun w7 m14 Q z5 => ?_;have m15:aR w7 h 54 (rv .i64 (fun _=>0)) 82:=aS m14;have m16:=v.cO Q (by omega);have Z:=Q.below m m.size (by omega);refine av (au 6) (aD (Wr (sR (⟨.tuple #[.agg (aA 54 (rv .i64 (fun _=>0))),au 6],gy Tryz.results127 ⟨_,rfl,aW m15.aH (by kernel_rfl) (by kernel_rfl)⟩ (by exact rfl),?_⟩))));refine⟨?_,Z⟩;have a:dn x ((k:Int)+1) ((q:Int)+1) n=(zero,6):=by
     unfold dn nX;rw[b_ g,nY b k y,g_ o,KZ];exact Dh b r s (by rw[l,d]; rfl) rfl (by omega)
    rw[a]
    all_goals rfl
   refine Lv aF (ni E)<|aD<|aK<|Wk<|sN<|Ws ?_;refine Wt 13 (by kernel_rfl) (by kernel_rfl) fun qA dP iE => ?_;have⟨G,m18,C⟩:=iy dP v A m;refine EI (au ((k:Int)+1))<|qx (au k) gD<|EI (au ((q:Int)+1))<|qx (au q) gD<|EI (pf c 18)<|qx (pf c (6*k+18)) (jM 6 6)<|qx (pf c (6*k+q+18)) (jM 6 1)<|qx (au (x (6*k+q+18))) (aM G.aH (6*k+q+18))<|EI (au n)<|qx (au ((x (6*k+q+18))+n)) fC<|EI (pf c 18)<|qx (pf c (6*k+18)) (jM 6 6)<|qx (pf c (6*k+q+18)) (jM 6 1)<|Fx.St.nil ?_;refine jg G (6*k+q+18) (au ((x (6*k+q+18))+n)) fun w8 m19 R z6 => ?_;have I:aR w8 c 54 (rv .i64 (upd x (6*k+q+18) ((x (6*k+q+18))+n))) 82:=m19.to (Fx.yJ _ _ _ _);have m21:=m18.cO R (by omega);have D:=R.below C C.size (by omega);refine aD<|ay<|Lv (.agg (aA 54 (rv .i64 (upd x (6*k+q+18) ((x (6*k+q+18))+n))))) (fD I.aH 0)<|eP m21 0 fun w9 m22 K z7 => ?_;have m23:aR w9 h 54 (rv .i64 (upd x (6*k+q+18) ((x (6*k+q+18))+n))) 82:=aS m22;have m24:=I.cO K (by omega);have T:=K.below D D.size (by omega);refine av (au 0) (aD (Wr (⟨.tuple #[.agg (aA 54 (rv .i64 (upd x (6*k+q+18) ((x (6*k+q+18))+n)))),au 0],gy Tryz.results127 ⟨_,rfl,aW m23.aH (by kernel_rfl) (by kernel_rfl)⟩ (by exact rfl),?_⟩)));refine⟨?_,T⟩;have a:dn x ((k:Int)+1) ((q:Int)+1) n=(upd x (6*k+q+18) (x (6*k+q+18)+n),0):=by
    unfold dn nX;rw[b_ g,nY b k y,g_ o,KZ];exact Ai b r s (by rw[l,d]; rfl) rfl (by omega)
   rw[a]
   all_goals rfl
  rw[T_]at d;refine lU (yT j _) aF (by rw[d])<|av aG<|aD<|aO<|ay<|av (.agg (aA 54 (rv .i64 (fun _=>0))))<|eP u 0 fun sO mQ M z8 => ?_;have nH:aR sO h 54 (rv .i64 (fun _=>0)) 82:=aS mQ;have oq:=p.cO M (by omega);have U:=M.below f f.size (by omega);refine av (au 10) (aD (Wr (sR (⟨.tuple #[.agg (aA 54 (rv .i64 (fun _=>0))),au 10],gy Tryz.results127 ⟨_,rfl,aW nH.aH (by kernel_rfl) (by kernel_rfl)⟩ (by exact rfl),?_⟩))));refine⟨?_,U⟩;have a:dn x ((k:Int)+1) j n=(zero,10):=by
   unfold dn;rw[d,I_];exact QD b r s
  rw[a]
  all_goals rfl
 refine Lv aG (nk t)<|aD<|aO<|ay<|av (.agg (aA 54 (rv .i64 (fun _=>0))))<|av (au (eX x i n))<|eP u 0 fun Gi oL N z9 => ?_;have oM:aR Gi h 54 (rv .i64 (fun _=>0)) 82:=aS oL;have oC:=p.cO N (by omega);have V:=N.below f f.size (by omega);refine av (au (eX x i n)) (aD (Wr (sR (⟨.tuple #[.agg (aA 54 (rv .i64 (fun _=>0))),au (eX x i n)],gy Tryz.results127 ⟨_,rfl,aW oM.aH (by kernel_rfl) (by kernel_rfl)⟩ (by exact rfl),?_⟩))));refine⟨?_,V⟩;have a:dn x i j n=(zero,eX x i n):=by
  exact QE t
 rw[a]
 all_goals rfl
namespace Rt
theorem Eh{m:kR}{x:Int}(h:0<=m.node x) : ∃ q:Nat,q<m.s.nn/\gX (fun i=>decide (m.id i=x)) m.s.nn=(q:Int)/\m.id q=x:=by
 rcases jh (fun i=>decide (m.id i=x)) m.s.nn with ⟨q,b,e,a⟩|⟨e,_⟩
 ·exact⟨q,b,e,h_ a⟩
 unfold kR.node at h; omega
theorem OX{n:Nat}{x:Nat->Int}{r:Int} : ∀ j,j<(n+1)*1->iF (rv .u64 x) (n*1) (bK (fun j=>rv .u64 (fun _=>0) (j % 1)) (0*1) 1 (fun _=>aC r)) j=rv .u64 (aI x n r) j:=by
 intro j a;unfold iF rv aI;by_cases h:j<n*1
 ·rw[d_ h,b_ (by omega)]
 rw[b_ h,d_ (by omega)];unfold bK;rw[d_ (by omega)]
theorem K3{P:Nat->Bool}{n k j:Nat}(e:k=j+1)(h : ∀ i,k<=i->i<n->P i=true)(c:P j=true) : ∀ i,j<=i->i<n->P i=true:=fun i d b=>by
 by_cases a:i=j
 ·subst a; exact c
 ·exact h i (by omega) b
end Rt
theorem Bg(m:kR)(p a:Nat)(o r:Int)(w:World)(h:Cb w p m)(ha:a<6)(b:o=(a:Int)+1) :
 Calls Tryz.prog 158 #[(pt p),au o,aC r] w fun e w'=>e = .returned (.bool (decide (0<=m.lD a r)))/\Below w.heap.size w w':=by
 subst b; exact XU m p a r w h ha
set_option maxRecDepth 20000 in
set_option maxHeartbeats 2000000 in
theorem Yc(m:kR)(B p a D:Nat)(v:EvM)(w:World)(M:um w B p m)(E:B<=w.heap.size)(ha:a<6)(ho:v.o=(a:Int)+1)(bgg:m.s.gn<=900000)(brr : ∀ i,i<6->m.rn i<=900000)(hTN : ∀ x,m.node x=bF m.t m.tn x)(hD:bF m.t m.tn (aT m.t m.tn D v.node)<0)(hD2:D<=1000) :
 Calls Tryz.prog 125 #[(pt p),.agg (aA 14 (bM v))] w fun e w'=>e = .returned (au (iZ m.core v))/\Below B w w'/\(iZ m.core v=0 -> ∃ m',m'.core=mE m.core v/\um w' B p m'):=by
 have Ui:=M.c;have hLn:=M.n;have hLg:=M.g;have Uj:=M.tc;have Uk:=M.t;have hLr:=M.r;have Ul:=M.pB;have DU:=M.tB;have bn:=M.bn;have bg:=M.bg;have bt:=M.bt;have lpp:p<w.heap.size:=Ui.lt;have Ru:m.tb<w.heap.size:=Uj.lt;refine Kent Tryz.func125 188 ?_;refine ay<|pR fun G w1 mo m1 s1 z1 => ?_;have⟨m2,m3,m4,m5,m6,m7⟩:=rT s1.old Ui hLn hLg Uj Uk hLr;have b1:=eZ s1.old (Below.refl B w) E;have sM:=iQ mo (Below.refl B w).size;have⟨nG,xC⟩:=wh mo Ui.lt Uj.lt;have ug:=m1.lt;refine av (au 0)<|aD<|Ws<|ay<|av (pt p)<|av (pt G)<|Lv (au v.o) (aM m1.aH 0)<|av (pf G 12)<|Lv (aC v.req) (aM m1.aH 12) ?_;have Nh:Cb w1 p m := { c:=m2.aH,an:=m3.arr,ag:=m4.arr,tc:=m5.aH,at2:=m6.arr,ar:=fun i L=>(m7.1 i L).arr,bn:=(by show m.s.nn<=1000000; omega),bg:=bg,bt:=(by show m.tn<=1000000; omega),br:=M.br };by_cases c17:(decide (0<=m.lD a v.req))=true
 ·refine dJ (Bg m p a v.o v.req _ Nh ha ho) aG (by rw[c17]) ?_;intro w2 hb1;have b2:=eZ hb1 b1 E;refine aD<|aO<|ay<|av (au 14)<|aD<|Wr<|sR<|aJ (au 14) ?_;have eN:aL v=a:=by unfold aL; omega
  have V:iZ m.core v=14:=by unfold iZ; rw[eN]; exact d_ (h_ c17)
  exact⟨pU V.symm,b2,fun h0=>by rw[V]at h0; cases h0⟩
 rw[T_]at c17;refine dJ (Bg m p a v.o v.req _ Nh ha ho) aF (by rw[c17]) ?_;intro w3 hb2;have⟨m15,m16,m17,m18,m19,m20,m21⟩:=jR hb2 m2 m3 m4 m5 m6 m7 m1;have b3:=eZ hb2 b1 E;refine aD<|aK<|Wk<|sN<|Ws ?_;refine jW [0,1,2,4,3,5,6,7] [0,0,0,4,0,4,3,0] [(6,3,[3]),(6,5,[5]),(7,6,[6])] fun qA dP iE => ?_;have⟨m22,m23,m24,mQ,nH,oq,oL⟩:=jR dP m15 m16 m17 m18 m19 m20 m21;have b4:=eZ dP b3 E;refine aY (pt p)<|aY (pt p)<|aY (pf p 20)<|aY (pf G 9)<|Rs (pt m.tb) (aM m22.aH 20) ?_;refine Rs (aC v.node) (aM oL.aH 9) ?_;refine gQ<|mh (Jf m.tb m.ta m.tn m.tc m.t v.node D _ (tV mQ nH bt) hD hD2) ?_;rintro e w4 ⟨K,vv,he,hown,rZ,hK1,hb3⟩;obtain⟨a1,A,rfl⟩:=hown.val;refine⟨.slice a1 K A,he,?_⟩;clear he;have Xe:K=dF m.t m.tn v.node:=vo rZ hK1 hD hD2;have hKD:K<=1000:=by rw[Xe]; exact Jl _ _
 have⟨oM,oC,mI,m32,qB,nV,qC⟩:=jR hb3 m22 m23 m24 mQ nH oq oL;have b5:=eZ hb3 b4 E;refine Ln<|aY (.slice a1 (K) (A))<|bS<|Ws<|ay<|av (.slice a1 (K) (A))<|av (au K) ?_;by_cases c27:(K:Int)=0
 ·refine Lv aG (eO c27)<|aD<|aO<|ay<|av (au 9)<|aD<|Wr<|sR<|aJ (au 9) ?_;have eN:aL v=a:=by unfold aL; omega
  have ne1 : ¬ 0<=m.core.lD (aL v) v.req:=by rw[eN]; exact j_ c17
  have V:iZ m.core v=9:=by unfold iZ; rw[b_ ne1]; exact d_ (Xe.symm.trans (by omega))
  exact⟨pU V.symm,b5,fun h0=>by rw[V]at h0; cases h0⟩
 refine Lv aF (fO c27)<|aD<|aK<|Wk<|sN<|Ws<|ay<|av (au 0)<|aD<|Wb<|Wo (fun f F => ∃ k:Nat,∃ Rk:Nat->Nat->Int,k<=K/\cZ (fun x=>bD x v.o v.aQ) (ou m.core v.node) m.R k=(Rk,0)/\f 0=(pt p)/\f 3=(pt G)/\f 5 = .slice a1 (K) (A)/\f 6=au (k:Int)/\aR F p 27 (lZ m) 56/\Fx.Own F B 106 5 (.slice m.s.ga (m.s.gn) (m.s.gc)) m.s.gn (Jd m)/\aR F m.tb 1 (fun _ => .slice m.ta m.tn m.tc) 156/\Fx.Own F B 153 2 (.slice m.ta (m.tn) (m.tc)) m.tn (Qo m.t)/\wM F B 6 m/\aR F G 14 (bM v) 37/\Fx.Own F qA.heap.size 23 1 (.slice a1 (K) (A)) K (rv .u64 (fun i=>aT m.t m.tn i v.node))/\Fx.Own F B 84 56 (.slice m.s.na (m.s.nn) (m.s.nc)) m.s.nn (flat 56 (fun l=>mG (m.id l) (m.par l) (Rk l)))/\Below B w F) (fun f _=>(K-(intOf (f 6)).toNat)) ⟨0,m.R,by omega,rfl,(by rfl),(by rfl),(by rfl),Fx.ic,oM,mI,m32,qB,nV,qC,hown,oC,b5⟩ ?_;rintro f1 w5 ⟨k,Rk,hk,hRk,Z,O,h3,h4,oN,sP,qX,qY,uI,nI,nJ,nK,b6⟩;refine Ws<|ay<|bf h4<|bf h3<|av (au K) ?_;by_cases c31:(k:Int)<(K:Int)
 ·refine Lv aG (iq c31)<|aD<|aO<|Wk<|sN<|Ws<|Wb<|Ws ?_;obtain⟨q,hq,eq0,_⟩:=Eh (m:=m) (x:=aT m.t m.tn k v.node) (by rw[hTN]; exact rZ k (by omega));have ex1:ou m.core v.node k=q:=by show(gX (fun i=>decide (m.id i=aT m.t m.tn k v.node)) m.s.nn).toNat=q; rw[eq0]; rfl
  refine Wl<|bf Z<|bf h3<|bf h4 ?_;obtain⟨Gm,eq1⟩:=nJ.addr (by omega);have rY:Fx.Own w5 qA.heap.size 23 1 (bO Gm K A) K (rv .u64 (fun i=>aT m.t m.tn i v.node)):=nJ.fH (L_ (fun q=>Value.slice q K A) eq1);refine Lv (pf Gm k) (dh 1 (hx:=(rfl.trans (L_ (fun q=>Value.slice q (K) (A)) eq1))))<|Lv (aC (aT m.t m.tn k v.node)) (aM rY.aH k) ?_;have qK:Fx.Own w5 qA.heap.size 23 1 (.slice a1 (K) (A)) K (rv .u64 (fun i=>aT m.t m.tn i v.node)):=rY.fH (L_ (fun q=>Value.slice q K A) eq1.symm);have UA:Cb w5 p { m with R:=Rk } := { c:=oN.aH,an:=nK.arr,ag:=sP.arr,tc:=qX.aH,at2:=qY.arr,ar:=fun i L=>(uI.1 i L).arr,bn:=(by show m.s.nn<=1000000; omega),bg:=bg,bt:=(by show m.tn<=1000000; omega),br:=M.br };refine dJ ((Je { m with R:=Rk } p (aT m.t m.tn k v.node) _ UA).mono (fun e w2 O=>(⟨O.1.trans (pU eq0),O.2⟩:e = .returned (au (q:Int))/\_))) _ rfl ?_;intro w6 hb4;have⟨oO,sQ,xE,uh,tL,xq,wC,uJ⟩:=ny hb4 oN sP qX qY uI nI nK qK;have b7:=eZ hb4 b6 E;refine av (au q)<|aD<|Ws ?_;obtain⟨Y,Gy⟩:=wC.addr (by omega);have wD:Fx.Own w6 B 84 56 (bO Y m.s.nn m.s.nc) m.s.nn (flat 56 (fun l=>mG (m.id l) (m.par l) (Rk l))):=wC.fH (L_ (fun q=>Value.slice q m.s.nn m.s.nc) Gy);refine qQ (T:=82) (T':=82) (a := .tmp 8) (v := .tmp 55) (m:=54) (z:=rv .i64 (fun _=>0)) (y:=rv .i64 ((bD (Rk q) v.o v.aQ).1)) (u := .agg (aA 54 (rv .i64 ((bD (Rk q) v.o v.aQ).1)))) 17 18 (List.replicate 20 (0,2,[],[])) #[(pt p),(pt p),(pt p),(pf p 18),.slice m.s.na (m.s.nn) (m.s.nc),au (q:Int),(pf Y (56*q)),(pf Y (56*q+2)),.agg (aA 54 (rv .i64 (Rk q))),(pt G),au v.o,(pf G 11),au v.aQ,.tuple #[.agg (aA 54 (rv .i64 ((bD (Rk q) v.o v.aQ).1))),au ((bD (Rk q) v.o v.aQ).2)],.tuple #[.agg (aA 54 (rv .i64 ((bD (Rk q) v.o v.aQ).1))),au ((bD (Rk q) v.o v.aQ).2)],.agg (aA 54 (rv .i64 ((bD (Rk q) v.o v.aQ).1))),au ((bD (Rk q) v.o v.aQ).2),undef,undef,au ((bD (Rk q) v.o v.aQ).2)] (by kernel_rfl) (by kernel_rfl) (by kernel_rfl) (by kernel_rfl) (by kernel_rfl) (by kernel_rfl) rfl (by kernel_rfl) rfl rfl (by kernel_rfl) (fun W=>(show ev _ (.tmp 8)=(pt W)from by kernel_rfl)) (fun W=>(show ev _ (.tmp 55) = .agg (aA 54 (rv .i64 ((bD (Rk q) v.o v.aQ).1)))from by kernel_rfl)) (bI _ _) (fun _ _=>rfl) (by kernel_rfl) (fun W => ?_) ?_
  ·refine⟨?_,?_,?_,?_,?_,?_,?_,?_,?_,?_,?_,?_,?_,?_,?_,?_,?_,?_,?_,?_,trivial⟩
   ·exact .inr (.inr (sS (pt p) fun d b=>fE rfl ((bX (by kernel_rfl)).trans Z)))
   ·exact .inr (.inr qw)
   ·exact .inr (.inr qw)
   ·exact .inr (.inr qw)
   ·exact .inr (.inr (sS (.slice m.s.na (m.s.nn) (m.s.nc)) fun d b=>bC (x:=lZ m) rfl (show ev _ (.tmp 44)=(pf p 18)from by kernel_rfl) (by kernel_rfl) (oO.aH.below b (by have:=oO.lt; omega)) (i:=18) (by omega) (by omega) rfl))
   ·exact .inr (.inr qw)
   ·exact .inr (.inr (sS (pf Y (56*q)) fun d b=>dR rfl ((show ev _ (.tmp 45) = .slice m.s.na (m.s.nn) (m.s.nc)from by kernel_rfl).trans (L_ (fun q=>Value.slice q (m.s.nn) (m.s.nc)) Gy)) (show ev _ (.tmp 46)=au (q:Int)from by kernel_rfl) Tryz.underlying47 (s:=56) (by kernel_rfl) (by omega) (by omega) (by omega)))
   ·exact .inr (.inr qw)
   ·exact .inr (.inr (sS (.agg (aA 54 (rv .i64 (Rk q)))) fun d b=>eG (x:=flat 56 (fun l=>mG (m.id l) (m.par l) (Rk l))) (y:=rv .i64 (Rk q)) rfl (show ev _ (.tmp 48)=(pf Y (56*q+2))from by kernel_rfl) (by kernel_rfl) (by kernel_rfl) (wD.aH.below b (by have:=wD.lt; omega)) (i:=56*q+2) (by omega) (by omega) (fun X hjq=>(Fx.jJ (k:=q) (j:=2+X) (by omega) (by omega)).trans ((fun X _=>Jc _ _ _ X) X hjq))))
   ·exact .inr (.inr (sS (pt G) fun d b=>fT rfl ((bX (by kernel_rfl)).trans O) Tryz.underlying37 rfl (s:=1) (by kernel_rfl) rfl rfl))
   ·exact .inr (.inr (sS (au v.o) fun d b=>bC (x:=bM v) rfl (show ev _ (.tmp 50)=(pt G)from by kernel_rfl) (by kernel_rfl) (xq.aH.below b (by have:=xq.lt; omega)) (i:=0) (by omega) (by omega) rfl))
   ·exact .inr (.inr (sS (pf G 11) fun d b=>fT rfl ((bX (by kernel_rfl)).trans O) Tryz.underlying37 rfl (s:=1) (by kernel_rfl) rfl (by show _+11=_; omega)))
   ·exact .inr (.inr (sS (au v.aQ) fun d b=>bC (x:=bM v) rfl (show ev _ (.tmp 52)=(pf G 11)from by kernel_rfl) (by kernel_rfl) (xq.aH.below b (by have:=xq.lt; omega)) (i:=11) (by omega) (by omega) rfl))
   ·exact .inr (.inr (Fx.IL (v := .tuple #[.agg (aA 54 (rv .i64 ((bD (Rk q) v.o v.aQ).1))),au ((bD (Rk q) v.o v.aQ).2)]) (by kernel_rfl) (by kernel_rfl) (Fx.qbC (fun d b=>rC (args := [.agg (aA 54 (rv .i64 (Rk q))),au v.o,au v.aQ]) rfl (Fx.Oh (show ev _ (.tmp 49) = .agg (aA 54 (rv .i64 (Rk q)))from by kernel_rfl) (show ev _ (.tmp 51)=au v.o from by kernel_rfl) (show ev _ (.tmp 53)=au v.aQ from by kernel_rfl)) Tryz.func159 rfl rfl) (fun d b=>(X9 (Rk q) v.o v.aQ _).mono fun e v2 h=>⟨h.1,h.2⟩))))
   ·exact .inr (.inr qw)
   ·exact .inr (.inr qw)
   ·exact .inr (.inr qw)
   ·exact .inl rfl
   ·exact .inr (.inl rfl)
   exact .inr (.inr qw)
  rintro W w7 f2 hf1 ru xY hb5;have E5:p≠W:=u_ (n_ (oO.lt) ru);have alN:m.tb≠W:=u_ (n_ (xE.lt) ru);have acr:G≠W:=u_ (n_ (xq.lt) ru);have alO:Y≠W:=u_ (n_ (wD.lt) ru);have⟨uK,sU,tN,xZ,qZ,vN,oD,uj⟩:=ny hb5 oO sQ xE uh tL xq uJ wD;have b8:=eZ hb5 b7 E;have ru:w.heap.size<=W:=m_ b7.size ru;have zK:=xY.lt;have q1:f2 0=(pt p):=by rw[hf1]; exact(bX (by kernel_rfl)).trans Z
  have q2:f2 3=(pt G):=by rw[hf1]; exact(bX (by kernel_rfl)).trans O
  have q3:f2 5 = .slice a1 (K) (A):=by rw[hf1]; exact(bX (by kernel_rfl)).trans h3
  have q4:f2 6=au (k:Int):=by rw[hf1]; exact(bX (by kernel_rfl)).trans h4
  have q15:f2 7=au (q:Int):=by rw[hf1]; kernel_rfl
  have q33:f2 8=(pt W):=by rw[hf1]; kernel_rfl
  have q34:f2 9=au ((bD (Rk q) v.o v.aQ).2):=by rw[hf1]; kernel_rfl
  clear hf1;refine sN<|Ws<|ay<|bf q34 ?_;by_cases c58:((bD (Rk q) v.o v.aQ).2)=0
  ·refine Lv aF (jQ c58)<|aD<|aK<|Wk<|sN ?_;refine jW [0,1,2,3,5,4,6,7,8,9] [0,0,0,0,4,0,4,0,0,3] [(9,4,[4]),(9,6,[6])] fun Da gG nU => ?_;have⟨m64,xG,xu,vO,xH,sV,vP,uT,vQ⟩:=BL gG uK sU tN xZ qZ vN oD uj xY;have b9:=eZ gG b8 E;refine bW q1<|aY (pt p)<|aY (pt p)<|aY (pf p 18)<|bW q15<|Rs (.slice m.s.na (m.s.nn) (m.s.nc)) (aM m64.aH 18) ?_;refine Rs (.agg (aA 54 (rv .i64 ((bD (Rk q) v.o v.aQ).1)))) (fD vQ.aH 0 (ha:=q33)) ?_;refine Rp (pf Y (56*q)) (fun _=>dh 56 (hx:=(rfl.trans (L_ (fun q=>Value.slice q (m.s.nn) (m.s.nc)) Gy))))<|aY (pf Y (56*q+2))<|gQ<|zR uT (56*q+2) fun w8 vR s9 z2 => ?_;have gV:=gP s9 uT.Kc;have⟨zJ,xw,zq,zu,yP,xA,wE⟩:=R8 gV m64 xG xu vO xH sV vP;have b10:=s9.below b9 (m_ E b9.size) uT.blk.1;have yc:Fx.Own w8 B 84 56 (bO Y m.s.nn m.s.nc) m.s.nn (flat 56 (fun l=>mG (m.id l) (m.par l) (aI Rk q ((bD (Rk q) v.o v.aQ).1) l))):=vR.congr (fun U S=>(Fx.BK (k:=q) (j:=2) (by omega) (by omega) U S).trans (bJ (fun i L j hj=>Cn i L j hj) U S));refine Ln<|Rn<|bR<|sN<|Wl<|bf q4<|Lv (au ((k:Int)+1)) fC<|av (au ((k:Int)+1))<|Ln ?_;have zW:Fx.Own w8 B 84 56 (.slice m.s.na (m.s.nn) (m.s.nc)) m.s.nn (flat 56 (fun l=>mG (m.id l) (m.par l) (aI Rk q ((bD (Rk q) v.o v.aQ).1) l))):=yc.fH (L_ (fun q=>Value.slice q m.s.nn m.s.nc) Gy.symm);refine ig ⟨k+1,(aI Rk q (bD (Rk q) v.o v.aQ).1),by omega,(Fj hRk ex1 (by first|exact c58|exact Classical.not_not.1 c58)),q1,q2,q3,Fx.ic,zJ,xw,zq,zu,yP,xA,wE,zW,b10⟩ ?_
   show(K-(intOf (au ((k:Int)+1))).toNat)<_;simp only[h4,intOf]; omega
  refine Lv aG (nk c58)<|aD<|aO<|ay<|bf q34<|av (au ((bD (Rk q) v.o v.aQ).2))<|aD<|Wr<|sR<|bL<|sR<|pO<|bL<|sR<|aJ (au ((bD (Rk q) v.o v.aQ).2)) ?_;have eN:aL v=a:=by unfold aL; omega
  have ne1 : ¬ 0<=m.core.lD (aL v) v.req:=by rw[eN]; exact j_ c17
  have ne2 : ¬ dF m.core.t m.core.tn v.node=0:=fun e=>c27 (by rw[show K=0 from Xe.trans e]; rfl);have ew:nD m.core v=cZ (fun x=>bD x v.o v.aQ) (ou m.core v.node) m.R K:=by unfold nD; rw[show dF m.core.t m.core.tn v.node=K from Xe.symm]; rfl
  have V:iZ m.core v=(bD (Rk q) v.o v.aQ).2:=by
   unfold iZ; rw[b_ ne1,b_ ne2,ew];have e1:=Hu hRk ex1 c58;rw[Ah (k:=k+1) (by rw[e1]; exact c58) K (by omega)]; exact e1
  exact⟨pU V.symm,b8,fun h0=>M_ (V.symm.trans h0) c58⟩
 refine Lv aF (iw c31)<|aD<|aK<|Wx<|bZ<|gL<|cu<|sN<|Ws ?_;have hRK:cZ (fun x=>bD x v.o v.aQ) (ou m.core v.node) m.R K=(Rk,0):=by rw[show K=k by omega]; exact hRk
 refine Wl<|Lv (pt G) (jD O 0)<|Lv (au v.o) (aM nI.aH 0)<|Lv (pf G 12) (jD O 12)<|Lv (aC v.req) (aM nI.aH 12)<|Lv (pf G 9) (jD O 9)<|Lv (aC v.node) (aM nI.aH 9)<|Lv (pf G 11) (jD O 11)<|Lv (au v.aQ) (aM nI.aH 11)<|av (.agg (aA 5 (bK (bK (bK (bK (fun H=>if H<1 then au 0 else if H<3 then aC 0 else if H<4 then au 0 else aC 0) 0 1 (fun _=>au v.o)) 1 1 (fun _=>aC v.req)) 2 1 (fun _=>aC v.node)) 3 1 (fun _=>au v.aQ))))<|rR 5 (fun H=>if H<1 then au 0 else if H<3 then aC 0 else if H<4 then au 0 else aC 0) fun Q w9 zZ yg s10 z3 => ?_;have⟨AZ,Ay,Az,zX,zY,A8,DT⟩:=jR s10.old oN sP qX qY uI nI nK;have b11:=eZ s10.old b6 E;have C9:=iQ zZ b6.size;have acs:=cK zZ oN.lt;have Jg:(.slice m.s.ga (m.s.gn) (m.s.gc):Value).ownBlock≠some Q:=by rw[zZ]; exact sP.ko (A_ _)
 have⟨acu,alP⟩:=wh zZ qX.lt nI.lt;have JR:=yg.lt;refine eP yg 0 (h1:=(bP (bP (bP (bP (fun X _=>by show((fun H=>if H<1 then au 0 else if H<3 then aC 0 else if H<4 then au 0 else aC 0:Nat->Value) X).oneCell'=true; simp only[]; repeat (first|rfl|split)) (fun _ _=>rfl)) (fun _ _=>rfl)) (fun _ _=>rfl)) (fun _ _=>rfl))) fun sO Ce s11 z4 => ?_
 have Dc:aR sO Q 5 (bK (bK (bK (bK (fun H=>if H<1 then au 0 else if H<3 then aC 0 else if H<4 then au 0 else aC 0) 0 1 (fun _=>au v.o)) 1 1 (fun _=>aC v.req)) 2 1 (fun _=>aC v.node)) 3 1 (fun _=>au v.aQ)) 106:=aS Ce;have ku:=gP s11 yg.ty;have Ae:=kQ ku AZ;have Gj:=Ay.cO s11 Jg;have⟨Ef,Gl,Gu,wN,wO⟩:=qV ku Az zX zY A8 DT;have b12:=s11.below b11 (m_ E b11.size) (by omega);refine aD<|Ws ?_;have uo:aR sO Q 5 (jm (pJ v)) 106:=Dc.congr (fun j hj=>by rcases j with _|_|_|_|_|j <;> first|rfl|omega)
 refine Wl<|bf Z<|av (pt p)<|av (pt p)<|av (pf p 19)<|Lv (.slice m.s.ga (m.s.gn) (m.s.gc)) (aM Ae.aH 19)<|av (au m.s.gn)<|av (au m.s.gn)<|aD<|Ws ?_;refine zC [0,1,2,3,4,5,6,7,8,9,10,11,12] [0,0,0,0,0,1,4,2,2,0,0,0,3] (iP [106]) vM Fx.iP.trans (fG := [(12,5,[5]),(7,6,[6]),(8,6,[7,6]),(12,6,[6]),(8,7,[7]),(9,7,[7]),(10,7,[7]),(11,7,[7]),(12,7,[7]),(9,8,[8]),(10,8,[8]),(11,8,[8]),(12,8,[8])]) (by kernel_rfl) (by kernel_rfl) (by kernel_rfl) (by kernel_rfl) (by kernel_rfl) fun Rv lY AX => ?_;have⟨pX,oV,qE,pY,rz,sH,vg,rA⟩:=ny lY Ae Gj Ef Gl Gu wN wO uo;have b13:=eZ lY b12 E;refine bW Z<|bW Z<|aY (pt p)<|aY (pt p)<|aY (pf p 19)<|Rd (v := .slice m.s.ga (m.s.gn) (m.s.gc)) (by rfl) (by rfl) (vM _) (fun d b=>bC (x:=lZ m) rfl rfl (by kernel_rfl) (pX.kN b (by decide)).aH (i:=19) (by omega) (by omega) rfl) ?_;refine Rs (.agg (aA 5 (jm (pJ v)))) (fD rA.aH 0) ?_;refine xM<|yK (vs := [(0,.agg (aA 5 (jm (pJ v))))]) (s:=5) (zc:=fun H=>if H<1 then au 0 else if H<3 then aC 0 else if H<4 then au 0 else aC 0) (y:=bK (fun j=>(fun H=>if H<1 then au 0 else if H<3 then aC 0 else if H<4 then au 0 else aC 0) (j % 5)) (0*5) 5 (jm (pJ v))) (by rfl) rfl rfl Tryz.underlying48 (by kernel_rfl) (by rfl) (by rfl) (by kernel_rfl) (by rw[bG (off:=0*5) (s:=5) (y:=jm (pJ v)) rfl (bI _ _) (by rfl)]; rfl) rfl fun g4 Gi MS uq s13 z5 => ?_;have⟨zw,vk,zx,Cg,xI,uw,qF,yt⟩:=ny s13.old pX oV qE pY rz sH vg rA;have b14:=eZ s13.old b13 E;have Rw:=iQ MS b13.size;have Yd:=cK MS pX.lt;have Ye:(.slice m.s.ga (m.s.gn) (m.s.gc):Value).ownBlock≠some g4:=by rw[MS]; exact oV.ko (A_ _)
 have⟨ajs,Yf,ajt⟩:=EK MS qE.lt sH.lt rA.lt;have QF:=uq.lt;refine Ln ⟨Fx.iP.of_below s13.old,?_⟩;refine xM<|zk (B:=B) (s:=5) (bytes:=40) (k:=m.s.gn) (m:=1) (v := .slice m.s.ga (m.s.gn) (m.s.gc)) (x:=Jd m) (by rfl) rfl rfl rfl Tryz.underlying48 (by kernel_rfl) (by kernel_rfl) rfl rfl vk uq.aH (yS (tX _)) (by omega) (by omega) (by omega) (m_ E b14.size) fun C A BR ho1 hg1 wB hlt1 => ?_;have rX:=zl hg1 vk;have⟨uy,Ch,Jh,E8,Bc,E9⟩:=R7 rX zw zx Cg xI uw qF;have Gv:=yt.grown hg1 Jg;have aju:Q≠C:=fun e=>wB.elim (fun e2=>Jg (by rw[e]; exact e2)) (fun e2=>by have:=yt.lt; omega);have yu:Fx.Own BR B 106 5 (bO C (m.s.gn+1) A) (m.s.gn+1) (flat 5 (Fx.Ke (fun l=>jm (m.g l)) (jm (pJ v)) m.s.gn m.s.gn)):=(ho1.congr (fun j hj=>(Fx.xR j hj).trans (bJ (fun i L q _=>Fx.xS i L q) j hj)));have b15:Below B w BR:=zi b14 hg1 (m_ E b14.size) (fun q hq=>(vk.ge hq).1);refine Ln ⟨rX,?_⟩;refine aY (pt p)<|aY (pt p)<|aY (pf p 19)<|gQ<|jg uy 19 (bO C (m.s.gn+1) A) fun Gt Ci BG z6 => ?_;have zV:=gP BG uy.ty;have⟨Af,Jo,KT,Fa,Fb,Gw,Gx⟩:=R8 zV Ch Jh E8 Bc E9 Gv yu;have b16:=BG.below b15 (m_ E b15.size) (by omega);refine Ln<|bS<|C8 (fun f F => ∃ k:Nat,k<=m.s.gn/\k=down (fun i=>Df v (m.g i)) m.s.gn/\f 0=(pt p)/\f 3=(pt G)/\f 10=(pt Q)/\f 11=au (k:Int)/\aR F m.tb 1 (fun _ => .slice m.ta m.tn m.tc) 156/\Fx.Own F B 153 2 (.slice m.ta (m.tn) (m.tc)) m.tn (Qo m.t)/\wM F B 6 m/\aR F G 14 (bM v) 37/\Fx.Own F B 84 56 (.slice m.s.na (m.s.nn) (m.s.nc)) m.s.nn (flat 56 (fun l=>mG (m.id l) (m.par l) (Rk l)))/\aR F Q 5 (jm (pJ v)) 106/\aR F p 27 (dD (lZ m) 19 (bO C (m.s.gn+1) A)) 56/\Fx.Own F B 106 5 (bO C (m.s.gn+1) A) (m.s.gn+1) (flat 5 (Fx.Ke (fun l=>jm (m.g l)) (jm (pJ v)) m.s.gn k))/\Below B w F) ?_ ?_
 ·refine Wb<|Wo (fun f F => ∃ k:Nat,k<=m.s.gn/\(∀ i,k<=i->i<m.s.gn->Df v (m.g i)=true)/\f 0=(pt p)/\f 3=(pt G)/\f 10=(pt Q)/\f 11=au (k:Int)/\aR F m.tb 1 (fun _ => .slice m.ta m.tn m.tc) 156/\Fx.Own F B 153 2 (.slice m.ta (m.tn) (m.tc)) m.tn (Qo m.t)/\wM F B 6 m/\aR F G 14 (bM v) 37/\Fx.Own F B 84 56 (.slice m.s.na (m.s.nn) (m.s.nc)) m.s.nn (flat 56 (fun l=>mG (m.id l) (m.par l) (Rk l)))/\aR F Q 5 (jm (pJ v)) 106/\aR F p 27 (dD (lZ m) 19 (bO C (m.s.gn+1) A)) 56/\Fx.Own F B 106 5 (bO C (m.s.gn+1) A) (m.s.gn+1) (flat 5 (Fx.Ke (fun l=>jm (m.g l)) (jm (pJ v)) m.s.gn k))/\Below B w F) (fun f _=>(intOf (f 11)).toNat) ⟨m.s.gn,by omega,(fun i Z O=>M_ Z (by omega)),Z,O,(by rfl),Fx.ic,Af,Jo,KT,Fa,Fb,Gw,Ci,Gx,b16⟩ ?_;rintro f3 I ⟨k,hk,hgt,P,h6,h7,J,Cj,Fe,Ck,Fw,Fg,Ag,Cm,Bd,b17⟩;refine Ws<|Ws ?_;refine uO<|dZ J ?_;by_cases c97:0<(k:Int)
  ·obtain⟨j,ej⟩ : ∃ j,k=j+1:=⟨k-1,by omega⟩;refine Qv aG (fun d b=>ng c97)<|aX aG<|dZ P<|aX (pt p)<|aX (pt p)<|aX (pf p 19)<|Qv (bO C (m.s.gn+1) A) (fun d b=>aM (Cm.aH.dr b) 19 (Fx.lQ (by omega)))<|dZ J<|Qv (au j) (fun d b=>gD)<|Qv (pf C (5*j)) (fun d b=>dh 5)<|aX (pf C (5*j))<|Qv (au ((m.g j) 0)) (fun d b=>aM (Bd.aH.dr b) (5*j) (Fx.gJ (k:=j) (j:=0) (by omega) (by omega) ((congrFun (Fx.zD (by omega) (by omega)) 0).trans rfl)))<|Qv (pt Q) (fun d b=>jD h7 0)<|Qv (au v.o) (fun d b=>aM (Ag.aH.dr b) 0) ?_;by_cases UC:v.o<((m.g j) 0)
   ·refine Qv aG (fun d b=>ng UC)<|aX aG<|aP<|aP<|aP<|aP<|aP<|aP<|aP<|aP<|aP<|aP<|aP<|aP<|aP<|aP<|aP<|aP<|aP<|aP<|aP<|aP<|aP<|aP<|aP ?_;refine aP<|aP<|aP<|aP<|aP<|aX aG<|aX aG<|Qn ?_;rintro _ ⟨N,rfl⟩;obtain⟨BZ,oU⟩ : ∃ d,d=World.drewN I N:=⟨_,rfl⟩;rw[<- oU];have s15:Stp I.heap.size I BZ:=(by rw[oU]; exact Sb (je I N));have⟨Ji,Um,UD,Un,Uo,acI,Uq,acv⟩:=ny s15.old Cj Fe Ck Fw Fg Ag Cm Bd;have b18:=eZ s15.old b17 E;clear oU;refine sN<|aO<|Wk<|sN<|Wb<|Ws ?_;refine jW [0,1,2,3,5,6,7,8,9,11,12,4,10,13,14,15,16] [0,0,0,0,4,0,0,0,0,0,4,0,0,0,4,0,3] [(16,4,[4]),(16,10,[10]),(16,14,[14])] fun wt4 qJ G9 => ?_;have⟨Ur,Qu,Ut,Uu,acw,acy,acJ,Qw⟩:=ny qJ Ji Um UD Un Uo acI Uq acv;have b19:=eZ qJ b18 E;refine bW P<|aY (pt p)<|aY (pt p)<|aY (pf p 19)<|bW J<|bW P<|aY (pt p)<|aY (pt p)<|aY (pf p 19)<|bW J<|Rp (au j) (fun _=>gD)<|Rs (bO C (m.s.gn+1) A) (aM acJ.aH 19 (Fx.lQ (by omega))) ?_;refine Rs (bO C (m.s.gn+1) A) (aM acJ.aH 19 (Fx.lQ (by omega))) ?_;refine Rp (pf C (5*j)) (fun _=>dh 5)<|Rs (.agg (aA 5 (jm (m.g j)))) (fD Qw.aH (5*j) (fun X hjq=>(Fx.jJ (k:=j) (by omega) hjq).trans (congrFun (Fx.zD (by omega) (by omega)) X))) ?_;refine Rp (pf C (5*k)) (fun _=>dh 5)<|gQ<|zR Qw (5*k) (h1:=(fun j _=>tX _ j)) fun Mj acz JQ z7 => ?_;have zn:=gP JQ Qw.Kc;have⟨agI,acA,acB,acC,alQ⟩:=qV zn Ur Qu Ut Uu acw;have alR:=acy.cO JQ (by omega);have alS:=kQ zn acJ;have b20:=JQ.below b19 (m_ E b19.size) Qw.blk.1;have alT:Fx.Own Mj B 106 5 (bO C (m.s.gn+1) A) (m.s.gn+1) (flat 5 (Fx.Ke (fun l=>jm (m.g l)) (jm (pJ v)) m.s.gn j)):=acz.congr (fun U S=>(Fx.uN (k:=k) (by omega) U S).trans (bJ (fun i L q _=>Fx.yL ej (by omega) i L q) U S));refine Ln<|bS<|Wl<|bf J<|Lv (au j) gD<|av (au j)<|Ln<|bR<|ig ⟨j,by omega,(K3 ej hgt (by unfold Df; rw[f_ UC]; rfl)),P,h6,h7,Fx.ic,agI,acA,acB,acC,alQ,alR,alS,alT,b20⟩ ?_;show(intOf (au j)).toNat<_;simp only[J,intOf]; omega
   refine Qv aF (fun d b=>ni UC)<|aX aF<|dZ P<|aX (pt p)<|aX (pt p)<|aX (pf p 19)<|Qv (bO C (m.s.gn+1) A) (fun d b=>aM (Cm.aH.dr b) 19 (Fx.lQ (by omega)))<|dZ J<|Qv (au j) (fun d b=>gD)<|Qv (pf C (5*j)) (fun d b=>dh 5)<|aX (pf C (5*j))<|Qv (au ((m.g j) 0)) (fun d b=>aM (Bd.aH.dr b) (5*j) (Fx.gJ (k:=j) (j:=0) (by omega) (by omega) ((congrFun (Fx.zD (by omega) (by omega)) 0).trans rfl)))<|Qv (pt Q) (fun d b=>jD h7 0)<|Qv (au v.o) (fun d b=>aM (Ag.aH.dr b) 0) ?_;by_cases Yg:((m.g j) 0)=v.o
   ·refine Qv aG (fun d b=>eO Yg)<|aX aG<|dZ P<|aX (pt p)<|aX (pt p)<|aX (pf p 19)<|Qv (bO C (m.s.gn+1) A) (fun d b=>aM (Cm.aH.dr b) 19 (Fx.lQ (by omega)))<|dZ J<|Qv (au j) (fun d b=>gD)<|Qv (pf C (5*j)) (fun d b=>dh 5)<|aX (pf C (5*j+1))<|Qv (aC ((m.g j) 1)) (fun d b=>aM (Bd.aH.dr b) (5*j+1) (Fx.gJ (k:=j) (j:=1) (by omega) (by omega) ((congrFun (Fx.zD (by omega) (by omega)) 1).trans rfl)))<|Qv (pf Q 1) (fun d b=>jD h7 1)<|Qv (aC v.req) (fun d b=>aM (Ag.aH.dr b) 1) ?_;by_cases c139:v.req<((m.g j) 1)
    ·refine Qv aG (fun d b=>ng c139)<|aX aG<|aX aG<|aX aG<|Qn ?_;rintro _ ⟨N,rfl⟩;obtain⟨wq2,sG⟩ : ∃ d,d=World.drewN I N:=⟨_,rfl⟩;rw[<- sG];have Mq:Stp I.heap.size I wq2:=(by rw[sG]; exact Sb (je I N));have⟨alU,alV,alW,alX,alY,alZ,ama,amb⟩:=ny Mq.old Cj Fe Ck Fw Fg Ag Cm Bd;have Qb:=eZ Mq.old b17 E;clear sG;refine sN<|aO<|Wk<|sN<|Wb<|Ws ?_;refine jW [0,1,2,3,5,6,7,8,9,11,12,4,10,13,14,15,16] [0,0,0,0,4,0,0,0,0,0,4,0,0,0,4,0,3] [(16,4,[4]),(16,10,[10]),(16,14,[14])] fun wt5 zI SQ => ?_;have⟨amc,amd,ame,amf,amg,amh,acK,Yh⟩:=ny zI alU alV alW alX alY alZ ama amb;have OB:=eZ zI Qb E;refine bW P<|aY (pt p)<|aY (pt p)<|aY (pf p 19)<|bW J<|bW P<|aY (pt p)<|aY (pt p)<|aY (pf p 19)<|bW J<|Rp (au j) (fun _=>gD)<|Rs (bO C (m.s.gn+1) A) (aM acK.aH 19 (Fx.lQ (by omega))) ?_;refine Rs (bO C (m.s.gn+1) A) (aM acK.aH 19 (Fx.lQ (by omega))) ?_;refine Rp (pf C (5*j)) (fun _=>dh 5)<|Rs (.agg (aA 5 (jm (m.g j)))) (fD Yh.aH (5*j) (fun X hjq=>(Fx.jJ (k:=j) (by omega) hjq).trans (congrFun (Fx.zD (by omega) (by omega)) X))) ?_;refine Rp (pf C (5*k)) (fun _=>dh 5)<|gQ<|zR Yh (5*k) (h1:=(fun j _=>tX _ j)) fun w16 ami s20 z8 => ?_;have zo:=gP s20 Yh.Kc;have⟨amj,amk,aml,amm,amn⟩:=qV zo amc amd ame amf amg;have amo:=amh.cO s20 (by omega);have amq:=kQ zo acK;have XD:=s20.below OB (m_ E OB.size) Yh.blk.1;have amr:Fx.Own w16 B 106 5 (bO C (m.s.gn+1) A) (m.s.gn+1) (flat 5 (Fx.Ke (fun l=>jm (m.g l)) (jm (pJ v)) m.s.gn j)):=ami.congr (fun U S=>(Fx.uN (k:=k) (by omega) U S).trans (bJ (fun i L q _=>Fx.yL ej (by omega) i L q) U S));refine Ln<|bS<|Wl<|bf J<|Lv (au j) gD<|av (au j)<|Ln<|bR<|ig ⟨j,by omega,(K3 ej hgt (by unfold Df; rw[f_ Yg,f_ c139]; cases decide (v.o<m.g j 0) <;> rfl)),P,h6,h7,Fx.ic,amj,amk,aml,amm,amn,amo,amq,amr,XD⟩ ?_
     show(intOf (au j)).toNat<_;simp only[J,intOf]; omega
    refine Qv aF (fun d b=>ni c139)<|aX aF<|aX aF<|aX aF<|Qn ?_;rintro _ ⟨N,rfl⟩;obtain⟨Xd,Aj⟩ : ∃ d,d=World.drewN I N:=⟨_,rfl⟩;rw[<- Aj];have s21:Stp I.heap.size I Xd:=(by rw[Aj]; exact Sb (je I N));have⟨ams,amu,amv,amw,amx,amy,amA,amB⟩:=ny s21.old Cj Fe Ck Fw Fg Ag Cm Bd;have XE:=eZ s21.old b17 E;clear Aj;refine sN<|aK<|Wx<|bZ<|gL<|cu ?_;exact wY ⟨k,hk,(Fx.pE hk hgt (.inr (fun j2 e=>by rw[show j2=j by omega]; unfold Df; rw[g_ UC,g_ c139,I_]; rfl))),P,h6,h7,(J.trans Fx.ic),ams,amu,amv,amw,amx,amy,amA,amB,XE⟩
   refine Qv aF (fun d b=>fO Yg)<|aX aF<|aP<|aP<|aP<|aP<|aP<|aP<|aP<|aP<|aP<|aP<|aP<|aP<|aP<|aX aF<|aX aF<|aX aF<|Qn ?_;rintro _ ⟨N,rfl⟩;obtain⟨wq4,Fy⟩ : ∃ d,d=World.drewN I N:=⟨_,rfl⟩;rw[<- Fy];have s22:Stp I.heap.size I wq4:=(by rw[Fy]; exact Sb (je I N));have⟨amC,amD,amE,amF,amG,amH,amI,amJ⟩:=ny s22.old Cj Fe Ck Fw Fg Ag Cm Bd;have b25:=eZ s22.old b17 E;clear Fy;refine sN<|aK<|Wx<|bZ<|gL<|cu ?_;exact wY ⟨k,hk,(Fx.pE hk hgt (.inr (fun j2 e=>by rw[show j2=j by omega]; unfold Df; rw[g_ UC,g_ Yg]; rfl))),P,h6,h7,(J.trans Fx.ic),amC,amD,amE,amF,amG,amH,amI,amJ,b25⟩
  refine Qv aF (fun d b=>ni c97)<|aX aF<|aP<|aP<|aP<|aP<|aP<|aP<|aP<|aP<|aP<|aP<|aP<|aP<|aP<|aP<|aP<|aP<|aP<|aP<|aP<|aP<|aP<|aP<|aP ?_;refine aP<|aP<|aP<|aP<|aP<|aP<|aP<|aP<|aP<|aP<|aP<|aP<|aP<|aP<|aP<|aP<|aP<|aP<|aP<|aP<|aX aF<|Qn ?_;rintro _ ⟨N,rfl⟩;obtain⟨wq5,Ni⟩ : ∃ d,d=World.drewN I N:=⟨_,rfl⟩;rw[<- Ni];have s23:Stp I.heap.size I wq5:=by rw[Ni]; exact Sb (je I N)
  have⟨amK,amL,amM,amN,amO,amP,amQ,amR⟩:=ny s23.old Cj Fe Ck Fw Fg Ag Cm Bd;have b26:=eZ s23.old b17 E;clear Ni;refine sN<|aK<|Wx<|bZ<|gL<|cu ?_;exact wY ⟨k,hk,(Fx.pE hk hgt (.inl (by omega))),P,h6,h7,(J.trans Fx.ic),amK,amL,amM,amN,amO,amP,amQ,amR,b26⟩
 rintro f4 WZ ⟨k,hk,ek,h9,h10,h11,h12,amS,amT,amU,amV,amW,amX,amY,amZ,b27⟩;refine Ws ?_;refine jW [0,1,2,3,5,4,6,7,8] [0,0,0,0,4,0,4,0,3] [(8,4,[4]),(8,6,[6])] fun wt6 KA agd => ?_;have⟨ana,anb,anc,ane,anf,agS,agT,acL⟩:=ny KA amS amT amU amV amW amX amY amZ;have b28:=eZ KA b27 E;refine bW h9<|aY (pt p)<|aY (pt p)<|aY (pf p 19)<|bW h12<|Rs (bO C (m.s.gn+1) A) (aM agT.aH 19 (Fx.lQ (by omega))) ?_;refine Rs (.agg (aA 5 (jm (pJ v)))) (fD agS.aH 0 (ha:=h11)) ?_;refine Rp (pf C (5*k)) (fun _=>dh 5)<|gQ<|zR acL (5*k) (h1:=(fun j _=>tX _ j)) fun W9 ang Z8 z9 => ?_;have Bb:=gP Z8 acL.Kc;have⟨anh,ani,agU,anj,ank⟩:=qV Bb ana anb anc ane anf;have anl:=agS.cO Z8 (by omega);have anm:=kQ Bb agT;have b29:=Z8.below b28 (m_ E b28.size) acL.blk.1;have ano:Fx.Own W9 B 106 5 (bO C (m.s.gn+1) A) (m.s.gn+1) (flat 5 (Fx.IW (fun l=>jm (m.g l)) k (jm (pJ v)))):=ang.congr (fun U S=>(Fx.uN (k:=k) (by omega) U S).trans (bJ (fun i L q _=>Fx.tF (by omega) i L q) U S));refine Ln<|bS<|Ws ?_;have anp:Fx.Own W9 B 23 1 (.slice (m.ra a) (m.rn a) (m.rc a)) (m.rn a) (rv .u64 (m.rq a)):=agU.1 a ha;have bra:=M.br a ha;refine zC [0,1,4,5,8,9,12,16,17,2,3,6,7,10,11,13,14,15,18,19] [0,0,1,0,0,0,1,0,0,0,0,1,0,4,2,2,0,0,0,3] (iP [23]) vM Fx.iP.trans (fG := [(19,2,[2]),(19,6,[6]),(19,11,[11]),(14,13,[13]),(15,13,[14,13]),(19,13,[13]),(15,14,[14]),(18,14,[14]),(19,14,[14]),(18,15,[15]),(19,15,[15])]) (by kernel_rfl) (by kernel_rfl) (by kernel_rfl) (by kernel_rfl) (by kernel_rfl) fun wt7 KC agf => ?_;have⟨agV,anq,anr,Yi,ant,anu,acM,agW,agX⟩:=BL KC anh ani agU anj ank anl anm ano anp;have b30:=eZ KC b29 E;refine bW h9<|Rp (pt G) (fun _=>jD h10 0)<|bW h9<|Rp (pt G) (fun _=>jD h10 0)<|aY (pt p)<|aY (pf p 21)<|Rp (pf G 12) (fun _=>jD h10 12)<|aY (pt p)<|aY (pf p 21)<|Rd (v:=au v.o) (by rfl) (by rfl) (vM _) (fun d b=>bC (x:=bM v) rfl rfl (by kernel_rfl) (Yi.kN b (by decide)).aH (i:=0) (by omega) (by omega) rfl) ?_;refine Rp (au a) (fun _=>gD)<|Rd (v:=au v.o) (by rfl) (by rfl) (vM _) (fun d b=>bC (x:=bM v) rfl rfl (by kernel_rfl) (Yi.kN b (by decide)).aH (i:=0) (by omega) (by omega) rfl) ?_;refine Rp (au a) (fun _=>gD)<|Rp (pf p (a+21)) (fun _=>jM 6 1)<|Rd (v := .slice (m.ra a) (m.rn a) (m.rc a)) (by rfl) (by rfl) (vM _) (fun d b=>bC (x:=dD (lZ m) 19 (bO C (m.s.gn+1) A)) rfl rfl (by kernel_rfl) (acM.kN b (by decide)).aH (i:=a+21) (by omega) (by omega) (Fx.AL (by omega) (wK _ (by omega)))) ?_;refine Rs (aC v.req) (aM Yi.aH 12) ?_;refine xM<|yK (vs := [(0,aC v.req)]) (s:=1) (zc:=rv .u64 (fun _=>0)) (y:=bK (fun j=>(rv .u64 (fun _=>0)) (j % 1)) (0*1) 1 (fun _=>aC v.req)) (by rfl) rfl rfl Tryz.underlying53 (by kernel_rfl) (by rfl) (by rfl) (by kernel_rfl) (by rw[bG (off:=0*1) (s:=1) (y:=fun _=>aC v.req) rfl (cells_one (by rfl)) (by rfl)]; rfl) rfl fun g6 w19 eg6 agY s27 z10 => ?_;have⟨anv,anw,anx,anz,anA,anB,acO⟩:=jR s27.old agV anq anr ant acM agW agX;have b31:=eZ s27.old b30 E;have lg6:=iQ eg6 b30.size;have⟨ajv,ajw,ajx,ajy,ajz⟩:=zS eg6 agV.lt Yi.lt anu.lt acM.lt agW.lt;have ajA:(.slice (m.ra a) (m.rn a) (m.rc a):Value).ownBlock≠some g6:=by rw[eg6]; exact agX.ko (A_ _)
 have tg6:=agY.lt;refine Ln ⟨Fx.iP.of_below s27.old,?_⟩;refine xM<|zk (B:=B) (s:=1) (bytes:=8) (k:=(m.rn a)) (m:=1) (v := .slice (m.ra a) (m.rn a) (m.rc a)) (x:=rv .u64 (m.rq a)) (by rfl) rfl rfl rfl Tryz.underlying53 (by kernel_rfl) (by kernel_rfl) rfl rfl acO agY.aH (yS (fun _=>rfl)) (by omega) (by omega) (by omega) (m_ E b31.size) fun g7 cap2 Xa ho2 hg2 M9 hlt2 => ?_;have EZ:=zl hg2 acO;have⟨anE,anF,anG,agZ,anH⟩:=qV EZ anv anw anz anA anB;have anI:Fx.Own Xa B 23 1 (.slice (some ⟨g7,0,none⟩) ((m.rn a)+1) cap2) ((m.rn a)+1) (rv .u64 (aI (m.rq a) (m.rn a) v.req)):=(ho2.congr (fun j hj=>OX j hj));have b32:Below B w Xa:=zi b31 hg2 (m_ E b31.size) (fun q hq=>(acO.ge hq).1);have anJ:wM Xa B 6 { m with ra:=aI m.ra a (some ⟨g7,0,none⟩),rn:=aI m.rn a (m.rn a+1),rc:=aI m.rc a cap2,rq:=aI m.rq a (aI (m.rq a) (m.rn a) v.req) }:=wM.app anx ha rfl rfl rfl rfl anI hg2 M9;refine Ln ⟨EZ,?_⟩;refine Rp (pf p (a+21)) (fun _=>jM 6 1)<|gQ<|jg agZ (a+21) (.slice (some ⟨g7,0,none⟩) ((m.rn a)+1) (cap2)) fun w21 anK s28 z11 => ?_;have acP:=gP s28 agZ.ty;have⟨anL,anM,anN,anO,anP⟩:=qV acP anE anF anG anH anJ;have b33:=s28.below b32 (m_ E b32.size) (by omega);refine Ln<|bS<|ay<|av (au 0)<|aD<|Wr<|aJ (au 0) ?_;have eN:aL v=a:=by unfold aL; omega
 have ne1 : ¬ 0<=m.core.lD (aL v) v.req:=by rw[eN]; exact j_ c17
 have ne2 : ¬ dF m.core.t m.core.tn v.node=0:=fun e=>c27 (by rw[show K=0 from Xe.trans e]; rfl);have ew:nD m.core v=cZ (fun x=>bD x v.o v.aQ) (ou m.core v.node) m.R K:=by unfold nD; rw[show dF m.core.t m.core.tn v.node=K from Xe.symm]; rfl
 have V:iZ m.core v=0:=by unfold iZ; rw[b_ ne1,b_ ne2,ew,hRK]
 have eW:nD m.core v=(Rk,0):=ew.trans hRK;have anQ:Fx.Own w21 B 106 5 (bO C (m.s.gn+1) A) (m.s.gn+1) (flat 5 fun l=>jm (cB m.g k (pJ v) l)):=by rw[<- X8]; exact anO
 refine⟨pU V.symm,b33,fun _=>⟨{ m with s := { m.s with ga:=some ⟨C,0,none⟩,gn:=m.s.gn+1,gc:=A },R:=Rk,g:=cB m.g k (pJ v),ra:=aI m.ra a (some ⟨g7,0,none⟩),rn:=aI m.rn a (m.rn a+1),rc:=aI m.rc a cap2,rq:=aI m.rq a (aI (m.rq a) (m.rn a) v.req) },?_,?_⟩⟩
 ·unfold mE qG; rw[eW,eN]; rw[show down (fun i=>Df v (m.core.g i)) m.core.gn=k from ek.symm]; rfl
 exact { c:=anK.to ((L_ (fun z=>dD z (a+21) _) (Nc m _ _ _)).trans (KV _ rfl _ _ _)),n:=anN,g:=anQ,tc:=anL,t:=anM,r:=anP,pB:=Ul,tB:=DU,bn:=bn,bg:=(by show m.s.gn+1<=1000000; omega),bt:=bt,br:=(fun i L=>by show aI m.rn a (m.rn a+1) i<=1000000; have:=brr i L; have:=brr a ha; unfold aI; split <;> omega) }
namespace Rt
def yw(L:eY)(v:EvM):Nat:=(L.grant v.o v.of).toNat
def mF(L:eY)(v:EvM):(Nat->Nat->Int) × Int:=cZ (fun x=>bH x v.o (L.g (yw L v) 3)) (ou L (L.g (yw L v) 2)) L.R (dF L.t L.tn (L.g (yw L v) 2))
def iT(L:eY)(v:EvM):Int:=if 0<=L.lD (aL v) v.req then 14 else if L.grant v.o v.of<0\/L.g (yw L v) 4≠0 then 12 else(mF L v).2
def kJ(L:eY)(v:EvM):eY:=qG { L with R:=(mF L v).1,g:=aI L.g (yw L v) (aI (L.g (yw L v)) 4 v.req) } (aL v) v.req
theorem UE{m:kR}{o r:Int}(h : ¬ m.grant o r<0) : ∃ q:Nat,q<m.s.gn/\m.grant o r=(q:Int)/\m.g q 0=o/\m.g q 1=r:=by
 rcases jh (fun i=>decide (m.g i 0=o)&&decide (m.g i 1=r)) m.s.gn with ⟨q,b,e,a⟩|⟨e,_⟩
 ·rw[S_]at a;exact⟨q,b,e,h_ a.1,h_ a.2⟩
 unfold kR.grant at h; omega
theorem QG{n q:Nat}{g:Nat->Nat->Int}{r:Int} : ∀ i,i<n -> ∀ j,j<5->Fx.qR (fun a=>jm (g a)) q (dD (jm (g q)) 4 (aC r)) i j=jm (aI g q (aI (g q) 4 r) i) j:=fun i _ j b=>by
 unfold Fx.qR;by_cases h:i=q
 ·subst h;rw[d_ rfl];unfold aI dD jm;rw[d_ rfl]
  rcases j with _|_|_|_|_|j <;> first|rfl|omega
 ·rw[b_ h]; unfold aI; rw[b_ h]
end Rt
set_option maxRecDepth 20000 in
set_option maxHeartbeats 2000000 in
theorem Yj(m:kR)(B p a:Nat)(v:EvM)(w:World)(F:um w B p m)(A:B<=w.heap.size)(ha:a<6)(ho:v.o=(a:Int)+1)(bgg:m.s.gn<=900000)(brr : ∀ i,i<6->m.rn i<=900000)(hTN : ∀ x,m.node x=bF m.t m.tn x)(hDx : ∀ x,∃ D,D<=1000/\bF m.t m.tn (aT m.t m.tn D x)<0) :
 Calls Tryz.prog 126 #[(pt p),.agg (aA 14 (bM v))] w fun e w'=>e = .returned (au (iT m.core v))/\Below B w w'/\(iT m.core v=0 -> ∃ m',m'.core=kJ m.core v/\um w' B p m'):=by
 have Ui:=F.c;have hLn:=F.n;have hLg:=F.g;have Uj:=F.tc;have Uk:=F.t;have hLr:=F.r;have Ul:=F.pB;have DU:=F.tB;have bn:=F.bn;have bg:=F.bg;have bt:=F.bt;have lpp:p<w.heap.size:=Ui.lt;have Ru:m.tb<w.heap.size:=Uj.lt;refine Kent Tryz.func126 128 ?_;refine ay<|pR fun E w1 mo m1 s1 z1 => ?_;have⟨m2,m3,m4,m5,m6,m7⟩:=rT s1.old Ui hLn hLg Uj Uk hLr;have b1:=eZ s1.old (Below.refl B w) A;have sM:=iQ mo (Below.refl B w).size;have⟨nG,xC⟩:=wh mo Ui.lt Uj.lt;have ug:=m1.lt;refine av (au 0)<|aD<|Ws<|ay<|av (pt p)<|av (pt E)<|Lv (au v.o) (aM m1.aH 0)<|av (pf E 12)<|Lv (aC v.req) (aM m1.aH 12) ?_;have Nh:Cb w1 p m := { c:=m2.aH,an:=m3.arr,ag:=m4.arr,tc:=m5.aH,at2:=m6.arr,ar:=fun i J=>(m7.1 i J).arr,bn:=(by show m.s.nn<=1000000; omega),bg:=bg,bt:=(by show m.tn<=1000000; omega),br:=F.br };by_cases S:(decide (0<=m.lD a v.req))=true
 ·refine dJ (Bg m p a v.o v.req _ Nh ha ho) aG (by rw[S]) ?_;intro w2 hb1;have b2:=eZ hb1 b1 A;refine aD<|aO<|ay<|av (au 14)<|aD<|Wr<|sR<|aJ (au 14) ?_;have L:aL v=a:=by unfold aL; omega
  have H:iT m.core v=14:=by unfold iT; rw[L]; exact d_ (h_ S)
  exact⟨pU H.symm,b2,fun M=>by rw[H]at M; cases M⟩
 rw[T_]at S;refine dJ (Bg m p a v.o v.req _ Nh ha ho) aF (by rw[S]) ?_;intro w3 hb2;have⟨m15,m16,m17,m18,m19,m20,m21⟩:=jR hb2 m2 m3 m4 m5 m6 m7 m1;have b3:=eZ hb2 b1 A;refine aD<|aK<|Wk<|sN<|ay<|av (pt p)<|av (pt E)<|Lv (au v.o) (aM m21.aH 0)<|av (pf E 13)<|Lv (aC v.of) (aM m21.aH 13) ?_;have UA:Cb w3 p m := { c:=m15.aH,an:=m16.arr,ag:=m17.arr,tc:=m18.aH,at2:=m19.arr,ar:=fun i J=>(m20.1 i J).arr,bn:=(by show m.s.nn<=1000000; omega),bg:=bg,bt:=(by show m.tn<=1000000; omega),br:=F.br };refine dJ (XT m p v.o v.of _ UA) _ rfl ?_;intro w4 hb3;have⟨m22,m23,m24,mQ,nH,oq,oL⟩:=jR hb3 m15 m16 m17 m18 m19 m20 m21;have b4:=eZ hb3 b3 A;refine av (au (m.grant v.o v.of))<|aD<|Ws<|ay<|av (au (m.grant v.o v.of)) ?_;by_cases aa:(m.grant v.o v.of)<0
 ·refine Lv aG (iq aa)<|av aG<|dB<|dB<|dB<|dB<|dB<|dB<|dB<|dB<|dB<|dB<|av aG<|aD<|aO<|ay<|av (au 12)<|aD<|Wr<|sR<|aJ (au 12) ?_;have L:aL v=a:=by unfold aL; omega
  have Y : ¬ 0<=m.core.lD (aL v) v.req:=by rw[L]; exact j_ S
  have H:iT m.core v=12:=by unfold iT; rw[b_ Y]; exact d_ (.inl aa)
  exact⟨pU H.symm,b4,fun M=>by rw[H]at M; cases M⟩
 obtain⟨b,hkg,ekg,_,_⟩:=UE aa;have ab:yw m.core v=b:=by show(m.grant v.o v.of).toNat=b; rw[ekg]; rfl
 refine Lv aF (iw aa)<|av aF<|av (pt p)<|av (pt p)<|av (pt p)<|av (pf p 19)<|Lv (.slice m.s.ga (m.s.gn) (m.s.gc)) (aM m22.aH 19)<|bf (L_ (Value.int .i64) ekg) ?_;obtain⟨af,eq1⟩:=m24.addr (by omega);have oM:Fx.Own w4 B 106 5 (bO af m.s.gn m.s.gc) m.s.gn (Jd m):=m24.fH (L_ (fun q=>Value.slice q m.s.gn m.s.gc) eq1);refine Lv (pf af (5*b)) (dh 5 (hx:=(rfl.trans (L_ (fun q=>Value.slice q (m.s.gn) (m.s.gc)) eq1))))<|av (pf af (5*b+4))<|Lv (aC ((m.g b) 4)) (aM oM.aH (5*b+4) (Fx.gJ (k:=b) (j:=4) (by omega) (by omega) rfl)) ?_;by_cases ae:((m.g b) 4)=0
 ·refine Lv aF (jQ ae)<|av aF<|aD<|aK<|Wk<|sN<|Ws ?_;obtain⟨D,hD2,hD⟩:=hDx (m.g b 2);refine jW [0,1,2,4,5,6,7,9,3,8,10,11,12,13,14] [0,0,0,4,0,0,0,0,4,0,0,0,4,3,0] [(13,3,[3]),(13,8,[12,11,10,8]),(13,12,[12]),(14,13,[13])] fun qA dP iE => ?_;have⟨oC,mI,m32,qB,nV,qC,oN⟩:=jR dP m22 m23 mQ nH oq oL oM;have b5:=eZ dP b4 A;refine aY (pt p)<|aY (pt p)<|aY (pf p 20)<|aY (pt p)<|aY (pt p)<|aY (pt p)<|aY (pf p 19)<|bW (L_ (Value.int .i64) ekg)<|Rs (pt m.tb) (aM oC.aH 20) ?_;refine Rs (.slice m.s.ga (m.s.gn) (m.s.gc)) (aM oC.aH 19) ?_;refine Rp (pf af (5*b)) (fun _=>dh 5 (hx:=(rfl.trans (L_ (fun q=>Value.slice q (m.s.gn) (m.s.gc)) eq1))))<|aY (pf af (5*b+2))<|Rs (aC ((m.g b) 2)) (aM oN.aH (5*b+2) (Fx.gJ (k:=b) (j:=2) (by omega) (by omega) rfl)) ?_;refine gQ<|mh (Jf m.tb m.ta m.tn m.tc m.t (m.g b 2) D _ (tV m32 qB bt) hD hD2) ?_;rintro e w5 ⟨K,vv,he,hown,rZ,hK1,hb4⟩;obtain⟨Z,C,rfl⟩:=hown.val;refine⟨.slice Z K C,he,?_⟩;clear he;have Xe:K=dF m.t m.tn (m.g b 2):=vo rZ hK1 hD hD2;have hKD:K<=1000:=by rw[Xe]; exact Jl _ _
  have⟨sP,qX,qY,uI,nI,nJ,nK⟩:=jR hb4 oC mI m32 qB nV qC oN;have b6:=eZ hb4 b5 A;refine Ln<|aY (.slice Z (K) (C))<|bS<|Ws<|ay<|av (au 0)<|aD<|Wb ?_;have rY:Fx.Own w5 B 106 5 (.slice m.s.ga (m.s.gn) (m.s.gc)) m.s.gn (Jd m):=nK.fH (L_ (fun q=>Value.slice q m.s.gn m.s.gc) eq1.symm);refine Wo (fun f Q => ∃ k:Nat,∃ Rk:Nat->Nat->Int,k<=K/\cZ (fun x=>bH x v.o (m.g b 3)) (ou m.core (m.g b 2)) m.R k=(Rk,0)/\f 0=(pt p)/\f 3=(pt E)/\f 6 = .slice Z (K) (C)/\f 7=au (k:Int)/\f 5=au (b:Int)/\aR Q p 27 (lZ m) 56/\aR Q m.tb 1 (fun _ => .slice m.ta m.tn m.tc) 156/\Fx.Own Q B 153 2 (.slice m.ta (m.tn) (m.tc)) m.tn (Qo m.t)/\wM Q B 6 m/\aR Q E 14 (bM v) 37/\Fx.Own Q B 106 5 (.slice m.s.ga (m.s.gn) (m.s.gc)) m.s.gn (Jd m)/\Fx.Own Q qA.heap.size 23 1 (.slice Z (K) (C)) K (rv .u64 (fun i=>aT m.t m.tn i (m.g b 2)))/\Fx.Own Q B 84 56 (.slice m.s.na (m.s.nn) (m.s.nc)) m.s.nn (flat 56 (fun l=>mG (m.id l) (m.par l) (Rk l)))/\Below B w Q) (fun f _=>(K-(intOf (f 7)).toNat)) ⟨0,m.R,by omega,rfl,(by rfl),(by rfl),(by rfl),Fx.ic,((L_ (Value.int .i64) ekg).trans Fx.ic),sP,qY,uI,nI,nJ,rY,hown,qX,b6⟩ ?_;rintro f1 w6 ⟨k,Rk,hk,hRk,W,O,h3,h4,h5,qK,oO,sQ,xE,uh,tL,xq,wC,b7⟩;refine Ws<|ay<|bf h4<|bf h3<|av (au K) ?_;by_cases c54:(k:Int)<(K:Int)
  ·refine Lv aG (iq c54)<|aD<|aO<|Wk<|sN<|Ws<|Wb<|Ws ?_;obtain⟨q,hq,eq0,_⟩:=Eh (m:=m) (x:=aT m.t m.tn k (m.g b 2)) (by rw[hTN]; exact rZ k (by omega));have ex1:ou m.core (m.g b 2) k=q:=(by show(gX (fun i=>decide (m.id i=aT m.t m.tn k (m.g b 2))) m.s.nn).toNat=q; rw[eq0]; rfl);refine Wl<|bf W<|bf h3<|bf h4 ?_;obtain⟨UF,Gy⟩:=xq.addr (by omega);have uJ:Fx.Own w6 qA.heap.size 23 1 (bO UF K C) K (rv .u64 (fun i=>aT m.t m.tn i (m.g b 2))):=xq.fH (L_ (fun q=>Value.slice q K C) Gy);refine Lv (pf UF k) (dh 1 (hx:=(rfl.trans (L_ (fun q=>Value.slice q (K) (C)) Gy))))<|Lv (aC ((fun i=>aT m.t m.tn i (m.g b 2)) k)) (aM uJ.aH k) ?_;have wD:Fx.Own w6 qA.heap.size 23 1 (.slice Z (K) (C)) K (rv .u64 (fun i=>aT m.t m.tn i (m.g b 2))):=uJ.fH (L_ (fun q=>Value.slice q K C) Gy.symm);have anR:Cb w6 p { m with R:=Rk } := { c:=qK.aH,an:=wC.arr,ag:=tL.arr,tc:=oO.aH,at2:=sQ.arr,ar:=fun i J=>(xE.1 i J).arr,bn:=(by show m.s.nn<=1000000; omega),bg:=bg,bt:=(by show m.tn<=1000000; omega),br:=F.br };refine dJ ((Je { m with R:=Rk } p (aT m.t m.tn k (m.g b 2)) _ anR).mono (fun e w2 O=>(⟨O.1.trans (pU eq0),O.2⟩:e = .returned (au (q:Int))/\_))) _ rfl ?_;intro w7 hb5;have⟨ad,uK,sU,tN,xZ,qZ,vN,oD⟩:=ny hb5 qK oO sQ xE uh tL wC wD;have b8:=eZ hb5 b7 A;refine av (au q)<|aD<|Ws ?_;obtain⟨N,Xf⟩:=vN.addr (by omega);have uj:Fx.Own w7 B 84 56 (bO N m.s.nn m.s.nc) m.s.nn (flat 56 (fun l=>mG (m.id l) (m.par l) (Rk l))):=vN.fH (L_ (fun q=>Value.slice q m.s.nn m.s.nc) Xf);obtain⟨ac,eq4⟩:=qZ.addr (by omega);have m64:Fx.Own w7 B 106 5 (bO ac m.s.gn m.s.gc) m.s.gn (Jd m):=qZ.fH (L_ (fun q=>Value.slice q m.s.gn m.s.gc) eq4);refine qQ (T:=82) (T':=82) (a := .tmp 9) (v := .tmp 85) (m:=54) (z:=rv .i64 (fun _=>0)) (y:=rv .i64 ((bH (Rk q) v.o ((m.g b) 3)).1)) (u := .agg (aA 54 (rv .i64 ((bH (Rk q) v.o ((m.g b) 3)).1)))) 24 25 (List.replicate 27 (0,2,[],[])) #[(pt p),(pt p),(pt p),(pf p 18),.slice m.s.na (m.s.nn) (m.s.nc),au (q:Int),(pf N (56*q)),(pf N (56*q+2)),.agg (aA 54 (rv .i64 (Rk q))),(pt E),au v.o,(pt p),(pt p),(pt p),(pf p 19),.slice m.s.ga (m.s.gn) (m.s.gc),au (b:Int),(pf ac (5*b)),(pf ac (5*b+3)),au ((m.g b) 3),.tuple #[.agg (aA 54 (rv .i64 ((bH (Rk q) v.o ((m.g b) 3)).1))),au ((bH (Rk q) v.o ((m.g b) 3)).2)],.tuple #[.agg (aA 54 (rv .i64 ((bH (Rk q) v.o ((m.g b) 3)).1))),au ((bH (Rk q) v.o ((m.g b) 3)).2)],.agg (aA 54 (rv .i64 ((bH (Rk q) v.o ((m.g b) 3)).1))),au ((bH (Rk q) v.o ((m.g b) 3)).2),undef,undef,au ((bH (Rk q) v.o ((m.g b) 3)).2)] (by kernel_rfl) (by kernel_rfl) (by kernel_rfl) (by kernel_rfl) (by kernel_rfl) (by kernel_rfl) rfl (by kernel_rfl) rfl rfl (by kernel_rfl) (fun I=>(show ev _ (.tmp 9)=(pt I)from by kernel_rfl)) (fun I=>(show ev _ (.tmp 85) = .agg (aA 54 (rv .i64 ((bH (Rk q) v.o ((m.g b) 3)).1)))from by kernel_rfl)) (bI _ _) (fun _ _=>rfl) (by kernel_rfl) (fun I => ?_) ?_
   ·refine⟨?_,?_,?_,?_,?_,?_,?_,?_,?_,?_,?_,?_,?_,?_,?_,?_,?_,?_,?_,?_,?_,?_,?_,?_,?_,?_,?_,trivial⟩
    ·exact .inr (.inr (sS (pt p) fun G d=>fE rfl ((bX (by kernel_rfl)).trans W)))
    ·exact .inr (.inr qw)
    ·exact .inr (.inr qw)
    ·exact .inr (.inr qw)
    ·exact .inr (.inr (sS (.slice m.s.na (m.s.nn) (m.s.nc)) fun G d=>bC (x:=lZ m) rfl (show ev _ (.tmp 67)=(pf p 18)from by kernel_rfl) (by kernel_rfl) (ad.aH.below d (by have:=ad.lt; omega)) (i:=18) (by omega) (by omega) rfl))
    ·exact .inr (.inr qw)
    ·exact .inr (.inr (sS (pf N (56*q)) fun G d=>dR rfl ((show ev _ (.tmp 68) = .slice m.s.na (m.s.nn) (m.s.nc)from by kernel_rfl).trans (L_ (fun q=>Value.slice q (m.s.nn) (m.s.nc)) Xf)) (show ev _ (.tmp 69)=au (q:Int)from by kernel_rfl) Tryz.underlying47 (s:=56) (by kernel_rfl) (by omega) (by omega) (by omega)))
    ·exact .inr (.inr qw)
    ·exact .inr (.inr (sS (.agg (aA 54 (rv .i64 (Rk q)))) fun G d=>eG (x:=flat 56 (fun l=>mG (m.id l) (m.par l) (Rk l))) (y:=rv .i64 (Rk q)) rfl (show ev _ (.tmp 71)=(pf N (56*q+2))from by kernel_rfl) (by kernel_rfl) (by kernel_rfl) (uj.aH.below d (by have:=uj.lt; omega)) (i:=56*q+2) (by omega) (by omega) (fun jq hjq=>(Fx.jJ (k:=q) (j:=2+jq) (by omega) (by omega)).trans ((fun jq _=>Jc _ _ _ jq) jq hjq))))
    ·exact .inr (.inr (sS (pt E) fun G d=>fT rfl ((bX (by kernel_rfl)).trans O) Tryz.underlying37 rfl (s:=1) (by kernel_rfl) rfl rfl))
    ·exact .inr (.inr (sS (au v.o) fun G d=>bC (x:=bM v) rfl (show ev _ (.tmp 73)=(pt E)from by kernel_rfl) (by kernel_rfl) (xZ.aH.below d (by have:=xZ.lt; omega)) (i:=0) (by omega) (by omega) rfl))
    ·exact .inr (.inr (sS (pt p) fun G d=>fE rfl ((bX (by kernel_rfl)).trans W)))
    ·exact .inr (.inr qw)
    ·exact .inr (.inr qw)
    ·exact .inr (.inr qw)
    ·exact .inr (.inr (sS (.slice m.s.ga (m.s.gn) (m.s.gc)) fun G d=>bC (x:=lZ m) rfl (show ev _ (.tmp 78)=(pf p 19)from by kernel_rfl) (by kernel_rfl) (ad.aH.below d (by have:=ad.lt; omega)) (i:=19) (by omega) (by omega) rfl))
    ·exact .inr (.inr (sS (au b) fun G d=>fE rfl ((bX (by kernel_rfl)).trans h5)))
    ·exact .inr (.inr (sS (pf ac (5*b)) fun G d=>dR rfl ((show ev _ (.tmp 79) = .slice m.s.ga (m.s.gn) (m.s.gc)from by kernel_rfl).trans (L_ (fun q=>Value.slice q (m.s.gn) (m.s.gc)) eq4)) (show ev _ (.tmp 80)=au (b:Int)from by kernel_rfl) Tryz.underlying48 (s:=5) (by kernel_rfl) (by omega) (by omega) (by omega)))
    ·exact .inr (.inr qw)
    ·exact .inr (.inr (sS (au ((m.g b) 3)) fun G d=>bC (x:=Jd m) rfl (show ev _ (.tmp 82)=(pf ac (5*b+3))from by kernel_rfl) (by kernel_rfl) (m64.aH.below d (by have:=m64.lt; omega)) (i:=5*b+3) (by omega) (by omega) (Fx.gJ (k:=b) (j:=3) (by omega) (by omega) rfl)))
    ·exact .inr (.inr (Fx.IL (v := .tuple #[.agg (aA 54 (rv .i64 ((bH (Rk q) v.o ((m.g b) 3)).1))),au ((bH (Rk q) v.o ((m.g b) 3)).2)]) (by kernel_rfl) (by kernel_rfl) (Fx.qbC (fun G d=>rC (args := [.agg (aA 54 (rv .i64 (Rk q))),au v.o,au ((m.g b) 3)]) rfl (Fx.Oh (show ev _ (.tmp 72) = .agg (aA 54 (rv .i64 (Rk q)))from by kernel_rfl) (show ev _ (.tmp 74)=au v.o from by kernel_rfl) (show ev _ (.tmp 83)=au ((m.g b) 3)from by kernel_rfl)) Tryz.func161 rfl rfl) (fun G d=>(Ya (Rk q) v.o ((m.g b) 3) _).mono fun e v2 h=>⟨h.1,h.2⟩))))
    ·exact .inr (.inr qw)
    ·exact .inr (.inr qw)
    ·exact .inr (.inr qw)
    ·exact .inl rfl
    ·exact .inr (.inl rfl)
    exact .inr (.inr qw)
   rintro I w8 U P X xG hb6;have acQ:p≠I:=u_ (n_ (ad.lt) X);have acR:m.tb≠I:=u_ (n_ (uK.lt) X);have acS:E≠I:=u_ (n_ (xZ.lt) X);have acT:N≠I:=u_ (n_ (uj.lt) X);have anS:ac≠I:=u_ (n_ (m64.lt) X);have⟨xu,vO,xH,sV,vP,uT,vQ,vR⟩:=ny hb6 ad uK sU tN xZ oD uj m64;have b9:=eZ hb6 b8 A;have X:w.heap.size<=I:=m_ b8.size X;have zK:=xG.lt;have q1:U 0=(pt p):=(by rw[P]; exact(bX (by kernel_rfl)).trans W);have q2:U 3=(pt E):=(by rw[P]; exact(bX (by kernel_rfl)).trans O);have q3:U 6 = .slice Z (K) (C):=(by rw[P]; exact(bX (by kernel_rfl)).trans h3);have q4:U 7=au (k:Int):=(by rw[P]; exact(bX (by kernel_rfl)).trans h4);have q5:U 5=au (b:Int):=(by rw[P]; exact(bX (by kernel_rfl)).trans h5);have q16:U 8=au (q:Int):=(by rw[P]; kernel_rfl);have q41:U 9=(pt I):=(by rw[P]; kernel_rfl);have q42:U 10=au ((bH (Rk q) v.o ((m.g b) 3)).2):=(by rw[P]; kernel_rfl);clear P;refine sN<|Ws<|ay<|bf q42 ?_;by_cases V:((bH (Rk q) v.o ((m.g b) 3)).2)=0
   ·refine Lv aF (jQ V)<|aD<|aK<|Wk<|sN ?_;refine jW [0,1,2,3,5,4,6,7,8,9] [0,0,0,0,4,0,4,0,0,3] [(9,4,[4]),(9,6,[6])] fun Da gG nU => ?_;have⟨zJ,xw,zq,zu,yP,xA,wE,wF,yc⟩:=BL gG xu vO xH sV vP uT vQ vR xG;have b10:=eZ gG b9 A;refine bW q1<|aY (pt p)<|aY (pt p)<|aY (pf p 18)<|bW q16<|Rs (.slice m.s.na (m.s.nn) (m.s.nc)) (aM zJ.aH 18) ?_;refine Rs (.agg (aA 54 (rv .i64 ((bH (Rk q) v.o ((m.g b) 3)).1)))) (fD yc.aH 0 (ha:=q41)) ?_;refine Rp (pf N (56*q)) (fun _=>dh 56 (hx:=(rfl.trans (L_ (fun q=>Value.slice q (m.s.nn) (m.s.nc)) Xf))))<|aY (pf N (56*q+2))<|gQ<|zR wE (56*q+2) fun w9 zW s10 z2 => ?_;have gV:=gP s10 wE.Kc;have⟨yg,AZ,Ay,Az,zX,zY,A8⟩:=R8 gV zJ xw zq zu yP xA wF;have b11:=s10.below b10 (m_ A b10.size) wE.blk.1;have DT:Fx.Own w9 B 84 56 (bO N m.s.nn m.s.nc) m.s.nn (flat 56 (fun l=>mG (m.id l) (m.par l) (aI Rk q ((bH (Rk q) v.o ((m.g b) 3)).1) l))):=zW.congr (fun pq hp=>(Fx.BK (k:=q) (j:=2) (by omega) (by omega) pq hp).trans (bJ (fun i J j hj=>Cn i J j hj) pq hp));refine Ln<|Rn<|bR<|sN<|Wl<|bf q4<|Lv (au ((k:Int)+1)) fC<|av (au ((k:Int)+1))<|Ln ?_;have Ce:Fx.Own w9 B 106 5 (.slice m.s.ga (m.s.gn) (m.s.gc)) m.s.gn (Jd m):=A8.fH (L_ (fun q=>Value.slice q m.s.gn m.s.gc) eq4.symm);have Dc:Fx.Own w9 B 84 56 (.slice m.s.na (m.s.nn) (m.s.nc)) m.s.nn (flat 56 (fun l=>mG (m.id l) (m.par l) (aI Rk q ((bH (Rk q) v.o ((m.g b) 3)).1) l))):=DT.fH (L_ (fun q=>Value.slice q m.s.nn m.s.nc) Xf.symm);refine ig ⟨k+1,(aI Rk q (bH (Rk q) v.o (m.g b 3)).1),by omega,(Fj hRk ex1 (by first|exact V|exact Classical.not_not.1 V)),q1,q2,q3,Fx.ic,(q5.trans Fx.ic),yg,AZ,Ay,Az,zX,Ce,zY,Dc,b11⟩ ?_
    show(K-(intOf (au ((k:Int)+1))).toNat)<_;simp only[h4,intOf]; omega
   refine Lv aG (nk V)<|aD<|aO<|ay<|bf q42<|av (au ((bH (Rk q) v.o ((m.g b) 3)).2))<|aD<|Wr<|sR<|bL<|sR<|pO<|bL<|sR<|aJ (au ((bH (Rk q) v.o ((m.g b) 3)).2)) ?_;have L:aL v=a:=(by unfold aL; omega);have Y : ¬ 0<=m.core.lD (aL v) v.req:=(by rw[L]; exact j_ S);have ne2 : ¬ (m.core.grant v.o v.of<0\/m.core.g (yw m.core v) 4≠0):=(by rw[ab]; exact fun h=>h.elim aa (fun h=>h ae));have ew:mF m.core v=cZ (fun x=>bH x v.o (m.g b 3)) (ou m.core (m.g b 2)) m.R K:=(by unfold mF; rw[ab,show dF m.core.t m.core.tn (m.core.g b 2)=K from Xe.symm]; rfl);have H:iT m.core v=(bH (Rk q) v.o (m.g b 3)).2:=by
    unfold iT; rw[b_ Y,b_ ne2,ew];have e1:=Hu hRk ex1 V;rw[Ah (k:=k+1) (by rw[e1]; exact V) K (by omega)]; exact e1
   exact⟨pU H.symm,b9,fun M=>M_ (H.symm.trans M) V⟩
  refine Lv aF (iw c54)<|aD<|aK<|Wx<|bZ<|gL<|cu<|sN<|Ws ?_;have hRK:cZ (fun x=>bH x v.o (m.g b 3)) (ou m.core (m.g b 2)) m.R K=(Rk,0):=by rw[show K=k by omega]; exact hRk
  refine jW [0,1,2,3,5,6,4,7,8,9,10] [0,0,0,0,4,0,0,4,0,0,3] [(10,4,[4]),(10,7,[7])] fun Rv lY AX => ?_;have⟨Ae,Gj,Ef,Gl,Gu,wN,wO⟩:=jR lY qK oO sQ xE uh tL wC;have b12:=eZ lY b7 A;refine bW W<|aY (pt p)<|aY (pt p)<|aY (pf p 19)<|bW h5<|Rp (pf E 12) (fun _=>jD O 12)<|Rs (.slice m.s.ga (m.s.gn) (m.s.gc)) (aM Ae.aH 19) ?_;refine Rs (aC v.req) (aM Gu.aH 12) ?_;obtain⟨gq5,eq5⟩:=wN.addr (by omega);have uo:Fx.Own Rv B 106 5 (bO gq5 m.s.gn m.s.gc) m.s.gn (Jd m):=wN.fH (L_ (fun q=>Value.slice q m.s.gn m.s.gc) eq5);refine Rp (pf gq5 (5*b)) (fun _=>dh 5 (hx:=(rfl.trans (L_ (fun q=>Value.slice q (m.s.gn) (m.s.gc)) eq5))))<|aY (pf gq5 (5*b+4))<|gQ<|qp uo (5*b+4) (aC v.req) fun sO pX s12 z3 => ?_;have ku:=gP s12 uo.Kc;have⟨oV,qE,pY,rz,sH,rA⟩:=R7 ku Ae Gj Ef Gl Gu wO;have b13:=s12.below b12 (m_ A b12.size) uo.blk.1;have uq:Fx.Own sO B 106 5 (bO gq5 m.s.gn m.s.gc) m.s.gn (flat 5 (fun l=>jm (aI m.g b (aI (m.g b) 4 v.req) l))):=pX.congr (fun pq hp=>(Fx.GQ (k:=b) (j:=4) (by omega) (by omega) pq hp).trans (bJ (fun i J j hj=>QG i J j hj) pq hp));refine Ln<|bS<|Ws ?_;have zw:Fx.Own sO B 106 5 (.slice m.s.ga (m.s.gn) (m.s.gc)) m.s.gn (flat 5 (fun l=>jm (aI m.g b (aI (m.g b) 4 v.req) l))):=uq.fH (L_ (fun q=>Value.slice q m.s.gn m.s.gc) eq5.symm);have vk:Fx.Own sO B 23 1 (.slice (m.ra a) (m.rn a) (m.rc a)) (m.rn a) (rv .u64 (m.rq a)):=rz.1 a ha;have bra:=F.br a ha;refine zC [0,1,4,5,8,9,12,16,17,2,3,6,7,10,11,13,14,15,18,19] [0,0,1,0,0,0,1,0,0,0,0,1,0,4,2,2,0,0,0,3] (iP [23]) vM Fx.iP.trans (fG := [(19,2,[2]),(19,6,[6]),(19,11,[11]),(14,13,[13]),(15,13,[14,13]),(19,13,[13]),(15,14,[14]),(18,14,[14]),(19,14,[14]),(18,15,[15]),(19,15,[15])]) (by kernel_rfl) (by kernel_rfl) (by kernel_rfl) (by kernel_rfl) (by kernel_rfl) fun wt4 qJ G9 => ?_;have⟨zx,Cg,xI,uw,qF,yt,yu,uy⟩:=ny qJ oV qE pY rz sH rA zw vk;have b14:=eZ qJ b13 A;refine bW W<|Rp (pt E) (fun _=>jD O 0)<|bW W<|Rp (pt E) (fun _=>jD O 0)<|aY (pt p)<|aY (pf p 21)<|Rp (pf E 12) (fun _=>jD O 12)<|aY (pt p)<|aY (pf p 21)<|Rd (v:=au v.o) (by rfl) (by rfl) (vM _) (fun G d=>bC (x:=bM v) rfl rfl (by kernel_rfl) (qF.kN d (by decide)).aH (i:=0) (by omega) (by omega) rfl) ?_;refine Rp (au a) (fun _=>gD)<|Rd (v:=au v.o) (by rfl) (by rfl) (vM _) (fun G d=>bC (x:=bM v) rfl rfl (by kernel_rfl) (qF.kN d (by decide)).aH (i:=0) (by omega) (by omega) rfl) ?_;refine Rp (au a) (fun _=>gD)<|Rp (pf p (a+21)) (fun _=>jM 6 1)<|Rd (v := .slice (m.ra a) (m.rn a) (m.rc a)) (by rfl) (by rfl) (vM _) (fun G d=>bC (x:=lZ m) rfl rfl (by kernel_rfl) (zx.kN d (by decide)).aH (i:=a+21) (by omega) (by omega) (wK _ (by omega))) ?_;refine Rs (aC v.req) (aM qF.aH 12) ?_;refine xM<|yK (vs := [(0,aC v.req)]) (s:=1) (zc:=rv .u64 (fun _=>0)) (y:=bK (fun j=>(rv .u64 (fun _=>0)) (j % 1)) (0*1) 1 (fun _=>aC v.req)) (by rfl) rfl rfl Tryz.underlying53 (by kernel_rfl) (by rfl) (by rfl) (by kernel_rfl) (by rw[bG (off:=0*1) (s:=1) (y:=fun _=>aC v.req) rfl (cells_one (by rfl)) (by rfl)]; rfl) rfl fun g3 Gi zZ Ch BG z4 => ?_;have⟨Jh,E8,Bc,E9,Ci,Af,Jo⟩:=jR BG.old zx Cg xI uw yt yu uy;have b15:=eZ BG.old b14 A;have C9:=iQ zZ b14.size;have⟨ajE,ajF,ajG⟩:=EK zZ zx.lt Cg.lt qF.lt;have ajH:(.slice (m.ra a) (m.rn a) (m.rc a):Value).ownBlock≠some g3:=by rw[zZ]; exact uy.ko (A_ _)
  have JR:=Ch.lt;refine Ln ⟨Fx.iP.of_below BG.old,?_⟩;refine xM<|zk (B:=B) (s:=1) (bytes:=8) (k:=(m.rn a)) (m:=1) (v := .slice (m.ra a) (m.rn a) (m.rc a)) (x:=rv .u64 (m.rq a)) (by rfl) rfl rfl rfl Tryz.underlying53 (by kernel_rfl) (by kernel_rfl) rfl rfl Jo Ch.aH (yS (fun _=>rfl)) (by omega) (by omega) (by omega) (m_ A b15.size) fun g4 C BR ho1 hg1 wB hlt1 => ?_;have rX:=zl hg1 Jo;have⟨Fa,Fb,Gw,Cj,Fe⟩:=qV rX Jh E8 Bc Ci Af;have KT:Fx.Own BR B 23 1 (.slice (some ⟨g4,0,none⟩) ((m.rn a)+1) C) ((m.rn a)+1) (rv .u64 (aI (m.rq a) (m.rn a) v.req)):=(ho1.congr (fun j hj=>OX j hj));have b16:Below B w BR:=zi b15 hg1 (m_ A b15.size) (fun q hq=>(Jo.ge hq).1);have Ck:wM BR B 6 { m with ra:=aI m.ra a (some ⟨g4,0,none⟩),rn:=aI m.rn a (m.rn a+1),rc:=aI m.rc a C,rq:=aI m.rq a (aI (m.rq a) (m.rn a) v.req) }:=wM.app E9 ha rfl rfl rfl rfl KT hg1 wB;refine Ln ⟨rX,?_⟩;refine Rp (pf p (a+21)) (fun _=>jM 6 1)<|gQ<|jg Fa (a+21) (.slice (some ⟨g4,0,none⟩) ((m.rn a)+1) (C)) fun Gt Fw s15 z5 => ?_;have zV:=gP s15 Fa.ty;have⟨Fg,Ag,Bd,Ji,UD⟩:=qV zV Fb Gw Cj Fe Ck;have b17:=s15.below b16 (m_ A b16.size) (by omega);refine Ln<|bS<|ay<|av (au 0)<|aD<|Wr<|aJ (au 0) ?_;have L:aL v=a:=by unfold aL; omega
  have Y : ¬ 0<=m.core.lD (aL v) v.req:=by rw[L]; exact j_ S
  have ne2 : ¬ (m.core.grant v.o v.of<0\/m.core.g (yw m.core v) 4≠0):=by rw[ab]; exact fun h=>h.elim aa (fun h=>h ae)
  have ew:mF m.core v=cZ (fun x=>bH x v.o (m.g b 3)) (ou m.core (m.g b 2)) m.R K:=by unfold mF; rw[ab,show dF m.core.t m.core.tn (m.core.g b 2)=K from Xe.symm]; rfl
  have H:iT m.core v=0:=by unfold iT; rw[b_ Y,b_ ne2,ew,hRK]
  have eW:mF m.core v=(Rk,0):=ew.trans hRK;refine⟨pU H.symm,b17,fun _=>⟨{ m with s := { m.s with ga:=m.s.ga,gn:=m.s.gn,gc:=m.s.gc },R:=Rk,g:=aI m.g b (aI (m.g b) 4 v.req),ra:=aI m.ra a (some ⟨g4,0,none⟩),rn:=aI m.rn a (m.rn a+1),rc:=aI m.rc a C,rq:=aI m.rq a (aI (m.rq a) (m.rn a) v.req) },?_,?_⟩⟩
  ·unfold kJ qG; rw[eW,L]; rw[ab]; rfl
  exact { c:=Fw.to (KV _ rfl _ _ _),n:=Bd,g:=Ji,tc:=Fg,t:=Ag,r:=UD,pB:=Ul,tB:=DU,bn:=bn,bg:=(by show m.s.gn<=1000000; omega),bt:=bt,br:=(fun i J=>by show aI m.rn a (m.rn a+1) i<=1000000; have:=brr i J; have:=brr a ha; unfold aI; split <;> omega) }
 refine Lv aG (nk ae)<|av aG<|aD<|aO<|ay<|av (au 12)<|aD<|Wr<|sR<|aJ (au 12) ?_;have L:aL v=a:=by unfold aL; omega
 have Y : ¬ 0<=m.core.lD (aL v) v.req:=by rw[L]; exact j_ S
 have H:iT m.core v=12:=by unfold iT; rw[b_ Y,ab]; exact d_ (.inr ae)
 exact⟨pU H.symm,b4,fun M=>by rw[H]at M; cases M⟩
namespace Rt
def wQ(L:eY)(v:EvM):Int:=if L.node v.node<0 then 9 else if 140737488355328<L.R (L.node v.node).toNat (aL v)+v.aQ then 6 else 0
def Fz(L:eY)(v:EvM):eY := { L with R:=aI L.R (L.node v.node).toNat (upd (L.R (L.node v.node).toNat) (aL v) (L.R (L.node v.node).toNat (aL v)+v.aQ)) }
def yx(L:eY)(v:EvM):(Nat->Int) × Int:=dn (L.R (L.node v.node).toNat) v.o v.dst v.aQ
def oZ(L:eY)(v:EvM):Int:=if L.node v.node<0 then 9 else if v.dst<1\/6<v.dst\/L.inn (v.dst-1).toNat=false then 10 else(yx L v).2
def FB(L:eY)(v:EvM):eY := { L with R:=aI L.R (L.node v.node).toNat (yx L v).1 }
noncomputable def dY(L:eY)(v:EvM):Int :=
 if v.kind=1 then kI L v else if v.kind=2 then wQ L v else if v.kind=3 then iZ L v else if v.kind=4 then iT L v else if v.kind=5 then oZ L v else 0
def gY(L:eY)(v:EvM):eY :=
 if v.kind=1 then qD L v else if v.kind=2 then Fz L v else if v.kind=3 then mE L v else if v.kind=4 then kJ L v else if v.kind=5 then FB L v
 else if v.kind=6 then { L with inn:=aI L.inn (v.dst-1).toNat true } else { L with left:=aI L.left (aL v) true }
theorem Nj{n q a:Nat}{id par:Nat->Int}{R:Nat->Nat->Int}{x:Int} : ∀ i,i<n -> ∀ j,j<56->Fx.qR (fun b=>mG (id b) (par b) (R b)) q (dD (mG (id q) (par q) (R q)) (a+2) (au x)) i j=mG (id i) (par i) (aI R q (upd (R q) a x) i) j:=fun i _ j _=>by
 unfold Fx.qR;by_cases h:i=q
 ·subst h; rw[d_ rfl,OP rfl]; unfold aI; rw[d_ rfl]
 ·rw[b_ h]; unfold aI; rw[b_ h]
theorem Yk(m:kR){i:Nat}(hi:i<6):dD (lZ m) i (.bool true)=lZ { m with s := { m.s with inn:=aI m.s.inn i true } }:=by
 funext p
 unfold dD lZ;by_cases h:p=i
 ·subst h; rw[d_ rfl,d_ (by omega)]; unfold nQ; rw[d_ hi]; simp[aI]
 rw[b_ h];by_cases a:p<20
 ·rw[d_ a,d_ a]; unfold nQ;by_cases b:p<6
  ·rw[d_ b,d_ b]; simp[aI,h]
  rw[b_ b,b_ b]
 rw[b_ a,b_ a]
theorem UG(m:kR){i q:Nat}(hi:i<6)(d:q=i+6):dD (lZ m) q (.bool true)=lZ { m with s := { m.s with left:=aI m.s.left i true } }:=by
 subst d
 funext p
 unfold dD lZ;by_cases h:p=i+6
 ·subst h; rw[d_ rfl,d_ (by omega)]; unfold nQ; rw[b_ (by omega),d_ (by omega)]; simp[aI]
 rw[b_ h];by_cases a:p<20
 ·rw[d_ a,d_ a]; unfold nQ;by_cases b:p<6
  ·rw[d_ b,d_ b]
  rw[b_ b,b_ b];by_cases c:p<12
  ·rw[d_ c,d_ c]; simp[aI,show ¬ p-6=i by omega]
  rw[b_ c,b_ c]
 rw[b_ a,b_ a]
theorem QH(m:kR){i q:Nat}(hi:i<6)(e:q=i+12)(x:Int):dD (lZ m) q (aC x)=lZ { m with s := { m.s with known:=aI m.s.known i x } }:=by
 subst e
 funext p
 unfold dD lZ;by_cases h:p=i+12
 ·subst h; rw[d_ rfl,d_ (by omega)]; unfold nQ; rw[b_ (by omega),b_ (by omega),d_ (by omega)]; simp[aI]
 rw[b_ h];by_cases a:p<20
 ·rw[d_ a,d_ a]; unfold nQ;by_cases b:p<6
  ·rw[d_ b,d_ b]
  rw[b_ b,b_ b];by_cases c:p<12
  ·rw[d_ c,d_ c]
  rw[b_ c,b_ c];by_cases d:p<18
  ·rw[d_ d,d_ d]; simp[aI,show ¬ p-12=i by omega]
  rw[b_ d,b_ d]
 rw[b_ a,b_ a]
theorem ji{v:EvM}(h:bQ v=true):1<=v.kind/\v.kind<=7:=by
 unfold bQ at h;simp only[S_]at h;have a:=h.2;unfold dM at a;split at a; · omega
 split at a; · omega
 split at a; · omega
 split at a; · omega
 split at a; · omega
 split at a; · omega
 have:=h_ a; omega
theorem lH{v:EvM}(h:bQ v=true)(c:v.kind=2\/v.kind=3\/v.kind=5):1<=v.aQ/\v.aQ<=1125899906842624:=by
 unfold bQ at h;simp only[S_]at h;have a:=h.2;unfold dM at a;rw[b_ (by omega)]at a;have b:someE v=true->1<=v.aQ/\v.aQ<=1125899906842624:=fun h=>by unfold someE at h; simpa using h
 split at a; · exact b a
 split at a; · rw[S_]at a; exact b a.1
 rw[b_ (by omega)]at a;split at a; · rw[S_]at a; exact b a.1
 omega
theorem Hw{v:EvM}(h:bQ v=true)(c:v.kind=6) : ∃ b:Nat,b<6/\v.dst=(b:Int)+1:=by
 unfold bQ at h;simp only[S_]at h;have a:=h.2;unfold dM at a;rw[b_ (by omega),b_ (by omega),b_ (by omega),b_ (by omega),b_ (by omega),d_ c]at a;unfold mD at a;rw[S_]at a;exact eU a.1
end Rt
set_option maxRecDepth 20000 in
set_option maxHeartbeats 2000000 in
theorem acU(m:kR)(B p a:Nat)(v:EvM)(w:World)(S:um w B p m)(H:B<=w.heap.size)(ha:a<6)(ho:v.o=(a:Int)+1)(bnn:m.s.nn<=900)(bgg:m.s.gn<=900000)(brr : ∀ i,i<6->m.rn i<=900000)(hTN : ∀ x,m.node x=bF m.t m.tn x)(hDx : ∀ x,∃ D,D<=1000/\bF m.t m.tn (aT m.t m.tn D x)<0)(hv:gu v)(hmay:bQ v=true)(hR : ∀ k,k<m.s.nn->may (m.R k)=true) :
 Calls Tryz.prog 82 #[(pt p),.agg (aA 14 (bM v))] w fun e w'=>e = .returned (au (dY m.core v))/\Below B w w'/\(dY m.core v=0 -> ∃ m',m'.core=gY m.core v/\um w' B p m'):=by
 have Ul:=S.pB;have DU:=S.tB;have bn:=S.bn;have bg:=S.bg;have bt:=S.bt;have lpp:p<w.heap.size:=S.c.lt;have Ru:m.tb<w.heap.size:=S.tc.lt;have hvk:=hv.kind;have hvt:=hv.dst;have hkr:=ji hmay;obtain⟨D,hD2,hD⟩:=hDx v.node;refine Kent Tryz.func82 152 ?_;refine ay<|pR fun I w1 mo W s1 z1 => ?_;have C:=bE s1.old S;have X:=eZ s1.old (Below.refl B w) H;have sM:=iQ mo (Below.refl B w).size;have ug:=W.lt;refine av (au 0)<|aD<|Ws<|ay<|av (pf I 8)<|Lv (.int .u8 (v.kind)) (aM W.aH 8)<|aD<|Wb<|ay ?_;by_cases F:v.kind=1
 ·refine Lv aG (eO F)<|av aG<|aD<|aO<|ay<|av (pt p)<|Lv (.agg (aA 14 (bM v))) (fD W.aH 0)<|dJ (X5 m B p a D v _ C (m_ H X.size) ha ho bnn hD hD2) _ rfl ?_;rintro w2 ⟨hb1,hr1⟩;have b2:Below B w w2:=X.trans hb1;refine av (au (kI m.core v))<|aD<|Wr<|bL<|sR<|aJ (au (kI m.core v)) ?_;have A:dY m.core v=kI m.core v:=by unfold dY; rw[d_ F]
  have ec:gY m.core v=qD m.core v:=by unfold gY; rw[d_ F]
  exact⟨pU A.symm,b2,fun E=>by rw[ec]; exact hr1 (A.symm.trans E)⟩
 refine Lv aF (fO F)<|av aF<|aD<|aK<|ay ?_;by_cases G:v.kind=2
 ·refine Lv aG (eO G)<|av aG<|aD<|aO<|Ws ?_;have aa:=C.c;have ac:=C.n;have ab:=C.g;have ae:=C.tc;have af:=C.t;have ad:=C.r;refine Wl<|av (pt p)<|av (pf I 9)<|Lv (aC v.node) (aM W.aH 9) ?_;have Nh:Cb w1 p m := { c:=aa.aH,an:=ac.arr,ag:=ab.arr,tc:=ae.aH,at2:=af.arr,ar:=fun i hi=>(ad.1 i hi).arr,bn:=(by show m.s.nn<=1000000; omega),bg:=bg,bt:=(by show m.tn<=1000000; omega),br:=S.br };refine dJ (Je m p v.node _ Nh) _ rfl ?_;intro w3 hb2;have⟨m3,m4,m5,m6,m7,m8,m9⟩:=jR hb2 W aa ac ab ae af ad;have b3:=eZ hb2 X H;refine av (au (m.node v.node))<|aD<|Ws<|ay<|av (au (m.node v.node)) ?_;by_cases c23:(m.node v.node)<0
  ·refine Lv aG (iq c23)<|aD<|aO<|ay<|av (au 9)<|aD<|Wr<|sR<|bL<|sR<|aJ (au 9) ?_;have P:aL v=a:=(by unfold aL; omega);have A:dY m.core v=9:=(by unfold dY; rw[b_ F,d_ G]; unfold wQ; exact d_ c23);exact⟨pU A.symm,b3,fun E=>by rw[A]at E; cases E⟩
  obtain⟨d,hkq,V,_⟩:=Eh (m:=m) (x:=v.node) (by omega);have V:m.node v.node=(d:Int):=V;have ekN:(m.core.node v.node).toNat=d:=by show(m.node v.node).toNat=d; rw[V]; rfl
  refine Lv aF (iw c23)<|aD<|aK<|Wk<|sN<|Ws<|Ws ?_;have hRb:=lV (hR d hkq) a (by omega);have hab:=lH hmay (.inl G);refine uO<|aX (pt p)<|aX (pt p)<|aX (pt p)<|aX (pf p 18)<|Qv (.slice m.s.na (m.s.nn) (m.s.nc)) (fun l f=>aM (m4.aH.dr f) 18)<|dZ (L_ (Value.int .i64) V)<|aX (pt I)<|Qv (au v.o) (fun l f=>aM (m3.aH.dr f) 0)<|Qv (au a) (fun l f=>gD) ?_;obtain⟨Q,eq1⟩:=m5.addr (by omega);have m10:Fx.Own w3 B 84 56 (bO Q m.s.nn m.s.nc) m.s.nn (JV m):=m5.fH (L_ (fun q=>Value.slice q m.s.nn m.s.nc) eq1);refine Qv (pf Q (56*d)) (fun l f=>dh 56 (hx:=(rfl.trans (L_ (fun q=>Value.slice q (m.s.nn) (m.s.nc)) eq1))))<|aX (pf Q (56*d+2))<|aX (pf Q (56*d+2))<|Qv (pf Q (a+56*d+2)) (fun l f=>jM 6 1)<|Qv (au ((m.R d) a)) (fun l f=>aM (m10.aH.dr f) (a+56*d+2) (Fx.gJ (k:=d) (j:=a+2) (by omega) (by omega) (Na _ _ _ (by omega))))<|aX (pf I 11)<|Qv (au v.aQ) (fun l f=>aM (m3.aH.dr f) 11)<|Qv (au (((m.R d) a)+v.aQ)) (fun l f=>fC) ?_;by_cases c41:140737488355328<(((m.R d) a)+v.aQ)
  ·refine Qv aG (fun l f=>ng c41)<|Qn ?_;rintro _ ⟨L,rfl⟩;obtain⟨BZ,oU⟩ : ∃ l,l=World.drewN w3 L:=⟨_,rfl⟩;rw[<- oU];have s3:Stp w3.heap.size w3 BZ:=(by rw[oU]; exact Sb (je w3 L));have b4:=eZ s3.old b3 H;clear oU;refine sN<|aO<|ay<|av (au 6)<|aD<|Wr<|sR<|bL<|sR<|aJ (au 6) ?_;have P:aL v=a:=(by unfold aL; omega);have A:dY m.core v=6:=(by unfold dY; rw[b_ F,d_ G]; unfold wQ; rw[ekN,P,b_ (show ¬ m.core.node v.node<0 from c23)]; exact d_ c41);exact⟨pU A.symm,b4,fun E=>by rw[A]at E; cases E⟩
  refine Qv aF (fun l f=>ni c41)<|Qn ?_;rintro _ ⟨L,rfl⟩;obtain⟨wq2,sG⟩ : ∃ l,l=World.drewN w3 L:=⟨_,rfl⟩;rw[<- sG];have s4:Stp w3.heap.size w3 wq2:=by rw[sG]; exact Sb (je w3 L)
  have⟨m18,m19,m20,m21,m22,m23,m24⟩:=jR s4.old m3 m4 m6 m7 m8 m9 m10;have b5:=eZ s4.old b3 H;clear sG;refine sN<|aK<|Wk<|sN ?_;refine jW [0,1,2,3,5,6,14,4,9,10,11,17,18,19,7,8,12,13,15,16,20,21] [0,0,0,0,4,0,0,4,0,0,0,0,0,4,0,4,0,0,0,0,0,3] [(21,4,[4]),(21,7,[7]),(21,13,[13]),(21,15,[15])] fun qA dP iE => ?_;have⟨mQ,nH,oq,oL,oM,oC,mI⟩:=jR dP m18 m19 m20 m21 m22 m23 m24;have b6:=eZ dP b5 H;refine aY (pt p)<|aY (pt p)<|aY (pt p)<|aY (pf p 18)<|bW (L_ (Value.int .i64) V)<|aY (pt I)<|aY (pf I 11)<|Rs (.slice m.s.na (m.s.nn) (m.s.nc)) (aM nH.aH 18) ?_;refine Rp (pf Q (56*d)) (fun _=>dh 56 (hx:=(rfl.trans (L_ (fun q=>Value.slice q (m.s.nn) (m.s.nc)) eq1))))<|aY (pf Q (56*d+2))<|aY (pf Q (56*d+2))<|Rp (pf Q (56*d)) (fun _=>dh 56 (hx:=(rfl.trans (L_ (fun q=>Value.slice q (m.s.nn) (m.s.nc)) eq1))))<|aY (pf Q (56*d+2))<|aY (pf Q (56*d+2))<|Rs (au v.o) (aM mQ.aH 0) ?_;refine Rp (au a) (fun _=>gD)<|Rp (pf Q (a+56*d+2)) (fun _=>jM 6 1)<|Rs (au ((m.R d) a)) (aM mI.aH (a+56*d+2) (Fx.gJ (k:=d) (j:=a+2) (by omega) (by omega) (Na _ _ _ (by omega)))) ?_;refine Rs (au v.aQ) (aM mQ.aH 11) ?_;refine Rp (au (((m.R d) a)+v.aQ)) (fun _=>fC)<|Rp (pf Q (a+56*d+2)) (fun _=>jM 6 1)<|gQ<|qp mI (a+56*d+2) (au (((m.R d) a)+v.aQ)) fun w4 m32 s6 z2 => ?_;have gV:=gP s6 mI.Kc;have⟨nV,qC,oN,sP,qX⟩:=qV gV nH oq oL oM oC;have b7:=s6.below b6 (m_ H b6.size) mI.blk.1;have qY:Fx.Own w4 B 84 56 (bO Q m.s.nn m.s.nc) m.s.nn (flat 56 (fun O=>mG (m.id O) (m.par O) (aI m.R d (upd (m.R d) a (((m.R d) a)+v.aQ)) O))):=m32.congr (fun pq hp=>(Fx.GQ (k:=d) (j:=a+2) (by omega) (by omega) pq hp).trans (bJ (fun i hi j hj=>Nj (a:=a) (x:=((m.R d) a)+v.aQ) (q:=d) (id:=m.id) (par:=m.par) (R:=m.R) i hi j hj) pq hp));refine Ln<|Rn<|bR<|sN<|ay<|av (au 0)<|aD<|Wr<|aJ (au 0) ?_;have P:aL v=a:=by unfold aL; omega
  have uI:Fx.Own w4 B 84 56 (.slice m.s.na (m.s.nn) (m.s.nc)) m.s.nn (flat 56 (fun O=>mG (m.id O) (m.par O) (aI m.R d (upd (m.R d) a (((m.R d) a)+v.aQ)) O))):=qY.fH (L_ (fun q=>Value.slice q m.s.nn m.s.nc) eq1.symm);have A:dY m.core v=0:=by unfold dY; rw[b_ F,d_ G]; unfold wQ; rw[ekN,P,b_ (show ¬ m.core.node v.node<0 from c23)]; exact b_ c41
  refine⟨pU A.symm,b7,fun _=>⟨{ m with R:=aI m.R d (upd (m.R d) a (m.R d a+v.aQ)) },by symm; unfold gY; rw[b_ F,d_ G]; unfold Fz; rw[ekN,P]; rfl,?_⟩⟩;exact { c:=nV,n:=uI,g:=qC,tc:=oN,t:=sP,r:=qX,pB:=Ul,tB:=DU,bn:=bn,bg:=bg,bt:=bt,br:=S.br }
 refine Lv aF (fO G)<|av aF<|aD<|aK<|ay ?_;by_cases K:v.kind=3
 ·refine Lv aG (eO K)<|av aG<|aD<|aO<|ay<|av (pt p)<|Lv (.agg (aA 14 (bM v))) (fD W.aH 0)<|dJ (Yc m B p a D v _ C (m_ H X.size) ha ho bgg brr hTN hD hD2) _ rfl ?_;rintro w5 ⟨hb3,hr2⟩;have b8:Below B w w5:=X.trans hb3;refine av (au (iZ m.core v))<|aD<|Wr<|bL<|sR<|aJ (au (iZ m.core v)) ?_;have A:dY m.core v=iZ m.core v:=by unfold dY; rw[b_ F,b_ G,d_ K]
  have ec:gY m.core v=mE m.core v:=by unfold gY; rw[b_ F,b_ G,d_ K]
  exact⟨pU A.symm,b8,fun E=>by rw[ec]; exact hr2 (A.symm.trans E)⟩
 refine Lv aF (fO K)<|av aF<|aD<|aK<|ay ?_;by_cases N:v.kind=4
 ·refine Lv aG (eO N)<|av aG<|aD<|aO<|ay<|av (pt p)<|Lv (.agg (aA 14 (bM v))) (fD W.aH 0)<|dJ (Yj m B p a  v _ C (m_ H X.size) ha ho bgg brr hTN hDx) _ rfl ?_;rintro w6 ⟨hb4,hr3⟩;have J:Below B w w6:=X.trans hb4;refine av (au (iT m.core v))<|aD<|Wr<|bL<|sR<|aJ (au (iT m.core v)) ?_;have A:dY m.core v=iT m.core v:=by unfold dY; rw[b_ F,b_ G,b_ K,d_ N]
  have ec:gY m.core v=kJ m.core v:=by unfold gY; rw[b_ F,b_ G,b_ K,d_ N]
  exact⟨pU A.symm,J,fun E=>by rw[ec]; exact hr3 (A.symm.trans E)⟩
 refine Lv aF (fO N)<|av aF<|aD<|aK<|ay ?_;by_cases U:v.kind=5
 ·refine Lv aG (eO U)<|av aG<|aD<|aO<|Ws ?_;have aa:=C.c;have ac:=C.n;have ab:=C.g;have ae:=C.tc;have af:=C.t;have ad:=C.r;refine Wl<|av (pt p)<|av (pf I 9)<|Lv (aC v.node) (aM W.aH 9) ?_;have UA:Cb w1 p m := { c:=aa.aH,an:=ac.arr,ag:=ab.arr,tc:=ae.aH,at2:=af.arr,ar:=fun i hi=>(ad.1 i hi).arr,bn:=(by show m.s.nn<=1000000; omega),bg:=bg,bt:=(by show m.tn<=1000000; omega),br:=S.br };refine dJ (Je m p v.node _ UA) _ rfl ?_;intro M hb5;have⟨nI,nJ,nK,rY,qK,oO,sQ⟩:=jR hb5 W aa ac ab ae af ad;have b10:=eZ hb5 X H;refine av (au (m.node v.node))<|aD<|Ws<|ay<|av (au (m.node v.node)) ?_;by_cases c80:(m.node v.node)<0
  ·refine Lv aG (iq c80)<|aD<|aO<|ay<|av (au 9)<|aD<|Wr<|sR<|bL<|sR<|aJ (au 9) ?_;have P:aL v=a:=(by unfold aL; omega);have A:dY m.core v=9:=(by unfold dY; rw[b_ F,b_ G,b_ K,b_ N,d_ U]; unfold oZ; exact d_ c80);exact⟨pU A.symm,b10,fun E=>by rw[A]at E; cases E⟩
  obtain⟨d,hkq,V,_⟩:=Eh (m:=m) (x:=v.node) (by omega);have V:m.node v.node=(d:Int):=V;have ekN:(m.core.node v.node).toNat=d:=by show(m.node v.node).toNat=d; rw[V]; rfl
  refine Lv aF (iw c80)<|aD<|aK<|Wk<|sN<|Ws<|Ws ?_;refine uO<|aX (pf I 10)<|Qv (au v.dst) (fun l f=>aM (nI.aH.dr f) 10) ?_;by_cases c83:v.dst<1
  ·refine Qv aG (fun l f=>iq c83)<|aX aG<|aP<|aP<|aP<|aX aG<|aX aG<|aP<|aP<|aP<|aP<|aP<|aP<|aP<|aP<|aP<|aP<|aX aG<|Qn ?_;rintro _ ⟨L,rfl⟩;obtain⟨Xd,Aj⟩ : ∃ l,l=World.drewN M L:=⟨_,rfl⟩;rw[<- Aj];have s8:Stp M.heap.size M Xd:=(by rw[Aj]; exact Sb (je M L));have b11:=eZ s8.old b10 H;clear Aj;refine sN<|aO<|ay<|av (au 10)<|aD<|Wr<|sR<|bL<|sR<|aJ (au 10) ?_;have P:aL v=a:=(by unfold aL; omega);have A:dY m.core v=10:=(by unfold dY; rw[b_ F,b_ G,b_ K,b_ N,d_ U]; unfold oZ; rw[b_ (show ¬ m.core.node v.node<0 from c80)]; exact d_ (.inl c83));exact⟨pU A.symm,b11,fun E=>by rw[A]at E; cases E⟩
  refine Qv aF (fun l f=>iw c83)<|aX aF<|aX (pf I 10)<|Qv (au v.dst) (fun l f=>aM (nI.aH.dr f) 10) ?_;by_cases c87:6<v.dst
  ·refine Qv aG (fun l f=>ng c87)<|aX aG<|aX aG<|aP<|aP<|aP<|aP<|aP<|aP<|aP<|aP<|aP<|aP<|aX aG<|Qn ?_;rintro _ ⟨L,rfl⟩;obtain⟨wq4,Fy⟩ : ∃ l,l=World.drewN M L:=⟨_,rfl⟩;rw[<- Fy];have s9:Stp M.heap.size M wq4:=(by rw[Fy]; exact Sb (je M L));have b12:=eZ s9.old b10 H;clear Fy;refine sN<|aO<|ay<|av (au 10)<|aD<|Wr<|sR<|bL<|sR<|aJ (au 10) ?_;have P:aL v=a:=(by unfold aL; omega);have A:dY m.core v=10:=(by unfold dY; rw[b_ F,b_ G,b_ K,b_ N,d_ U]; unfold oZ; rw[b_ (show ¬ m.core.node v.node<0 from c80)]; exact d_ (.inr (.inl c87)));exact⟨pU A.symm,b12,fun E=>by rw[A]at E; cases E⟩
  obtain⟨J,hb9,eb9⟩ : ∃ b:Nat,b<6/\v.dst=(b:Int)+1:=⟨(v.dst-1).toNat,by omega,by omega⟩;refine Qv aF (fun l f=>ni c87)<|aX aF<|aX aF<|aX (pt p)<|aX (pf I 10)<|Qv (au v.dst) (fun l f=>aM (nI.aH.dr f) 10)<|Qv (au J) (fun l f=>gD)<|aX (pt p)<|aX (pt p)<|aX (pt p)<|Qv (pf p J) (fun l f=>jM 6 1) ?_;by_cases Yl:(m.s.inn J)=true
  ·refine Qv aG (fun l f=>aM (nJ.aH.dr f) J ((kF _ (by omega) (Ad _ (by omega))).trans (L_ Value.bool Yl)))<|aX aF<|aX aF<|Qn ?_;rintro _ ⟨L,rfl⟩;obtain⟨wq5,Ni⟩ : ∃ l,l=World.drewN M L:=⟨_,rfl⟩;rw[<- Ni];have s10:Stp M.heap.size M wq5:=(by rw[Ni]; exact Sb (je M L));have⟨oD,uj,m64,xG,xu,vO,xH⟩:=jR s10.old nI nJ nK rY qK oO sQ;have b13:=eZ s10.old b10 H;clear Ni;refine sN<|aK<|Wk<|sN<|Ws ?_;obtain⟨Z,Gy⟩:=m64.addr (by omega);have sV:Fx.Own wq5 B 84 56 (bO Z m.s.nn m.s.nc) m.s.nn (JV m):=m64.fH (L_ (fun q=>Value.slice q m.s.nn m.s.nc) Gy);refine qQ (T:=82) (T':=82) (a := .tmp 7) (v := .tmp 118) (m:=54) (z:=rv .i64 (fun _=>0)) (y:=rv .i64 ((dn (m.R d) v.o v.dst v.aQ).1)) (u := .agg (aA 54 (rv .i64 ((dn (m.R d) v.o v.dst v.aQ).1)))) 19 20 (List.replicate 22 (0,2,[],[])) #[(pt p),(pt p),(pt p),(pf p 18),.slice m.s.na (m.s.nn) (m.s.nc),au (d:Int),(pf Z (56*d)),(pf Z (56*d+2)),.agg (aA 54 (rv .i64 (m.R d))),(pt I),au v.o,(pf I 10),au v.dst,(pf I 11),au v.aQ,.tuple #[.agg (aA 54 (rv .i64 ((dn (m.R d) v.o v.dst v.aQ).1))),au ((dn (m.R d) v.o v.dst v.aQ).2)],.tuple #[.agg (aA 54 (rv .i64 ((dn (m.R d) v.o v.dst v.aQ).1))),au ((dn (m.R d) v.o v.dst v.aQ).2)],.agg (aA 54 (rv .i64 ((dn (m.R d) v.o v.dst v.aQ).1))),au ((dn (m.R d) v.o v.dst v.aQ).2),undef,undef,au ((dn (m.R d) v.o v.dst v.aQ).2)] (by kernel_rfl) (by kernel_rfl) (by kernel_rfl) (by kernel_rfl) (by kernel_rfl) (by kernel_rfl) rfl (by kernel_rfl) rfl rfl (by kernel_rfl) (fun Y=>(show ev _ (.tmp 7)=(pt Y)from by kernel_rfl)) (fun Y=>(show ev _ (.tmp 118) = .agg (aA 54 (rv .i64 ((dn (m.R d) v.o v.dst v.aQ).1)))from by kernel_rfl)) (bI _ _) (fun _ _=>rfl) (by kernel_rfl) (fun Y => ?_) ?_
   ·refine⟨?_,?_,?_,?_,?_,?_,?_,?_,?_,?_,?_,?_,?_,?_,?_,?_,?_,?_,?_,?_,?_,?_,trivial⟩
    ·exact .inr (.inr qw)
    ·exact .inr (.inr qw)
    ·exact .inr (.inr qw)
    ·exact .inr (.inr qw)
    ·exact .inr (.inr (sS (.slice m.s.na (m.s.nn) (m.s.nc)) fun l f=>bC (x:=lZ m) rfl (show ev _ (.tmp 105)=(pf p 18)from by kernel_rfl) (by kernel_rfl) (uj.aH.below f (by have:=uj.lt; omega)) (i:=18) (by omega) (by omega) rfl))
    ·exact .inr (.inr (sS (au d) fun l f=>fE rfl ((bX (by kernel_rfl)).trans (L_ (Value.int .i64) V))))
    ·exact .inr (.inr (sS (pf Z (56*d)) fun l f=>dR rfl ((show ev _ (.tmp 106) = .slice m.s.na (m.s.nn) (m.s.nc)from by kernel_rfl).trans (L_ (fun q=>Value.slice q (m.s.nn) (m.s.nc)) Gy)) (show ev _ (.tmp 107)=au (d:Int)from by kernel_rfl) Tryz.underlying47 (s:=56) (by kernel_rfl) (by omega) (by omega) (by omega)))
    ·exact .inr (.inr qw)
    ·exact .inr (.inr (sS (.agg (aA 54 (rv .i64 (m.R d)))) fun l f=>eG (x:=JV m) (y:=rv .i64 (m.R d)) rfl (show ev _ (.tmp 109)=(pf Z (56*d+2))from by kernel_rfl) (by kernel_rfl) (by kernel_rfl) (sV.aH.below f (by have:=sV.lt; omega)) (i:=56*d+2) (by omega) (by omega) (fun jq hjq=>(Fx.jJ (k:=d) (j:=2+jq) (by omega) (by omega)).trans ((fun jq _=>Jc _ _ _ jq) jq hjq))))
    ·exact .inr (.inr qw)
    ·exact .inr (.inr (sS (au v.o) fun l f=>bC (x:=bM v) rfl (show ev _ (.tmp 111)=(pt I)from by kernel_rfl) (by kernel_rfl) (oD.aH.below f (by have:=oD.lt; omega)) (i:=0) (by omega) (by omega) rfl))
    ·exact .inr (.inr qw)
    ·exact .inr (.inr (sS (au v.dst) fun l f=>bC (x:=bM v) rfl (show ev _ (.tmp 113)=(pf I 10)from by kernel_rfl) (by kernel_rfl) (oD.aH.below f (by have:=oD.lt; omega)) (i:=10) (by omega) (by omega) rfl))
    ·exact .inr (.inr qw)
    ·exact .inr (.inr (sS (au v.aQ) fun l f=>bC (x:=bM v) rfl (show ev _ (.tmp 115)=(pf I 11)from by kernel_rfl) (by kernel_rfl) (oD.aH.below f (by have:=oD.lt; omega)) (i:=11) (by omega) (by omega) rfl))
    ·exact .inr (.inr (Fx.IL (v := .tuple #[.agg (aA 54 (rv .i64 ((dn (m.R d) v.o v.dst v.aQ).1))),au ((dn (m.R d) v.o v.dst v.aQ).2)]) (by kernel_rfl) (by kernel_rfl) (Fx.qbC (fun l f=>rC (args := [.agg (aA 54 (rv .i64 (m.R d))),au v.o,au v.dst,au v.aQ]) rfl (Fx.RF (show ev _ (.tmp 110) = .agg (aA 54 (rv .i64 (m.R d)))from by kernel_rfl) (show ev _ (.tmp 112)=au v.o from by kernel_rfl) (show ev _ (.tmp 114)=au v.dst from by kernel_rfl) (show ev _ (.tmp 116)=au v.aQ from by kernel_rfl)) Tryz.func127 rfl rfl) (fun l f=>(Yb (m.R d) v.o v.dst v.aQ _).mono fun e v2 h=>⟨h.1,h.2⟩))))
    ·exact .inr (.inr qw)
    ·exact .inr (.inr qw)
    ·exact .inr (.inr qw)
    ·exact .inl rfl
    ·exact .inr (.inl rfl)
    exact .inr (.inr qw)
   rintro Y w8 f1 hf1 ru vP hb6;have anU:I≠Y:=u_ (n_ (oD.lt) ru);have acT:p≠Y:=u_ (n_ (uj.lt) ru);have anV:m.tb≠Y:=u_ (n_ (xu.lt) ru);have anW:Z≠Y:=u_ (n_ (sV.lt) ru);have⟨vQ,vR,zJ,xw,zq,zu⟩:=rT hb6 uj xG xu vO xH sV;have b14:=eZ hb6 b13 H;have ru:w.heap.size<=Y:=m_ b13.size ru;have zK:=vP.lt;have q1:f1 0=(pt p):=(by rw[hf1]; kernel_rfl);have q3:f1 6=au (d:Int):=(by rw[hf1]; exact(bX (by kernel_rfl)).trans (L_ (Value.int .i64) V));have q4:f1 7=(pt Y):=(by rw[hf1]; kernel_rfl);have q5:f1 8=au ((dn (m.R d) v.o v.dst v.aQ).2):=(by rw[hf1]; kernel_rfl);clear hf1;refine sN<|Ws<|ay<|bf q5 ?_;by_cases Ym:((dn (m.R d) v.o v.dst v.aQ).2)=0
   ·refine Lv aF (jQ Ym)<|aD<|aK<|Wk<|sN ?_;refine jW [0,1,2,3,5,4,6,7,8,9] [0,0,0,0,4,0,4,0,0,3] [(9,4,[4]),(9,6,[6])] fun Da gG nU => ?_;have⟨xA,wE,wF,yc,zW,yg,AZ⟩:=jR gG vQ vR zJ xw zq zu vP;have b15:=eZ gG b14 H;refine bW q1<|aY (pt p)<|aY (pt p)<|aY (pf p 18)<|bW q3<|Rs (.slice m.s.na (m.s.nn) (m.s.nc)) (aM xA.aH 18) ?_;refine Rs (.agg (aA 54 (rv .i64 ((dn (m.R d) v.o v.dst v.aQ).1)))) (fD AZ.aH 0 (ha:=q4)) ?_;refine Rp (pf Z (56*d)) (fun _=>dh 56 (hx:=(rfl.trans (L_ (fun q=>Value.slice q (m.s.nn) (m.s.nc)) Gy))))<|aY (pf Z (56*d+2))<|gQ<|zR yg (56*d+2) fun w9 Ay s13 z3 => ?_;have ku:=gP s13 yg.Kc;have⟨zX,zY,A8,ET,DT⟩:=qV ku xA wE wF yc zW;have b16:=s13.below b15 (m_ H b15.size) yg.blk.1;have Dc:Fx.Own w9 B 84 56 (bO Z m.s.nn m.s.nc) m.s.nn (flat 56 (fun O=>mG (m.id O) (m.par O) (aI m.R d ((dn (m.R d) v.o v.dst v.aQ).1) O))):=Ay.congr (fun pq hp=>(Fx.BK (k:=d) (j:=2) (by omega) (by omega) pq hp).trans (bJ (fun i hi j hj=>Cn (r:=(dn (m.R d) v.o v.dst v.aQ).1) (q:=d) (id:=m.id) (par:=m.par) (R:=m.R) i hi j hj) pq hp));refine Ln<|Rn<|bR<|sN<|ay<|av (au 0)<|aD<|Wr<|aJ (au 0) ?_;have P:aL v=a:=(by unfold aL; omega);have eto : ¬ (v.dst<1\/6<v.dst\/m.core.inn (v.dst-1).toNat=false):=fun h=>h.elim c83 (fun h=>h.elim c87 (fun h=>by rw[show(v.dst-1).toNat=J by omega]at h; rw[show m.core.inn J=true from Yl]at h; cases h))
    have eW:yx m.core v=dn (m.R d) v.o v.dst v.aQ:=(by unfold yx; rw[ekN]; rfl);have Ae:Fx.Own w9 B 84 56 (.slice m.s.na (m.s.nn) (m.s.nc)) m.s.nn (flat 56 (fun O=>mG (m.id O) (m.par O) (aI m.R d ((dn (m.R d) v.o v.dst v.aQ).1) O))):=Dc.fH (L_ (fun q=>Value.slice q m.s.nn m.s.nc) Gy.symm);have A:dY m.core v=0:=(by unfold dY; rw[b_ F,b_ G,b_ K,b_ N,d_ U]; unfold oZ; rw[b_ (show ¬ m.core.node v.node<0 from c80),b_ eto,eW]; exact Ym);refine⟨pU A.symm,b16,fun _=>⟨{ m with R:=aI m.R d (dn (m.R d) v.o v.dst v.aQ).1 },by symm; unfold gY; rw[b_ F,b_ G,b_ K,b_ N,d_ U]; unfold FB; rw[ekN,eW]; rfl,?_⟩⟩;exact { c:=zX,n:=Ae,g:=zY,tc:=A8,t:=ET,r:=DT,pB:=Ul,tB:=DU,bn:=bn,bg:=bg,bt:=bt,br:=S.br }
   refine Lv aG (nk Ym)<|aD<|aO<|ay<|bf q5<|av (au ((dn (m.R d) v.o v.dst v.aQ).2))<|aD<|Wr<|sR<|bL<|sR<|aJ (au ((dn (m.R d) v.o v.dst v.aQ).2)) ?_;have P:aL v=a:=(by unfold aL; omega);have eto : ¬ (v.dst<1\/6<v.dst\/m.core.inn (v.dst-1).toNat=false):=fun h=>h.elim c83 (fun h=>h.elim c87 (fun h=>by rw[show(v.dst-1).toNat=J by omega]at h; rw[show m.core.inn J=true from Yl]at h; cases h))
   have eW:yx m.core v=dn (m.R d) v.o v.dst v.aQ:=(by unfold yx; rw[ekN]; rfl);have A:dY m.core v=(dn (m.R d) v.o v.dst v.aQ).2:=(by unfold dY; rw[b_ F,b_ G,b_ K,b_ N,d_ U]; unfold oZ; rw[b_ (show ¬ m.core.node v.node<0 from c80),b_ eto,eW]);exact⟨pU A.symm,b14,fun E=>by rw[A]at E; exact M_ E Ym⟩
  rw[T_]at Yl;refine Qv aF (fun l f=>aM (nJ.aH.dr f) J ((kF _ (by omega) (Ad _ (by omega))).trans (L_ Value.bool Yl)))<|aX aG<|aX aG<|Qn ?_;rintro _ ⟨L,rfl⟩;obtain⟨wq6,acW⟩ : ∃ l,l=World.drewN M L:=⟨_,rfl⟩;rw[<- acW];have BG:Stp M.heap.size M wq6:=by rw[acW]; exact Sb (je M L)
  have b17:=eZ BG.old b10 H;clear acW;refine sN<|aO<|ay<|av (au 10)<|aD<|Wr<|sR<|bL<|sR<|aJ (au 10) ?_;have P:aL v=a:=by unfold aL; omega
  have A:dY m.core v=10:=by unfold dY; rw[b_ F,b_ G,b_ K,b_ N,d_ U]; unfold oZ; rw[b_ (show ¬ m.core.node v.node<0 from c80)]; exact d_ (.inr (.inr (by rw[show(v.dst-1).toNat=J by omega]; exact Yl)))
  exact⟨pU A.symm,b17,fun E=>by rw[A]at E; cases E⟩
 refine Lv aF (fO U)<|av aF<|aD<|aK<|ay ?_;by_cases UH:v.kind=6
 ·refine Lv aG (eO UH)<|av aG<|aD<|aO ?_;have aa:=C.c;have ac:=C.n;have ab:=C.g;have ae:=C.tc;have af:=C.t;have ad:=C.r;obtain⟨J,hb9,eb9⟩:=Hw hmay UH;refine jW [0,1,4,5,6,2,3,7,8] [0,0,4,0,0,0,0,0,3] [(8,2,[2])] fun Rv lY AX => ?_;have⟨uo,pX,oV,qE,pY,rz,sH⟩:=jR lY W aa ac ab ae af ad;have b18:=eZ lY X H;refine aY (pt p)<|aY (pf I 10)<|aY (pt p)<|aY (pt p)<|aY (pt p)<|Rs (au v.dst) (aM uo.aH 10) ?_;refine Rp (au J) (fun _=>gD)<|Rp (pf p J) (fun _=>jM 6 1)<|gQ<|jg pX J aG fun sO vg s16 z4 => ?_;have rX:=gP s16 pX.ty;have⟨uq,zw,vk,zx,Cg⟩:=qV rX oV qE pY rz sH;have b19:=s16.below b18 (m_ H b18.size) (by omega);refine Ln<|Rn<|bR<|sN<|ay<|av (au 0)<|aD<|Wr<|aJ (au 0) ?_;have P:aL v=a:=by unfold aL; omega
  have A:dY m.core v=0:=by unfold dY; rw[b_ F,b_ G,b_ K,b_ N,b_ U]
  refine⟨pU A.symm,b19,fun _=>⟨{ m with s := { m.s with inn:=aI m.s.inn J true } },by symm; unfold gY; rw[b_ F,b_ G,b_ K,b_ N,b_ U,d_ UH]; rw[show(v.dst-1).toNat=J by omega]; rfl,?_⟩⟩;exact { c:=vg.to (Yk m hb9),n:=uq,g:=zw,tc:=vk,t:=zx,r:=Cg,pB:=Ul,tB:=DU,bn:=bn,bg:=bg,bt:=bt,br:=S.br }
 refine Lv aF (fO UH)<|av aF<|aD<|aK<|ay<|Lv aG afA<|av aG<|aD<|aO ?_;have aa:=C.c;have ac:=C.n;have ab:=C.g;have ae:=C.tc;have af:=C.t;have ad:=C.r;refine jW [0,1,4,5,6,2,3,7,8] [0,0,4,0,0,0,0,0,3] [(8,2,[2])] fun wt4 qJ G9 => ?_;have⟨xI,uw,qF,yt,yu,uy,Ch⟩:=jR qJ W aa ac ab ae af ad;have b20:=eZ qJ X H;refine aY (pt p)<|aY (pt I)<|aY (pt p)<|aY (pt p)<|aY (pf p 6)<|Rs (au v.o) (aM xI.aH 0) ?_;refine Rp (au a) (fun _=>gD)<|Rp (pf p (a+6)) (fun _=>jM 6 1)<|gQ<|jg uw (a+6) aG fun Gi Jh Mq z5 => ?_;have zV:=gP Mq uw.ty;have⟨Bc,E9,Gv,Ci,Af⟩:=qV zV qF yt yu uy Ch;have Qb:=Mq.below b20 (m_ H b20.size) (by omega);refine Ln<|Rn<|bR<|sN<|ay<|av (au 0)<|aD<|Wr<|aJ (au 0) ?_;have P:aL v=a:=by unfold aL; omega
 have A:dY m.core v=0:=by unfold dY; rw[b_ F,b_ G,b_ K,b_ N,b_ U]
 refine⟨pU A.symm,Qb,fun _=>⟨{ m with s := { m.s with left:=aI m.s.left a true } },by symm; unfold gY; rw[b_ F,b_ G,b_ K,b_ N,b_ U,b_ UH]; rw[P]; rfl,?_⟩⟩;exact { c:=Jh.to (UG m ha rfl),n:=Bc,g:=E9,tc:=Gv,t:=Ci,r:=Af,pB:=Ul,tB:=DU,bn:=bn,bg:=bg,bt:=bt,br:=S.br }
namespace Rt
structure acX(L:eY)(T:Nat):Prop where
 nn:L.nn<=33
 gn:L.gn<=T
 rn : ∀ i,i<6->L.rn i<=T
 tn : ∀ x,L.node x=bF L.t L.tn x
 dx : ∀ x,∃ D,D<=1000/\bF L.t L.tn (aT L.t L.tn D x)<0
 may : ∀ k,k<L.nn->may (L.R k)=true
 kn:BX L.known
open Classical in
noncomputable def bA(L:eY)(v:EvM):Int :=
 if bQ v=false then 1 else if jY L.known v=true then 14 else if dz L.known v=false then 13 else if L.inn (aL v)=false\/L.left (aL v)=true then 10 else dY L v
def Hy(L:eY)(v:EvM):eY := { L with known:=aI L.known (aL v) (L.known (aL v)+1) }
open Classical in
noncomputable def bV(L:eY)(v:EvM):eY:=if bA L v=0 then Hy (gY L v) v else L
theorem qb(L:eY)(v:EvM):(gY L v).known=L.known:=by
 unfold gY;split; · unfold qD; rfl
 split; · unfold Fz; rfl
 split; · unfold mE qG; rfl
 split; · unfold kJ qG; rfl
 split; · unfold FB; rfl
 split <;> rfl
end Rt
set_option maxRecDepth 20000 in
set_option maxHeartbeats 2000000 in
theorem OY(m:kR)(B p T:Nat)(v:EvM)(w:World)(L:um w B p m)(z:gu v)(I:acX m.core T)(hT:T<=900000) :
 Calls Tryz.prog 44 #[(pt p),.agg (aA 14 (bM v))] w fun e w' => ∃ p' m',e = .returned (.tuple #[(pt p'),au (bA m.core v)])/\m'.core=bV m.core v/\um w' B p' m'/\Below w.heap.size w w':=by
 have O:=L.c;have lpp:p<w.heap.size:=O.lt;have hpB:=L.pB;refine Kent Tryz.func44 73 ?_;refine ay<|pR fun g1 w1 mo U s1 z1 => ?_;have⟨F,d,Y⟩:=iy s1.old L O (Below.refl w.heap.size w);have sM:=gT mo;have Ue:=cK mo O.lt;have ug:=U.lt;refine av (.pointer none)<|av (au 0)<|aD<|Ws<|ay<|Lv (.agg (aA 14 (bM v))) (fD U.aH 0) ?_;by_cases l:(bQ v)=true
 ·refine dJ (Hf v _ z) aG (by rw[l]) ?_;intro w2 hb1;have⟨m4,m5,m6,Z⟩:=kV hb1 F d U Y;refine av aF<|aD<|aK<|Wk<|sN<|Ws<|Ws ?_;refine nu<|aX (pt p)<|aX (pt p)<|aX (pt p)<|aX (pf p 12)<|Qv (.agg (aA 6 (rv .u64 m.s.known))) (fun W A=>fD (m5.cb A) 12 (fun j S=>kF _ (by omega) (jO _ S (by omega))))<|Qv (.agg (aA 14 (bM v))) (fun W A=>fD (m6.cb A) 0) ?_;by_cases u:(jY m.s.known v)=true
  ·refine zm (fun _ _=>TL m.s.known v _ z) aG (by rw[u])<|Qn ?_;intro Xz tK;have⟨m7,b3⟩:=fq tK m4 Z;refine sN<|aO<|ay<|av (pt p)<|av (pt p)<|av (au 14)<|aD<|Wr<|sR<|aJ (.tuple #[(pt p),au 14]) ?_;have b:bA m.core v=14:=(by unfold bA; rw[b_ (by rw[l]; decide)]; exact d_ u);have q:bV m.core v=m.core:=(by unfold bV; rw[b_ (by rw[b]; decide)]);exact⟨p,m,by rw[b],q.symm,m7,b3⟩
  rw[T_]at u;refine zm (fun _ _=>TL m.s.known v _ z) aF (by rw[u])<|Qn ?_;intro Z7 xg;have⟨m10,m11,m12,b4⟩:=kV xg m4 m5 m6 Z;refine sN<|aK<|Wk<|sN<|Ws<|Ws ?_;refine nu<|aX (pt p)<|aX (pt p)<|aX (pt p)<|aX (pf p 12)<|Qv (.agg (aA 6 (rv .u64 m.s.known))) (fun W A=>fD (m11.cb A) 12 (fun j S=>kF _ (by omega) (jO _ S (by omega))))<|Qv (.agg (aA 14 (bM v))) (fun W A=>fD (m12.cb A) 0) ?_;by_cases x:(dz m.s.known v)=true
  ·refine zm (fun _ _=>OD m.s.known v _ z I.kn) aG (by rw[x])<|aX aF<|Qn ?_;intro N xk;have⟨K,M,m15,G⟩:=kV xk m10 m11 m12 b4;refine sN<|aK<|Wk<|sN<|Ws ?_;obtain⟨a,P,ho⟩:=eU (iV l);refine Wl<|av (pt g1)<|Lv (au v.o) (aM m15.aH 0)<|Lv (au a) gD<|av (au a)<|aD<|Ws<|ay<|av (pt p)<|av (au a)<|av (pt p)<|av (pt p)<|av (pt p)<|Lv (pf p a) (jM 6 1) ?_;by_cases C:(m.s.inn a)=true
   ·refine Lv aG (aM M.aH a ((kF _ (by omega) (Ad _ (by omega))).trans (L_ Value.bool C)))<|av aF<|av aF<|av (pt p)<|av (au a)<|av (pt p)<|av (pt p)<|av (pf p 6)<|Lv (pf p (a+6)) (jM 6 1) ?_;by_cases D:(m.s.left a)=true
    ·refine Lv aG (aM M.aH (a+6) ((kF _ (by omega) (Ba _ (by omega) (by omega))).trans (L_ Value.bool D)))<|av aG<|aD<|aO<|ay<|av (pt p)<|av (pt p)<|av (au 10)<|aD<|Wr<|sR<|aJ (.tuple #[(pt p),au 10]) ?_;have y:aL v=a:=(by unfold aL; omega);have b:bA m.core v=10:=(by unfold bA; rw[b_ (by rw[l]; decide),b_ (by rw[show jY m.core.known v=false from u]; decide),b_ (by rw[show dz m.core.known v=true from x]; decide),y]; exact d_ (.inr D));have q:bV m.core v=m.core:=(by unfold bV; rw[b_ (by rw[b]; decide)]);exact⟨p,m,by rw[b],q.symm,K,G⟩
    rw[T_]at D;refine Lv aF (aM M.aH (a+6) ((kF _ (by omega) (Ba _ (by omega) (by omega))).trans (L_ Value.bool D)))<|av aF<|aD<|aK<|Wk<|sN<|ay<|av (pt p)<|mh (aco m p _ K.ldg (by have:=I.nn; have e:m.core.nn=m.s.nn:=rfl; omega) K.bt) ?_;rintro e w3 ⟨f,F,J,R,hL2,Q⟩;refine⟨(pt f),J,?_⟩;clear J;have⟨m18,b6⟩:=fq Q m15 G;have E:acX F.core T:=(by rw[R]; exact I);refine av (pt f)<|aD<|Ws ?_;have anY:=hL2;refine Wl<|av (pt f)<|Lv (.agg (aA 14 (bM v))) (fD m18.aH 0)<|mh (acU F N.heap.size f a v _ anY Q.size P ho (by have h9:F.s.nn<=33:=E.nn; omega) (m_ E.gn hT) (fun i hi=>m_ (E.rn i hi) hT) E.tn E.dx z l E.may) ?_;rintro e X ⟨J,hbd,hL3⟩;refine⟨au (dY m.core v),by rw[<- R]; exact J,?_⟩;clear J;rw[R]at hL3;have b8:Below N.heap.size N X:=Q.trans hbd;have b7:Below w.heap.size w X:=b6.trans (hbd.mono (m_ (A_ _) G.size));have m19:um X B p m:=K.up b8;refine av (au (dY m.core v))<|aD<|Ws<|ay<|av (au (dY m.core v)) ?_;by_cases H:(dY m.core v)=0
    ·refine Lv aF (jQ H)<|aD<|aK<|Wk<|sN<|Ws ?_;obtain⟨d,hc3,k⟩:=hL3 H;have hMc:=k.c;have hMn:=k.n;have hMg:=k.g;have hMt:=k.tc;have aoa:=k.t;have hMr:=k.r;have ek3:d.s.known=m.s.known:=(by show d.core.known=_; rw[hc3,qb]; rfl);have hk3:=I.kn a P;have hk3:0<=d.s.known a/\d.s.known a<1099511627776:=(by rw[ek3]; exact hk3);have lp2:=k.pB;have sw1:=G.size;refine jW [0,1,2,3,4,5,8,9,10,6,7,11,12] [0,0,0,0,0,0,4,0,0,0,0,0,3] [(12,6,[6])] fun qA dP iE => ?_;have⟨V,m21,m22,m23,m24,mQ,b9⟩:=jR dP hMc hMn hMg hMt aoa hMr b7;refine aY (pt f)<|aY (au a)<|aY (pt f)<|aY (pt f)<|aY (pf f 12)<|Rp (pf f (a+12)) (fun _=>jM 6 1)<|aY (pt f)<|aY (pt f)<|aY (pf f 12)<|Rs (aC (d.s.known a)) (aM V.aH (a+12) (kF _ (by omega) (jO _ (by omega) (by omega)))) ?_;refine Rp (aC (d.s.known a+1)) (fun _=>fC)<|Rp (pf f (a+12)) (fun _=>jM 6 1)<|gQ<|jg V (a+12) (aC (d.s.known a+1)) fun w5 nH s8 z2 => ?_;have gV:=gP s8 V.ty;have⟨oq,oL,oM,oC,mI⟩:=qV gV m21 m22 m23 m24 mQ;have b10:=s8.below b9 b9.size (by omega);refine Ln<|bS<|ay<|av (pt f)<|av (pt f)<|av (au 0)<|aD<|Wr<|aJ (.tuple #[(pt f),au 0]) ?_;have y:aL v=a:=(by unfold aL; omega);have b:bA m.core v=0:=by unfold bA; rw[b_ (by rw[l]; decide),b_ (by rw[show jY m.core.known v=false from u]; decide),b_ (by rw[show dz m.core.known v=true from x]; decide),y]; rw[b_ (show ¬ (m.core.inn a=false\/m.core.left a=true)from fun h=>h.elim (fun h=>by rw[show m.core.inn a=true from C]at h; cases h) (fun h=>by rw[show m.core.left a=false from D]at h; cases h))]; exact H
     have hfin:um w5 N.heap.size f { d with s := { d.s with known:=aI d.s.known a (d.s.known a+1) } } := { c:=nH.to (QH d P rfl _),n:=oq,g:=oL,tc:=oM,t:=oC,r:=mI,pB:=k.pB,tB:=k.tB,bn:=k.bn,bg:=k.bg,bt:=k.bt,br:=k.br };refine⟨f,{ d with s := { d.s with known:=aI d.s.known a (d.s.known a+1) } },by rw[b],?_,hfin.mono (by have:=L.pB; have:=lpp; omega),b10⟩;unfold bV; rw[d_ b]; unfold Hy; rw[y,qb,<- hc3,show m.core.known=d.s.known from ek3.symm]; rfl
    refine Lv aG (nk H)<|aD<|aO<|ay<|av (pt p)<|av (au (dY m.core v))<|av (pt p)<|av (au (dY m.core v))<|aD<|Wr<|sR<|aJ (.tuple #[(pt p),au (dY m.core v)]) ?_;have y:aL v=a:=(by unfold aL; omega);have b:bA m.core v=dY m.core v:=by unfold bA; rw[b_ (by rw[l]; decide),b_ (by rw[show jY m.core.known v=false from u]; decide),b_ (by rw[show dz m.core.known v=true from x]; decide),y]; rw[b_ (show ¬ (m.core.inn a=false\/m.core.left a=true)from fun h=>h.elim (fun h=>by rw[show m.core.inn a=true from C]at h; cases h) (fun h=>by rw[show m.core.left a=false from D]at h; cases h))]
    have q:bV m.core v=m.core:=(by unfold bV; rw[b_ (by rw[b]; exact H)]);exact⟨p,m,by rw[b],q.symm,m19,b7⟩
   rw[T_]at C;refine Lv aF (aM M.aH a ((kF _ (by omega) (Ad _ (by omega))).trans (L_ Value.bool C)))<|av aG<|av aG<|dB<|dB<|dB<|dB<|dB<|dB<|dB<|av aG<|aD<|aO<|ay<|av (pt p)<|av (pt p)<|av (au 10)<|aD<|Wr<|sR<|aJ (.tuple #[(pt p),au 10]) ?_;have y:aL v=a:=(by unfold aL; omega);have b:bA m.core v=10:=(by unfold bA; rw[b_ (by rw[l]; decide),b_ (by rw[show jY m.core.known v=false from u]; decide),b_ (by rw[show dz m.core.known v=true from x]; decide),y]; exact d_ (.inl C));have q:bV m.core v=m.core:=(by unfold bV; rw[b_ (by rw[b]; decide)]);exact⟨p,m,by rw[b],q.symm,K,G⟩
  rw[T_]at x;refine zm (fun _ _=>OD m.s.known v _ z I.kn) aF (by rw[x])<|aX aG<|Qn ?_;intro wb4 AY;have⟨m32,b11⟩:=fq AY m10 b4;refine sN<|aO<|ay<|av (pt p)<|av (pt p)<|av (au 13)<|aD<|Wr<|sR<|aJ (.tuple #[(pt p),au 13]) ?_;have b:bA m.core v=13:=by unfold bA; rw[b_ (by rw[l]; decide),b_ (by rw[show jY m.core.known v=false from u]; decide)]; exact d_ x
  have q:bV m.core v=m.core:=by unfold bV; rw[b_ (by rw[b]; decide)]
  exact⟨p,m,by rw[b],q.symm,m32,b11⟩
 rw[T_]at l;refine dJ (Hf v _ z) aF (by rw[l]) ?_;intro w6 hb2;have⟨qC,b12⟩:=fq hb2 F Y;refine av aG<|aD<|aO<|ay<|av (pt p)<|av (pt p)<|av (au 1)<|aD<|Wr<|sR<|aJ (.tuple #[(pt p),au 1]) ?_;have b:bA m.core v=1:=by unfold bA; exact d_ l
 have q:bV m.core v=m.core:=by unfold bV; rw[b_ (by rw[b]; decide)]
 exact⟨p,m,by rw[b],q.symm,qC,b12⟩
end Go.Proofs.YtcbedgfikejkoaaGreatDoor
