/-
  What the proof of the law rests on, part 4: walks of functions, and plain laws; each says its conditions itself.
-/
import Derived.Laws.StructEq
import Derived.Test.YtahbiajdgealnaaDoorZC3
set_option maxHeartbeats 1600000
set_option linter.unusedVariables false
set_option linter.unusedSimpArgs false
namespace Go.Proofs.YtahbiajdgealnaaDoor
open Go.RowKit Rt
open Fx (fI fq fP bF gX gW dA dY gP jE eZ jF gy jv jG Lv sN Ln Ws Qv Wl Rp Wc Qs Wr Sb Lk Wk rC rV sR Rs Rn Rd Rk Wb Wx Wo FQ Wt rT Qn F3 Bl Af Ar DI Ei rM gK Av mV wI uT wX xX Aq DL Au rv aA aQ bR aN ev bZ Stp dJ aR flat dD Mp fA aU iR iQ bJ down iI jM iT nY bP bL cells_one jl bS wQ unseen jN iK bX dH bI bT cK cO gU iB qo gu)
namespace Rt
def BH(t:Nat->Nat->Int)(n k:Nat):Nat->Nat->Int:=fun i=>if i<=k then(if i<n then t i else fun _=>0)else t (i-1)
def oF(t:Nat->Nat->Int)(k:Nat)(id par:Int):Nat->Nat->Int:=fun i=>if i<k then t i else if i=k then(fun j=>if j=0 then id else par)else t (i-1)
theorem tF{w:World}{B tb tn tc:Nat}{ta:Option Addr}{t:Nat->Nat->Int}(b:aQ w tb 1 (fun _ => .slice ta tn tc) 111)(a:Fx.Own w B 172 2 (.slice ta tn tc) tn (rv .u64 (kK t)))(j:tn<=1000):ED w tb ta tn tc t where
 tc:=b.aH
 t:=fun k h=>by
  obtain⟨g,d,e,_,_,_,c⟩:=a.form (by omega);simp only[Value.slice.injEq,true_and]at e;refine⟨g,0,e.1,fun i f => ?_⟩;have:=c (2*k+i) (by omega);rw[E_]at this;rw[E_,this];show some (Value.int .u64 (t ((2*k+i) / 2) ((2*k+i) % 2)))=some (Value.int .u64 (t k i));rw[show(2*k+i) / 2=k by omega,show(2*k+i) % 2=i by omega]
 bt:=by omega
theorem wY(t:Nat->Nat->Int)(n:Nat) : ∀ j,j<(n+1)*2->iK (rv .u64 (kK t)) (n*2) (bR (fun j=>rv .u64 (fun _=>0) (j % 2)) (0*2) 2 (rv .u64 (fun _=>0))) j=rv .u64 (kK (BH t n n)) j:=fun j a=>by
 unfold iK;by_cases h:j<n*2
 ·rw[d_ h];show Value.int .u64 (t (j / 2) (j % 2))=Value.int .u64 (BH t n n (j / 2) (j % 2));unfold BH; rw[d_ (by omega),d_ (by omega)]
 ·rw[b_ h];unfold bR; rw[d_ (by omega)];show Value.int .u64 0=Value.int .u64 (BH t n n (j / 2) (j % 2));unfold BH; rw[d_ (by omega),b_ (by omega)]
theorem zm{t:Nat->Nat->Int}{n k j p:Nat}(a:p=2*j)(h:j<k)(b:k<=n):rv .u64 (kK (BH t n k)) p=aC (t j 0):=by
 subst a;show Value.int .u64 (BH t n k (2*j / 2) (2*j % 2))=_;unfold BH; rw[d_ (by omega),d_ (by omega),show 2*j / 2=j by omega,show 2*j % 2=0 by omega]
theorem TA{t:Nat->Nat->Int}{n k j i:Nat}(h:j<k)(a:k<=n)(hi:i<2):rv .u64 (kK (BH t n k)) (2*j+i)=rv .u64 (t j) i:=by
 show Value.int .u64 (BH t n k ((2*j+i) / 2) ((2*j+i) % 2))=Value.int .u64 (t j i);unfold BH; rw[d_ (by omega),d_ (by omega),show(2*j+i) / 2=j by omega,show(2*j+i) % 2=i by omega]
theorem xZ{t:Nat->Nat->Int}{n k j:Nat}(e:k=j+1)(_hk:k<=n) : ∀ p,p<(n+1)*2->bR (rv .u64 (kK (BH t n k))) (2*k) 2 (rv .u64 (t j)) p=rv .u64 (kK (BH t n j)) p:=fun p b=>by
 unfold bR;by_cases h:2*k<=p/\p<2*k+2
 ·rw[d_ h];show Value.int .u64 (t j (p-2*k))=Value.int .u64 (BH t n j (p / 2) (p % 2));unfold BH; rw[b_ (by omega),show p / 2-1=j by omega,show p-2*k=p % 2 by omega]
 ·rw[b_ h];show Value.int .u64 (BH t n k (p / 2) (p % 2))=Value.int .u64 (BH t n j (p / 2) (p % 2));unfold BH;by_cases a:p / 2<=j
  ·rw[d_ (by omega),d_ a]
  ·rw[b_ (by omega),b_ a]
theorem sJ{t:Nat->Nat->Int}{n k:Nat}{id par:Int}(_hk:k<=n) : ∀ p,p<(n+1)*2->bR (rv .u64 (kK (BH t n k))) (2*k) 2 (bR (bR (rv .u64 (fun _=>0)) 0 1 (fun _=>aC id)) 1 1 (fun _=>aC par)) p=rv .u64 (kK (oF t k id par)) p:=fun p c=>by
 by_cases h:2*k<=p/\p<2*k+2
 ·rw[bR,d_ h];show _=Value.int .u64 (oF t k id par (p / 2) (p % 2));unfold oF; rw[b_ (by omega),d_ (by omega)];by_cases b:p=2*k
  ·subst b; rw[show 2*k-2*k=0 by omega,d_ (by omega)]; rfl
  ·rw[show p-2*k=1 by omega,b_ (by omega)]; rfl
 ·rw[bR,b_ h];show Value.int .u64 (BH t n k (p / 2) (p % 2))=Value.int .u64 (oF t k id par (p / 2) (p % 2));unfold BH oF;by_cases a:p / 2<k
  ·rw[d_ (by omega),d_ (by omega),d_ a]
  ·rw[b_ (by omega),b_ a,b_ (by omega)]
def CB(t:Nat->Nat->Int)(tn:Nat)(x:Int):Prop := ∀ i,i<4->0<=bB t tn (aW t tn i x)
theorem Ku{t:Nat->Nat->Int}{tn K:Nat}{x:Int}(h : ∀ i,i<K->0<=bB t tn (aW t tn i x))(a:4<=K):CB t tn x:=fun i b=>h i (by omega)
theorem DX{t:Nat->Nat->Int}{tn K:Nat}{x:Int}(h:bB t tn (aW t tn K x)<0)(a:K<4) : ¬ CB t tn x:=fun b=>by have:=b K a; omega
open Classical in
noncomputable def jk(t:Nat->Nat->Int)(tn:Nat)(id par:Int):Int:=if id=0 then 1 else if 0<=bB t tn id then 14 else if par≠0/\bB t tn par<0 then 9 else if 32<=tn\/CB t tn par then 6 else 0
theorem Oe{t:Nat->Nat->Int}{n k j:Nat}{id:Int}(e:k=j+1)(h : ∀ i,k<=i->i<n->id<t i 0)(c:id<t j 0) : ∀ i,j<=i->i<n->id<t i 0:=fun i d b=>by
 by_cases a:i=j
 ·subst a; exact c
 ·exact h i (by omega) b
end Rt
set_option maxRecDepth 10000 in
theorem aeV(B:Nat)(tb:Nat)(ta:Option Addr)(tn tc:Nat)(t:Nat->Nat->Int)(id par:Int)(D:Nat)(w:World)(P:aQ w tb 1 (fun _ => .slice ta tn tc) 111)(X:Fx.Own w B 172 2 (.slice ta tn tc) tn (rv .u64 (kK t)))(hne:(Value.slice ta tn tc).ownBlock≠some tb)(hB:B<=w.heap.size)(Q:tn<=1000)(hD:bB t tn (aW t tn D par)<0)(hD2:D<=1000) :
 Calls Tryd.prog 85 #[(pt tb),aC id,aC par] w fun e w'=>e = .returned (au (jk t tn id par))/\jM (fun k=>k=tb\/(Value.slice ta tn tc).ownBlock=some k) w w'/\((jk t tn id par≠0/\aQ w' tb 1 (fun _ => .slice ta tn tc) 111/\Fx.Own w' B 172 2 (.slice ta tn tc) tn (rv .u64 (kK t)))\/(jk t tn id par=0 /\ ∃ g cap,aQ w' tb 1 (fun _=>bK g (tn+1) cap) 111/\Fx.Own w' B 172 2 (bK g (tn+1) cap) (tn+1) (rv .u64 (kK (oF t (down (fun i=>decide (id<t i 0)) tn) id par)))/\(Value.slice (some ⟨g,0,none⟩) (tn+1) cap).ownBlock≠some tb)):=by
 have lp:tb<w.heap.size:=P.lt;refine Kent Tryd.func85 89 ?_;refine ay<|av (au 0)<|aD<|Ws<|ay<|av (aC id) ?_;by_cases q:id=0
 ·refine Lv aG (eY q)<|aD<|aO<|ay<|av (au 1)<|aD<|Wr<|sR<|aJ (au 1) ?_;have c:jk t tn id par=1:=by unfold jk; rw[d_ q]
  exact⟨oV c.symm,(uT (fun k=>k=tb\/(Value.slice ta tn tc).ownBlock=some k) w),.inl ⟨by rw[c]; decide,P,X⟩⟩
 refine Lv aF (fU q)<|aD<|aL<|Wk<|sN<|Ws<|ay<|av (pt tb)<|av (aC id) ?_;by_cases p:(decide (0<=bB t tn id))=true
 ·refine dL (Od tb ta tn tc t id _ (tF P X Q)) aG (by rw[p]) ?_;intro w1 hb1;have s1:=Sb hb1;have⟨m1,m2⟩:=eU hb1 P X;have b1:=(uT (fun k=>k=tb\/(Value.slice ta tn tc).ownBlock=some k) w).then s1 (.inr (uT (fun k=>k=tb\/(Value.slice ta tn tc).ownBlock=some k) w).size);refine aD<|aO<|ay<|av (au 14)<|aD<|Wr<|sR<|aJ (au 14) ?_;have c:jk t tn id par=14:=by unfold jk; rw[b_ q,d_ (h_ p)]
  exact⟨oV c.symm,b1,.inl ⟨by rw[c]; decide,m1,m2⟩⟩
 rw[S_]at p;refine dL (Od tb ta tn tc t id _ (tF P X Q)) aF (by rw[p]) ?_;intro w2 hb2;have s2:=Sb hb2;have⟨E,L⟩:=eU hb2 P X;have F:=(uT (fun k=>k=tb\/(Value.slice ta tn tc).ownBlock=some k) w).then s2 (.inr (uT (fun k=>k=tb\/(Value.slice ta tn tc).ownBlock=some k) w).size);refine aD<|aL<|Wk<|sN<|Ws<|ay<|av (aC par) ?_;by_cases G:par=0
 ·refine Lv aF (jH G)<|av aF<|dB<|dB<|dB<|dB<|av aF<|aD<|aL<|Wk<|sN<|Ws<|ay<|av (pt tb)<|av (pt tb)<|av (pt tb)<|Lv (.slice ta (tn) (tc)) (aM E.aH 0)<|av (au tn) ?_;by_cases T:32<=(tn:Int)
  ·refine Lv aG (ko T)<|av aG<|dB<|dB<|dB<|dB<|dB<|av aG<|aD<|aO<|ay<|av (au 6)<|aD<|Wr<|sR<|aJ (au 6) ?_;have c:jk t tn id par=6:=(by unfold jk; rw[b_ q,b_ (j_ p),b_ (fun h=>h.1 G),d_ (.inl (by omega))]);exact⟨oV c.symm,F,.inl ⟨by rw[c]; decide,E,L⟩⟩
  refine Lv aF (jT T)<|av aF<|av (pt tb)<|av (aC par)<|lS (IY tb ta tn tc t par D _ (tF E L Q) hD hD2) ?_;rintro e w3 ⟨K,vv,Y,hown,uD,W,hb3⟩;obtain⟨a1,n,rfl⟩:=hown.val;refine⟨.slice a1 K n,Y,?_⟩;clear Y hown;have s3:=Sb hb3;have⟨m5,m6⟩:=eU hb3 E L;have b3:=F.then s3 (.inr F.size);refine av (au K) ?_;by_cases U:4<=(K:Int)
  ·refine Lv aG (ko U)<|av aG<|aD<|aO<|ay<|av (au 6)<|aD<|Wr<|sR<|aJ (au 6) ?_;have c:jk t tn id par=6:=(by unfold jk; rw[b_ q,b_ (j_ p),b_ (fun h=>h.1 G),d_ (.inr (Ku uD (by omega)))]);exact⟨oV c.symm,b3,.inl ⟨by rw[c]; decide,m5,m6⟩⟩
  refine Lv aF (jT U)<|av aF<|aD<|aL<|Wk<|sN<|ay<|av (pt tb)<|av (pt tb)<|av (pt tb)<|Lv (.slice ta (tn) (tc)) (aM m5.aH 0)<|av (au tn)<|av (au tn)<|aD<|ay<|av (pt tb)<|av (pt tb)<|av (pt tb)<|av (pt tb)<|Lv (.slice ta (tn) (tc)) (aM m5.aH 0)<|av (.agg (aA 2 (rv .u64 (fun _=>0))))<|Af (vs := [(0,.agg (aA 2 (rv .u64 (fun _=>0))))]) (s:=2) (zc:=rv .u64 (fun _=>0)) (y:=bR (fun j=>(rv .u64 (fun _=>0)) (j % 2)) (0*2) 2 (rv .u64 (fun _=>0))) (by rfl) rfl rfl Tryd.underlying109 (by kernel_rfl) (by rfl) (by rfl) (by kernel_rfl) (by rw[bJ (off:=0*2) (s:=2) (y:=rv .u64 (fun _=>0)) rfl (bL _ _) (by rfl)]; rfl) rfl fun g1 w4 mR m7 s4 z1 => ?_;have⟨m8,m9⟩:=eU s4.old m5 m6;have b4:=b3.then s4 (.inr b3.size);have sO:=jc mR b3.size;have Kt:=cu mR m5.lt;have aeW:(.slice ta tn tc:Value).ownBlock≠some g1:=by rw[mR]; exact m6.mH (z_ _)
  have uo:=m7.lt;refine Ar (B:=B) (s:=2) (bytes:=16) (k:=tn) (m:=1) (v := .slice ta tn tc) (by rfl) rfl rfl rfl Tryd.underlying109 (by kernel_rfl) (by kernel_rfl) rfl rfl m9 m7.aH (fun j Z=>by rcases j with _|_|j <;> first|rfl|omega) (by omega) (by omega) (by omega) (m_ hB b4.size) fun d n w5 ho1 hg1 wJ hlt1 => ?_
  have m11:aQ w5 tb 1 (fun _ => .slice ta tn tc) 111:=m8.grown hg1 hne;have aeX:tb≠d:=fun e=>wJ.elim (fun x=>hne (by rw[x,e])) (fun x=>by have:=m8.lt; omega);have m10:Fx.Own w5 B 172 2 (bK d (tn+1) n) (tn+1) (rv .u64 (kK (BH t tn tn))):=ho1.congr (wY t tn);have b5:jM (fun k=>k=tb\/(Value.slice ta tn tc).ownBlock=some k) w w5:=Fx.jM.grow b4 hg1 (fun k e => .inl (.inr e));have aaO:(fun k=>k=tb\/(Value.slice ta tn tc).ownBlock=some k) d\/w.heap.size<=d:=wJ.elim (fun e => .inl (.inr e)) (fun e => .inr (by rw[e]; exact b4.size));refine av (pt tb)<|av (pt tb)<|iX m11 0 (bK d (tn+1) n) fun w6 m12 s5 z2 => ?_;have m13:aQ w6 tb 1 (fun _=>bK d (tn+1) n) 111:=dH m12;have m14:=m10.ZY s5 (by omega);have b6:=b5.then s5 (.inl (.inl rfl));refine aD<|Ws<|Wb<|Wo (fun f M => ∃ k:Nat,k<=tn/\(∀ i,k<=i->i<tn->id<t i 0)/\f 0=(pt tb)/\f 1=aC id/\f 2=aC par/\f 7=au (k:Int)/\aQ M tb 1 (fun _=>bK d (tn+1) n) 111/\Fx.Own M B 172 2 (bK d (tn+1) n) (tn+1) (rv .u64 (kK (BH t tn k)))/\jM (fun k=>k=tb\/(Value.slice ta tn tc).ownBlock=some k) w M) (fun f _=>(intOf (f 7)).toNat) ⟨tn,by omega,(fun i r N=>L_ r (by omega)),(by rfl),Fx.ic,Fx.ic,Fx.ic,m13,m14,b6⟩ ?_;rintro f1 w7 ⟨k,hk,J,r,N,h3,A,R,m16,b7⟩;refine Ws<|ay<|aY A ?_;by_cases V:0<(k:Int)
  ·obtain⟨j,H⟩ : ∃ j,k=j+1:=⟨k-1,by omega⟩;refine Lv aG (nu V)<|av aG<|aY r<|av (pt tb)<|av (pt tb)<|Lv (bK d (tn+1) n) (aM R.aH 0)<|aY A<|Lv (au j) fQ<|Lv (pf d (2*j)) (dh 2)<|av (pf d (2*j))<|Lv (aC (t j 0)) (aM m16.aH (2*j) (zm (by omega) (by omega) (by omega)))<|aY N ?_;by_cases u:id<(t j 0)
   ·refine Lv aG (nu u)<|av aG<|aD<|aO<|Wk<|sN<|Wb<|Ws ?_;refine Wt 14 (by kernel_rfl) (by kernel_rfl) fun qE dU iC => ?_;have s6:Stp w7.heap.size w7 qE:=Sb dU;have⟨m17,m18⟩:=eU dU R m16;have b8:=b7.then s6 (.inr b7.size);refine rM (pt tb) (RF r)<|Po (pt tb)<|Po (pt tb)<|rM (bK d (tn+1) n) (aM m17.aH 0)<|rM (au k) (RF A)<|rM (pt tb) (RF r)<|Po (pt tb)<|Po (pt tb)<|rM (bK d (tn+1) n) (aM m17.aH 0)<|rM (au k) (RF A)<|rM (au j) fQ<|rM (pf d (2*j)) (dh 2)<|rM (.agg (aA 2 (rv .u64 (t j)))) (fJ m18.aH (2*j) (fun i hi=>TA (by omega) (by omega) hi))<|rM (pf d (2*k)) (dh 2)<|Fx.St.nil ?_;refine zH m18 (2*k) fun w8 m19 s7 z3 => ?_;have m20:=m17.bY s7 (by omega);have b9:=b8.then s7 aaO;have m21:Fx.Own w8 B 172 2 (bK d (tn+1) n) (tn+1) (rv .u64 (kK (BH t tn j))):=m19.congr (xZ H (by omega));refine aD<|Wl<|aY A<|Lv (au j) fQ<|av (au j)<|Ln<|bT<|iB ⟨j,by omega,(Oe H J u),r,(N.trans Fx.ic),(h3.trans Fx.ic),Fx.ic,m20,m21,b9⟩ ?_;show(intOf (au j)).toNat<_;simp only[A,intOf]; omega
   refine Lv aF (ny u)<|av aF<|aD<|aL<|Wx<|cK<|gU<|cO<|sN<|ay<|aY r<|av (pt tb)<|av (pt tb)<|Lv (bK d (tn+1) n) (aM R.aH 0)<|aY A<|aY N<|aY h3<|av (.agg (aA 2 (bR (bR (rv .u64 (fun _=>0)) 0 1 (fun _=>aC id)) 1 1 (fun _=>aC par))))<|Lv (pf d (2*k)) (dh 2)<|zH m16 (2*k) (h1:=(fun j Z=>by rcases j with _|_|j <;> first|rfl|omega)) fun w9 m22 s8 z4 => ?_
   have m23:=R.bY s8 (by omega);have b10:=b7.then s8 aaO;have m24:Fx.Own w9 B 172 2 (bK d (tn+1) n) (tn+1) (rv .u64 (kK (oF t k id par))):=m22.congr (sJ (by omega));refine aD<|ay<|av (au 0)<|aD<|Wr<|aJ (au 0) ?_;have c:jk t tn id par=0:=(by unfold jk; rw[b_ q,b_ (j_ p),b_ (fun h=>h.1 G),b_ (fun h=>h.elim (fun h=>by omega) (DX W (by omega)))]);have I:k=down (fun i=>decide (id<t i 0)) tn:=Fx.oK hk (fun i a b=>f_ (J i a b)) (.inr (fun j e=>by have x:j=_:=Nat.succ.inj (e.symm.trans H); subst x; exact g_ u));exact⟨oV c.symm,b10,.inr ⟨c,d,n,m23,by rw[<- I]; exact m24,fun e=>aeX (B_ e).symm⟩⟩
  refine Lv aF (ny V)<|av aF<|dB<|dB<|dB<|dB<|dB<|dB<|dB<|dB<|dB<|dB<|dB<|av aF<|aD<|aL<|Wx<|cK<|gU<|cO<|sN<|ay<|aY r<|av (pt tb)<|av (pt tb)<|Lv (bK d (tn+1) n) (aM R.aH 0)<|aY A<|aY N<|aY h3<|av (.agg (aA 2 (bR (bR (rv .u64 (fun _=>0)) 0 1 (fun _=>aC id)) 1 1 (fun _=>aC par))))<|Lv (pf d (2*k)) (dh 2)<|zH m16 (2*k) (h1:=(fun j Z=>by rcases j with _|_|j <;> first|rfl|omega)) fun rO mZ s9 z5 => ?_
  have nT:=R.bY s9 (by omega);have b11:=b7.then s9 aaO;have oM:Fx.Own rO B 172 2 (bK d (tn+1) n) (tn+1) (rv .u64 (kK (oF t k id par))):=mZ.congr (sJ (by omega));refine aD<|ay<|av (au 0)<|aD<|Wr<|aJ (au 0) ?_;have c:jk t tn id par=0:=by unfold jk; rw[b_ q,b_ (j_ p),b_ (fun h=>h.1 G),b_ (fun h=>h.elim (fun h=>by omega) (DX W (by omega)))]
  have I:k=down (fun i=>decide (id<t i 0)) tn:=Fx.oK hk (fun i a b=>f_ (J i a b)) (.inl (by omega));exact⟨oV c.symm,b11,.inr ⟨c,d,n,nT,by rw[<- I]; exact oM,fun e=>aeX (B_ e).symm⟩⟩
 refine Lv aG (mX G)<|av aG<|av (pt tb)<|av (aC par) ?_;by_cases z:(decide (0<=bB t tn par))=true
 ·refine dL (Od tb ta tn tc t par _ (tF E L Q)) aG (by rw[z]) ?_;intro F7 hb4;have s10:=Sb hb4;have⟨oN,oZ⟩:=eU hb4 E L;have b12:=F.then s10 (.inr F.size);refine av aF<|av aF<|aD<|aL<|Wk<|sN<|Ws<|ay<|av (pt tb)<|av (pt tb)<|av (pt tb)<|Lv (.slice ta (tn) (tc)) (aM oN.aH 0)<|av (au tn) ?_;by_cases T:32<=(tn:Int)
  ·refine Lv aG (ko T)<|av aG<|dB<|dB<|dB<|dB<|dB<|av aG<|aD<|aO<|ay<|av (au 6)<|aD<|Wr<|sR<|aJ (au 6) ?_;have c:jk t tn id par=6:=(by unfold jk; rw[b_ q,b_ (j_ p),b_ (fun h=>by have:=h_ z; omega),d_ (.inl (by omega))]);exact⟨oV c.symm,b12,.inl ⟨by rw[c]; decide,oN,oZ⟩⟩
  refine Lv aF (jT T)<|av aF<|av (pt tb)<|av (aC par)<|lS (IY tb ta tn tc t par D _ (tF oN oZ Q) hD hD2) ?_;rintro e Cx ⟨K,vv,Y,hown,uD,W,hb5⟩;obtain⟨a1,n,rfl⟩:=hown.val;refine⟨.slice a1 K n,Y,?_⟩;clear Y hown;have s11:=Sb hb5;have⟨qc,lU⟩:=eU hb5 oN oZ;have b13:=b12.then s11 (.inr b12.size);refine av (au K) ?_;by_cases U:4<=(K:Int)
  ·refine Lv aG (ko U)<|av aG<|aD<|aO<|ay<|av (au 6)<|aD<|Wr<|sR<|aJ (au 6) ?_;have c:jk t tn id par=6:=(by unfold jk; rw[b_ q,b_ (j_ p),b_ (fun h=>by have:=h_ z; omega),d_ (.inr (Ku uD (by omega)))]);exact⟨oV c.symm,b13,.inl ⟨by rw[c]; decide,qc,lU⟩⟩
  refine Lv aF (jT U)<|av aF<|aD<|aL<|Wk<|sN<|ay<|av (pt tb)<|av (pt tb)<|av (pt tb)<|Lv (.slice ta (tn) (tc)) (aM qc.aH 0)<|av (au tn)<|av (au tn)<|aD<|ay<|av (pt tb)<|av (pt tb)<|av (pt tb)<|av (pt tb)<|Lv (.slice ta (tn) (tc)) (aM qc.aH 0)<|av (.agg (aA 2 (rv .u64 (fun _=>0))))<|Af (vs := [(0,.agg (aA 2 (rv .u64 (fun _=>0))))]) (s:=2) (zc:=rv .u64 (fun _=>0)) (y:=bR (fun j=>(rv .u64 (fun _=>0)) (j % 2)) (0*2) 2 (rv .u64 (fun _=>0))) (by rfl) rfl rfl Tryd.underlying109 (by kernel_rfl) (by rfl) (by rfl) (by kernel_rfl) (by rw[bJ (off:=0*2) (s:=2) (y:=rv .u64 (fun _=>0)) rfl (bL _ _) (by rfl)]; rfl) rfl fun g3 F8 xE m32 s12 z6 => ?_;have⟨qw,og⟩:=eU s12.old qc lU;have b14:=b13.then s12 (.inr b13.size);have Bz:=jc xE b13.size;have aaP:=cu xE qc.lt;have aaQ:(.slice ta tn tc:Value).ownBlock≠some g3:=by rw[xE]; exact lU.mH (z_ _)
  have IK:=m32.lt;refine Ar (B:=B) (s:=2) (bytes:=16) (k:=tn) (m:=1) (v := .slice ta tn tc) (by rfl) rfl rfl rfl Tryd.underlying109 (by kernel_rfl) (by kernel_rfl) rfl rfl og m32.aH (fun j Z=>by rcases j with _|_|j <;> first|rfl|omega) (by omega) (by omega) (by omega) (m_ hB b14.size) fun l o NY ho2 hg2 TD hlt2 => ?_
  have pV:aQ NY tb 1 (fun _ => .slice ta tn tc) 111:=qw.grown hg2 hne;have aeY:tb≠l:=fun e=>TD.elim (fun x=>hne (by rw[x,e])) (fun x=>by have:=qw.lt; omega);have qG:Fx.Own NY B 172 2 (bK l (tn+1) o) (tn+1) (rv .u64 (kK (BH t tn tn))):=ho2.congr (wY t tn);have b15:jM (fun k=>k=tb\/(Value.slice ta tn tc).ownBlock=some k) w NY:=Fx.jM.grow b14 hg2 (fun k e => .inl (.inr e));have aaR:(fun k=>k=tb\/(Value.slice ta tn tc).ownBlock=some k) l\/w.heap.size<=l:=TD.elim (fun e => .inl (.inr e)) (fun e => .inr (by rw[e]; exact b14.size));refine av (pt tb)<|av (pt tb)<|iX pV 0 (bK l (tn+1) o) fun LK uf s13 z7 => ?_;have rP:aQ LK tb 1 (fun _=>bK l (tn+1) o) 111:=dH uf;have qM:=qG.ZY s13 (by omega);have b16:=b15.then s13 (.inl (.inl rfl));refine aD<|Ws<|Wb<|Wo (fun f M => ∃ k:Nat,k<=tn/\(∀ i,k<=i->i<tn->id<t i 0)/\f 0=(pt tb)/\f 1=aC id/\f 2=aC par/\f 7=au (k:Int)/\aQ M tb 1 (fun _=>bK l (tn+1) o) 111/\Fx.Own M B 172 2 (bK l (tn+1) o) (tn+1) (rv .u64 (kK (BH t tn k)))/\jM (fun k=>k=tb\/(Value.slice ta tn tc).ownBlock=some k) w M) (fun f _=>(intOf (f 7)).toNat) ⟨tn,by omega,(fun i r N=>L_ r (by omega)),(by rfl),Fx.ic,Fx.ic,Fx.ic,rP,qM,b16⟩ ?_;rintro f2 w16 ⟨k,hk,J,O,h6,h7,C,S,nU,b17⟩;refine Ws<|ay<|aY C ?_;by_cases V:0<(k:Int)
  ·obtain⟨j,H⟩ : ∃ j,k=j+1:=⟨k-1,by omega⟩;refine Lv aG (nu V)<|av aG<|aY O<|av (pt tb)<|av (pt tb)<|Lv (bK l (tn+1) o) (aM S.aH 0)<|aY C<|Lv (au j) fQ<|Lv (pf l (2*j)) (dh 2)<|av (pf l (2*j))<|Lv (aC (t j 0)) (aM nU.aH (2*j) (zm (by omega) (by omega) (by omega)))<|aY h6 ?_;by_cases u:id<(t j 0)
   ·refine Lv aG (nu u)<|av aG<|aD<|aO<|Wk<|sN<|Wb<|Ws ?_;refine Wt 14 (by kernel_rfl) (by kernel_rfl) fun Dl gH nZ => ?_;have Dm:Stp w16.heap.size w16 Dl:=Sb gH;have⟨nD,nE⟩:=eU gH S nU;have b18:=b17.then Dm (.inr b17.size);refine rM (pt tb) (RF O)<|Po (pt tb)<|Po (pt tb)<|rM (bK l (tn+1) o) (aM nD.aH 0)<|rM (au k) (RF C)<|rM (pt tb) (RF O)<|Po (pt tb)<|Po (pt tb)<|rM (bK l (tn+1) o) (aM nD.aH 0)<|rM (au k) (RF C)<|rM (au j) fQ<|rM (pf l (2*j)) (dh 2)<|rM (.agg (aA 2 (rv .u64 (t j)))) (fJ nE.aH (2*j) (fun i hi=>TA (by omega) (by omega) hi))<|rM (pf l (2*k)) (dh 2)<|Fx.St.nil ?_;refine zH nE (2*k) fun WV rY s15 z8 => ?_;have rQ:=nD.bY s15 (by omega);have b19:=b18.then s15 aaR;have pz:Fx.Own WV B 172 2 (bK l (tn+1) o) (tn+1) (rv .u64 (kK (BH t tn j))):=rY.congr (xZ H (by omega));refine aD<|Wl<|aY C<|Lv (au j) fQ<|av (au j)<|Ln<|bT<|iB ⟨j,by omega,(Oe H J u),O,(h6.trans Fx.ic),(h7.trans Fx.ic),Fx.ic,rQ,pz,b19⟩ ?_;show(intOf (au j)).toNat<_;simp only[C,intOf]; omega
   refine Lv aF (ny u)<|av aF<|aD<|aL<|Wx<|cK<|gU<|cO<|sN<|ay<|aY O<|av (pt tb)<|av (pt tb)<|Lv (bK l (tn+1) o) (aM S.aH 0)<|aY C<|aY h6<|aY h7<|av (.agg (aA 2 (bR (bR (rv .u64 (fun _=>0)) 0 1 (fun _=>aC id)) 1 1 (fun _=>aC par))))<|Lv (pf l (2*k)) (dh 2)<|zH nU (2*k) (h1:=(fun j Z=>by rcases j with _|_|j <;> first|rfl|omega)) fun Sq rZ s16 z9 => ?_
   have xB:=S.bY s16 (by omega);have b20:=b17.then s16 aaR;have tK:Fx.Own Sq B 172 2 (bK l (tn+1) o) (tn+1) (rv .u64 (kK (oF t k id par))):=rZ.congr (sJ (by omega));refine aD<|ay<|av (au 0)<|aD<|Wr<|aJ (au 0) ?_;have c:jk t tn id par=0:=(by unfold jk; rw[b_ q,b_ (j_ p),b_ (fun h=>by have:=h_ z; omega),b_ (fun h=>h.elim (fun h=>by omega) (DX W (by omega)))]);have I:k=down (fun i=>decide (id<t i 0)) tn:=Fx.oK hk (fun i a b=>f_ (J i a b)) (.inr (fun j e=>by have x:j=_:=Nat.succ.inj (e.symm.trans H); subst x; exact g_ u));exact⟨oV c.symm,b20,.inr ⟨c,l,o,xB,by rw[<- I]; exact tK,fun e=>aeY (B_ e).symm⟩⟩
  refine Lv aF (ny V)<|av aF<|dB<|dB<|dB<|dB<|dB<|dB<|dB<|dB<|dB<|dB<|dB<|av aF<|aD<|aL<|Wx<|cK<|gU<|cO<|sN<|ay<|aY O<|av (pt tb)<|av (pt tb)<|Lv (bK l (tn+1) o) (aM S.aH 0)<|aY C<|aY h6<|aY h7<|av (.agg (aA 2 (bR (bR (rv .u64 (fun _=>0)) 0 1 (fun _=>aC id)) 1 1 (fun _=>aC par))))<|Lv (pf l (2*k)) (dh 2)<|zH nU (2*k) (h1:=(fun j Z=>by rcases j with _|_|j <;> first|rfl|omega)) fun Y4 sQ Gx z10 => ?_
  have uw:=S.bY Gx (by omega);have LJ:=b17.then Gx aaR;have uU:Fx.Own Y4 B 172 2 (bK l (tn+1) o) (tn+1) (rv .u64 (kK (oF t k id par))):=sQ.congr (sJ (by omega));refine aD<|ay<|av (au 0)<|aD<|Wr<|aJ (au 0) ?_;have c:jk t tn id par=0:=by unfold jk; rw[b_ q,b_ (j_ p),b_ (fun h=>by have:=h_ z; omega),b_ (fun h=>h.elim (fun h=>by omega) (DX W (by omega)))]
  have I:k=down (fun i=>decide (id<t i 0)) tn:=Fx.oK hk (fun i a b=>f_ (J i a b)) (.inl (by omega));exact⟨oV c.symm,LJ,.inr ⟨c,l,o,uw,by rw[<- I]; exact uU,fun e=>aeY (B_ e).symm⟩⟩
 rw[S_]at z;refine dL (Od tb ta tn tc t par _ (tF E L Q)) aF (by rw[z]) ?_;intro Sw hb6;have LP:=Sb hb6;have⟨uV,uy⟩:=eU hb6 E L;have Ju:=F.then LP (.inr F.size);refine av aG<|av aG<|aD<|aO<|ay<|av (au 9)<|aD<|Wr<|sR<|aJ (au 9) ?_;have c:jk t tn id par=9:=by unfold jk; rw[b_ q,b_ (j_ p),d_ ⟨G,by have:=j_ z; omega⟩]
 exact⟨oV c.symm,Ju,.inl ⟨by rw[c]; decide,uV,uy⟩⟩
namespace Rt
def iY(o a:Int):Int:=if 1<=o/\o<=6/\1<=a/\a<1099511627776 then 1099511627776*o+a else 0
end Rt
theorem ajT(o a:Int)(w:World) :
 Calls Tryd.prog 84 #[au o,aC a] w fun e w'=>e = .returned (aC (iY o a))/\w'=w:=by
 refine Kent Tryd.func84 24 ?_;refine ay<|av (aC 0)<|aD<|Ws<|ay<|av (au o) ?_;by_cases f:o<1
 ·refine Lv aG (iL f)<|av aG<|dB<|dB<|av aG<|av aG<|dB<|dB<|av aG<|av aG<|dB<|dB<|av aG<|aD<|aO<|ay<|av (aC 0)<|aD<|Wr<|sR<|aJ (aC 0) ?_;exact⟨K_ (fun q=>Ending.returned (Value.int .u64 q)) (Eq.symm (by unfold iY; rw[b_ (by omega)])),rfl⟩
 refine Lv aF (iM f)<|av aF<|av (au o) ?_;by_cases g:6<o
 ·refine Lv aG (nu g)<|av aG<|av aG<|dB<|dB<|av aG<|av aG<|dB<|dB<|av aG<|aD<|aO<|ay<|av (aC 0)<|aD<|Wr<|sR<|aJ (aC 0) ?_;exact⟨K_ (fun q=>Ending.returned (Value.int .u64 q)) (Eq.symm (by unfold iY; rw[b_ (by omega)])),rfl⟩
 refine Lv aF (ny g)<|av aF<|av aF<|av (aC a) ?_;by_cases c:a<1
 ·refine Lv aG (iL c)<|av aG<|av aG<|dB<|dB<|av aG<|aD<|aO<|ay<|av (aC 0)<|aD<|Wr<|sR<|aJ (aC 0) ?_;exact⟨K_ (fun q=>Ending.returned (Value.int .u64 q)) (Eq.symm (by unfold iY; rw[b_ (by omega)])),rfl⟩
 refine Lv aF (iM c)<|av aF<|av aF<|av (aC a) ?_;by_cases d:1099511627776<=a
 ·refine Lv aG (ko d)<|av aG<|aD<|aO<|ay<|av (aC 0)<|aD<|Wr<|sR<|aJ (aC 0) ?_;exact⟨K_ (fun q=>Ending.returned (Value.int .u64 q)) (Eq.symm (by unfold iY; rw[b_ (by omega)])),rfl⟩
 refine Lv aF (jT d)<|av aF<|aD<|aL<|Wk<|sN<|ay<|av (au o)<|Lv (aC o) (dA rfl rfl (by kernel_rfl) Tryd.underlying22 (jN (by omega) rfl))<|Lv (aC (1099511627776*o)) (Fx.JK (b:=40) rfl rfl rfl (by decide) (jN (by omega) (by omega)))<|av (aC a)<|Lv (aC (1099511627776*o+a)) fE<|av (aC (1099511627776*o+a))<|aD<|Wr<|aJ (aC (1099511627776*o+a)) ?_;exact⟨K_ (fun q=>Ending.returned (Value.int .u64 q)) (Eq.symm (by unfold iY; rw[d_ (by omega)])),rfl⟩
theorem Zd(a:Option Addr)(n cap:Nat)(w:World) :
 Calls Tryd.prog 9 #[.slice a (n) (cap)] w fun e w'=>e = .returned (.bool (decide ((n:Int)<=60)))/\w'=w:=by
 refine Kent Tryd.func9 6 ?_;refine ay<|av aF<|aD<|ay<|av (.slice a (n) (cap))<|av (au n) ?_;by_cases b:(n:Int)<=60
 ·refine Lv aG (mW b)<|av aG<|aD<|Wr<|aJ aG ?_;exact⟨gY (Eq.symm (f_ b)),rfl⟩
 refine Lv aF (nk b)<|av aF<|aD<|Wr<|aJ aF ?_;exact⟨gY (Eq.symm (g_ b)),rfl⟩
section
theorem app0{s:Nat}{x y:Nat->Value}(j:Nat):iK x (0*s) y j=y j:=by unfold iK; rw[Nat.zero_mul,b_ (u_ _)]; rfl
theorem xH(id par:Int)(R:Nat->Int)(j:Nat):(mO id par R j).oneCell'=true:=by unfold mO; split <;> (try split) <;> rfl
theorem TF(id par:Int)(R:Nat->Int){q p:Nat}(h:q=p+2):mO id par R q=au (R p):=by subst h; unfold mO; rw[b_ (by omega),b_ (by omega),Nat.add_sub_cancel]
theorem AQ(x:Nat->Int)(j:Nat):(ng x j).oneCell'=true:=by unfold ng; split <;> (try split) <;> rfl
theorem Xi(m:lH)(j:Nat):(Jw m j).oneCell'=true:=xH _ _ _ _
theorem Xj(m:lH)(j:Nat):(IW m j).oneCell'=true:=AQ _ _
def sw(m:lH)(i:Nat):Value := .slice (m.ra i) (m.rn i) (m.rc i)
def vP(w:World)(B k:Nat)(m:lH):Prop :=
 (∀ i,i<k->Fx.Own w B 22 1 (sw m i) (m.rn i) (rv .u64 (m.rq i))) /\ ∀ i j,i<k->j<k->i≠j -> ∀ g,(sw m i).ownBlock=some g->(sw m j).ownBlock≠some g
section
variable {w w':World} {B k:Nat} {m:lH}
theorem vP.up(h:vP w B k m)(a:Below w.heap.size w w'):vP w' B k m:=⟨fun i b=>(h.1 i b).up a,h.2⟩
instance:Rt.Tr w w' (vP w B k m) (vP w' B k m):=⟨fun b h=>h.up b⟩
theorem vP.kg{a:List TypeId}(h:vP w B k m)(c:jl a w w')(d:a.contains 22=false):vP w' B k m:=⟨fun i b=>(h.1 i b).kg c d,h.2⟩
instance {a:List TypeId}:Rt.Tc a w w' (vP w B k m) (vP w' B k m) (!(a.contains 22)):=⟨fun b h e=>h.kg b (by simpa using e)⟩
theorem vP.zero(w:World)(B:Nat)(m:lH):vP w B 0 m:=⟨fun _ h=>L_ h (u_ _),fun _ _ h=>L_ h (u_ _)⟩
theorem vP.fresh(h:vP w B k m){v:Value}(c:v = .slice none 0 0\/v.ownBlock=(Value.slice none 0 0).ownBlock\/v.ownBlock=some w.heap.size) : ∀ i,i<k -> ∀ g,(sw m i).ownBlock=some g->v.ownBlock≠some g:=fun i b g a e=>by
 have d:=((h.1 i b).ge a).2
 rcases c with rfl|e2|e2
 ·cases e
 ·rw[e]at e2; cases e2
 ·rw[e]at e2; have:=B_ e2; omega
theorem vP.snoc{a:lH}(h:vP w B k m)(c : ∀ i,i<k->sw a i=sw m i/\a.rn i=m.rn i/\a.rq i=m.rq i)(s:Fx.Own w B 22 1 (sw a k) (a.rn k) (rv .u64 (a.rq k)))(l : ∀ i,i<k -> ∀ g,(sw m i).ownBlock=some g->(sw a k).ownBlock≠some g):vP w B (k+1) a:=by
 refine⟨fun i t => ?_,fun i j t u n g b => ?_⟩
 ·by_cases e:i=k
  ·subst e; exact s
  obtain⟨p,q,r⟩:=c i (by omega);rw[p,q,r]; exact h.1 i (by omega)
 by_cases o:i=k
 ·subst o;by_cases d:j=i
  ·exact L_ d.symm n
  intro f;rw[(c j (by omega)).1]at f;exact l j (by omega) g f b
 rw[(c i (by omega)).1]at b;by_cases d:j=k
 ·subst d; exact l i (by omega) g b
 rw[(c j (by omega)).1]; exact h.2 i j (by omega) (by omega) n g b
end
structure uZ(w:World)(B p:Nat)(m:lH):Prop where
 c:aQ w p 27 (mD m) 56
 n:Fx.Own w B 84 56 (.slice m.s.na m.s.nn m.s.nc) m.s.nn (Jw m)
 g:Fx.Own w B 99 5 (.slice m.s.ga m.s.gn m.s.gc) m.s.gn (IW m)
 tc:aQ w m.tb 1 (fun _ => .slice m.ta m.tn m.tc) 111
 t:Fx.Own w B 172 2 (.slice m.ta m.tn m.tc) m.tn (PY m.t)
 r:vP w B 6 m
 pB:B<=p
 tB:B<=m.tb
 bn:m.s.nn<=1000
 bg:m.s.gn<=1000000
 bt:m.tn<=1000
 br : ∀ i,i<6->m.rn i<=1000000
section
variable {w w':World} {B p:Nat} {m:lH}
theorem uZ.ldg(h:uZ w B p m):Cy w p m where
 c:=h.c.aH
 an:=h.n.arr
 ag:=h.g.arr
 tc:=h.tc.aH
 at2:=h.t.arr
 ar:=fun i a=>(h.r.1 i a).arr
 bn:=by have:=h.bn; omega
 bg:=h.bg
 bt:=by have:=h.bt; omega
 br:=h.br
theorem uZ.up(h:uZ w B p m)(a:Below w.heap.size w w'):uZ w' B p m := { h with c:=h.c.bY (Sb a) (t_ h.c.lt),n:=h.n.up a,g:=h.g.up a,tc:=h.tc.bY (Sb a) (t_ h.tc.lt),t:=h.t.up a,r:=h.r.up a }
instance:Rt.Tr w w' (uZ w B p m) (uZ w' B p m):=⟨fun b h=>h.up b⟩
def Kv:List Nat := [56,84,99,111,172,22]
theorem uZ.kg{e:List TypeId}(h:uZ w B p m)(b:jl e w w')(i:(Kv.all fun T => !e.contains T)=true):uZ w' B p m:=by
 have a : ∀ d∈Kv,e.contains d=false:=fun d f=>by
  have:=List.all_eq_true.1 i d f
  simpa using this
 exact { h with
  c:=h.c.kg b (a _ (by decide)),n:=h.n.kg b (a _ (by decide)),g:=h.g.kg b (a _ (by decide)),tc:=h.tc.kg b (a _ (by decide)),t:=h.t.kg b (a _ (by decide)),r:=h.r.kg b (a _ (by decide)) }
instance {a:List TypeId}:Rt.Tc a w w' (uZ w B p m) (uZ w' B p m) (Kv.all fun T => !a.contains T):=⟨fun b h e=>h.kg b (by simpa using e)⟩
theorem uZ.mono{b:Nat}(h:uZ w B p m)(a:b<=B):uZ w b p m := { h with n:=h.n.mono a,g:=h.g.mono a,t:=h.t.mono a,r:=⟨fun i c=>(h.r.1 i c).mono a,h.r.2⟩,pB:=m_ a h.pB,tB:=m_ a h.tB }
end
def Kw(m:lH)(na:Option Addr)(nc:Nat)(ga:Option Addr)(gc tb:Nat)(ta:Option Addr)(tc:Nat)(ra:Nat->Option Addr)(rc:Nat->Nat)(k:Nat):lH :=
 { m with s := { m.s with na:=na,nc:=nc,ga:=ga,gc:=gc },tb:=tb,ta:=ta,tc:=tc,ra:=fun i=>if i<k then ra i else none,rn:=fun i=>if i<k then m.rn i else 0,rc:=fun i=>if i<k then rc i else 0 }
def aI{a:Type}(f:Nat->a)(k:Nat)(v:a):Nat->a:=fun i=>if i=k then v else f i
section
variable {m:lH} {na:Option Addr} {nc:Nat} {ga:Option Addr} {gc tb:Nat} {ta:Option Addr} {tc:Nat} {ra:Nat->Option Addr} {rc:Nat->Nat} {k:Nat}
theorem Xk{q:Nat}(h:q=k+21):mD (Kw m na nc ga gc tb ta tc ra rc k) q = .slice none 0 0:=by
 subst h;rw[vO (p:=k) _ rfl];show Value.slice (if k<k then ra k else none) (if k<k then m.rn k else 0) (if k<k then rc k else 0)=_;rw[b_ (Nat.lt_irrefl _),b_ (Nat.lt_irrefl _),b_ (Nat.lt_irrefl _)]
theorem yD{i:Nat}(h:i<k):sw (Kw m na nc ga gc tb ta tc ra rc k) i = .slice (ra i) (m.rn i) (rc i):=by
 show Value.slice (if i<k then ra i else none) (if i<k then m.rn i else 0) (if i<k then rc i else 0)=_;rw[d_ h,d_ h,d_ h]
theorem TG{a:Option Addr}{c q:Nat}(f:q=k+21):dD (mD (Kw m na nc ga gc tb ta tc ra rc k)) q (.slice a (m.rn k) c)=mD (Kw m na nc ga gc tb ta tc (aI ra k a) (aI rc k c) (k+1)):=by
 subst f
 funext p
 unfold dD;by_cases e:p=k+21
 ·subst e; rw[d_ rfl];rw[vO (p:=k) _ rfl];show _=Value.slice (if k<k+1 then aI ra k a k else none) (if k<k+1 then m.rn k else 0) (if k<k+1 then aI rc k c k else 0);simp[aI]
 rw[b_ e];unfold mD;by_cases h:p<20
 ·rw[d_ h,d_ h]; rfl
 rw[b_ h,b_ h];by_cases b:p=20
 ·rw[d_ b,d_ b]; rfl
 rw[b_ b,b_ b];show Value.slice (if p-21<k then ra (p-21)else none) (if p-21<k then m.rn (p-21)else 0) (if p-21<k then rc (p-21)else 0)=Value.slice (if p-21<k+1 then aI ra k a (p-21)else none) (if p-21<k+1 then m.rn (p-21)else 0) (if p-21<k+1 then aI rc k c (p-21)else 0);by_cases d:p-21<k
 ·simp[aI,d,show p-21<k+1 by omega,show ¬ p-21=k by omega]
 simp[d,show ¬ p-21<k+1 by omega]
theorem Xl{w:World}{B:Nat}{a:Option Addr}{c:Nat}(h:vP w B k (Kw m na nc ga gc tb ta tc ra rc k))(e:Fx.Own w B 22 1 (.slice a (m.rn k) c) (m.rn k) (rv .u64 (m.rq k)))
 (f : ∀ i,i<k -> ∀ g,(sw (Kw m na nc ga gc tb ta tc ra rc k) i).ownBlock=some g->(Value.slice a (m.rn k) c).ownBlock≠some g):vP w B (k+1) (Kw m na nc ga gc tb ta tc (aI ra k a) (aI rc k c) (k+1)):=by
 have b:sw (Kw m na nc ga gc tb ta tc (aI ra k a) (aI rc k c) (k+1)) k = .slice a (m.rn k) c:=by
  rw[yD (by omega)]; unfold aI; rw[d_ rfl,d_ rfl]
 refine h.snoc (fun i d=>⟨?_,?_,rfl⟩) ?_ ?_
 ·rw[yD (by omega),yD d]; unfold aI; rw[b_ (by omega),b_ (by omega)]
 ·show(if i<k+1 then m.rn i else 0)=(if i<k then m.rn i else 0);rw[d_ (by omega),d_ d]
 ·rw[b];show Fx.Own w B 22 1 _ (if k<k+1 then m.rn k else 0) _;rw[d_ (by omega)]; exact e
 rw[b]; exact f
end
def atM(m:lH)(na:Option Addr)(nc:Nat)(ga:Option Addr)(gc tb:Nat)(ta:Option Addr)(tc:Nat)(ra:Nat->Option Addr)(rc:Nat->Nat):lH :=
 { m with s := { m.s with na:=na,nc:=nc,ga:=ga,gc:=gc },tb:=tb,ta:=ta,tc:=tc,ra:=ra,rc:=rc }
section
variable {m:lH} {na:Option Addr} {nc:Nat} {ga:Option Addr} {gc tb:Nat} {ta:Option Addr} {tc:Nat} {ra:Nat->Option Addr} {rc:Nat->Nat}
theorem aeZ : ∀ j,j<27->mD (Kw m na nc ga gc tb ta tc ra rc 6) j=mD (atM m na nc ga gc tb ta tc ra rc) j:=fun j b=>by
 unfold mD;by_cases h:j<20
 ·rw[d_ h,d_ h]; rfl
 ·rw[b_ h,b_ h];by_cases a:j=20
  ·rw[d_ a,d_ a]; rfl
  ·rw[b_ a,b_ a];show Value.slice (if j-21<6 then ra (j-21)else none) (if j-21<6 then m.rn (j-21)else 0) (if j-21<6 then rc (j-21)else 0)=Value.slice (ra (j-21)) (m.rn (j-21)) (rc (j-21));rw[d_ (by omega),d_ (by omega),d_ (by omega)]
theorem Xm{w:World}{B:Nat}(h:vP w B 6 (Kw m na nc ga gc tb ta tc ra rc 6)):vP w B 6 (atM m na nc ga gc tb ta tc ra rc):=by
 refine⟨fun i a => ?_,fun i j a b d g c => ?_⟩
 ·have:=h.1 i a;rw[yD a]at this;have e:(Kw m na nc ga gc tb ta tc ra rc 6).rn i=m.rn i:=by show(if i<6 then m.rn i else 0)=_; rw[d_ a]
  rw[e]at this;exact this
 have:=h.2 i j a b d g;rw[yD a,yD b]at this;exact this c
end
end
set_option maxRecDepth 20000 in
set_option maxHeartbeats 1000000 in
theorem aaS(m:lH)(p:Nat)(w:World)(h:Cy w p m)(bn1:m.s.nn<=1000)(bt1:m.tn<=1000) :
 Calls Tryd.prog 42 #[(pt p)] w fun e w' => ∃ p' m',e = .returned (pt p')/\m'.core=m.core/\uZ w' w.heap.size p' m'/\Below w.heap.size w w':=by
 have N:=h.c;have lp:p<w.heap.size:=N.lt (by omega);have bn:=h.bn;have bg:=h.bg;have bt:=h.bt;have han:=h.an;have hag:=h.ag;have hat:=h.at2;have htc:=h.tc;have QZ:m.tb<w.heap.size:=htc.lt (by omega);refine Kent Tryd.func42 79 ?_;refine ay<|av (.pointer none)<|aD<|ay<|av (pt p)<|av (pt p)<|av (pt p)<|Lv (.agg (aA 20 (Dq m.s))) (fJ N 0 (fun j hj=>(show mD _ (0+j)=Dq _ j by rw[E_]; exact kJ _ hj rfl)))<|av (.agg (aA 1 (fun _ => .slice none 0 0)))<|pQ fun b w1 mR m1 s1 z1 => ?_;have⟨m2,m3,b1⟩:=jh s1.old N htc (Below.refl w.heap.size w);have sO:=gL mR;have nC:p≠b:=by rw[mR]; exact t_ (N.lt (by omega))
 have TH:m.tb≠b:=by rw[mR]; exact t_ (htc.lt (by omega))
 have uo:=m1.lt;refine av (.agg (aA 27 (bR (bR (fun o=>if o<12 then .bool false else if o<18 then aC 0 else if o<20 then .slice none 0 0 else if o<21 then .pointer none else .slice none 0 0) 0 20 (Dq m.s)) 20 1 (fun _=>(pt b)))))<|Ei (m:=27) (y:=bR (bR (fun o=>if o<12 then .bool false else if o<18 then aC 0 else if o<20 then .slice none 0 0 else if o<21 then .pointer none else .slice none 0 0) 0 20 (Dq m.s)) 20 1 (fun _=>(pt b))) (by rfl) rfl rfl (bL _ _) rfl fun a w2 V m4 s2 z2 => ?_;have⟨m5,m6,m7,b2⟩:=mJ s2.old m2 m3 m1 b1;have qN:=jc V b1.size;have Og:p≠a:=by rw[V]; exact t_ (m2.lt (by omega))
 have Ze:m.tb≠a:=by rw[V]; exact t_ (m3.lt (by omega))
 have Oh:=cu V m1.lt;have zL:=m4.lt;refine av (pt a)<|aD<|ay<|av (pt a)<|Fx.L.NI (s:=56) (by rfl) rfl Tryd.underlying48 (by kernel_rfl) rfl fun g3 w3 xE hO1 s3 => ?_;have P:Fx.Own w3 w.heap.size 84 56 (bK g3 0 0) 0 (Jw m):=hO1 _ _ (by rw[xE]; exact b2.size);have⟨m9,m10,m11,m12,S⟩:=qD s3.old m5 m6 m7 m4 b2;refine av (pt p)<|av (pt p)<|av (pt p)<|av (pf p 18)<|Lv (.slice m.s.na (m.s.nn) (m.s.nc)) (aM m9 18)<|Fx.L.Io (B:=w.heap.size) (s:=56) (bytes:=448) (k:=0) (m:=m.s.nn) (v:=bK g3 0 0) (x:=Jw m) (by rfl) rfl rfl rfl Tryd.underlying48 (by kernel_rfl) (by kernel_rfl) rfl rfl P (han.up S rfl) (fun j _=>Xi m j) (by omega) (by omega) S.size fun vv1 w4 ho1 X wJ => ?_;rw[E_]at ho1;obtain⟨C,E,rfl⟩:=ho1.val;have gM:=Av X P;have m14:=m9.grown X (P.not (by omega));have m15:=m10.grown X (P.not (by omega));have⟨m16,m17⟩:=F4 gM m11 m12;have m13:Fx.Own w4 w.heap.size 84 56 (.slice C (m.s.nn) (E)) m.s.nn (Jw m):=(ho1.congr (fun j _=>app0 j));have b4:Below w.heap.size w w4:=Aq S X S.size (fun q l=>(P.ge l).1);refine av (pt a)<|av (pt a)<|av (pf a 18)<|iX m17 18 (.slice C (m.s.nn) (E)) fun w5 m18 s4 z3 => ?_;have m19:=m14.bY s4 (by omega);have m20:=m15.bY s4 (by omega);have kr:=gK s4 m17.ty;have⟨m21,m22⟩:=F4 kr m16 m13;have b5:=s4.below b4 b4.size (by omega);refine aD<|ay<|av (pt a)<|Fx.L.NI (s:=5) (by rfl) rfl Tryd.underlying49 (by kernel_rfl) rfl fun g4 w6 JZ hO2 s5 => ?_;have O:Fx.Own w6 w.heap.size 99 5 (bK g4 0 0) 0 (IW m):=hO2 _ _ (by rw[JZ]; exact b5.size);have⟨m24,mZ,nT,oM,oN,T⟩:=rX s5.old m19 m20 m21 m22 m18 b5;refine av (pt p)<|av (pt p)<|av (pt p)<|av (pf p 19)<|Lv (.slice m.s.ga (m.s.gn) (m.s.gc)) (aM m24 19)<|Fx.L.Io (B:=w.heap.size) (s:=5) (bytes:=40) (k:=0) (m:=m.s.gn) (v:=bK g4 0 0) (x:=IW m) (by rfl) rfl rfl rfl Tryd.underlying49 (by kernel_rfl) (by kernel_rfl) rfl rfl O (hag.up T rfl) (fun j _=>Xj m j) (by omega) (by omega) T.size fun vv2 w7 ho2 Y TD => ?_;rw[E_]at ho2;obtain⟨D,F,rfl⟩:=ho2.val;have qZ:=Av Y O;have qc:=m24.grown Y (O.not (by omega));have lU:=mZ.grown Y (O.not (by omega));have⟨m32,qw,og⟩:=Df qZ nT oM oN;have oZ:Fx.Own w7 w.heap.size 99 5 (.slice D (m.s.gn) (F)) m.s.gn (IW m):=(ho2.congr (fun j _=>app0 j));have b7:Below w.heap.size w w7:=Aq T Y T.size (fun q l=>(O.ge l).1);refine av (pt a)<|av (pt a)<|av (pf a 19)<|iX og 19 (.slice D (m.s.gn) (F)) fun w8 qG s6 z4 => ?_;have pV:=qc.bY s6 (by omega);have uf:=lU.bY s6 (by omega);have yX:=gK s6 og.ty;have⟨rP,qM,uq⟩:=Df yX m32 qw oZ;have b8:=s6.below b7 b7.size (by omega);refine aD<|Ws ?_;refine Au [0,1,2,4,5,6,11,12,13,3,7,8,9,10,14,15,16,17,18,19,20,21] [0,0,0,1,0,0,0,4,0,0,4,0,0,0,4,0,0,4,2,0,0,3] (jl [172]) wX Fx.jl.trans (fT := [(21,3,[3]),(18,7,[10,9,8,7]),(21,7,[7]),(18,10,[10]),(21,10,[10]),(18,14,[17,16,15,14]),(21,14,[14]),(18,17,[17]),(21,17,[17]),(19,18,[18]),(20,18,[18]),(21,18,[18])]) (by kernel_rfl) (by kernel_rfl) (by kernel_rfl) (by kernel_rfl) (by kernel_rfl) fun I dU iC => ?_;have⟨nU,nD,nE,rY,rQ,pz,U⟩:=jw dU pV uf rP qM uq qG b8;refine aZ (pt a)<|aZ (pt a)<|aZ (pf a 20)<|aZ (pt a)<|aZ (pt a)<|aZ (pf a 20)<|aZ (pt p)<|aZ (pt p)<|aZ (pf p 20)<|Rd (v:=(pt b)) (by rfl) (by rfl) (wX _) (fun v1 hv1=>bF (x:=dD (dD (bR (bR (fun o=>if o<12 then .bool false else if o<18 then aC 0 else if o<20 then .slice none 0 0 else if o<21 then .pointer none else .slice none 0 0) 0 20 (Dq m.s)) 20 1 (fun _=>(pt b))) 18 (.slice C (m.s.nn) (E))) 19 (.slice D (m.s.gn) (F))) rfl rfl (by kernel_rfl) (pz.kg hv1 (by decide)).aH (i:=20) (by omega) (by omega) (Fx.Am (by omega) (Fx.Am (by omega) (Fx.pX (j:=0) (by omega) (by omega) rfl)))) ?_;refine Rs (pt b) (aM pz.aH 20 (Fx.Am (by omega) (Fx.Am (by omega) (Fx.pX (j:=0) (by omega) (by omega) rfl)))) ?_;refine aZ (pt b)<|aZ (pt b)<|Rs (.slice none 0 0) (aM nE.aH 0) ?_;refine Rs (pt m.tb) (aM nU 20) ?_;refine aZ (pt m.tb)<|aZ (pt m.tb)<|Rs (.slice m.ta (m.tn) (m.tc)) (aM nD 0) ?_;refine Dc<|Fx.L.Io (B:=w.heap.size) (s:=2) (bytes:=16) (k:=0) (m:=m.tn) (v := .slice none 0 0) (x:=PY m.t) (by rfl) rfl rfl rfl Tryd.underlying109 (by kernel_rfl) (by kernel_rfl) rfl rfl (xX I w.heap.size 172 2 (PY m.t)) (hat.up U rfl) (fun _ _=>rfl) (by omega) (by omega) U.size fun vv3 w9 ho3 A atP => ?_;rw[E_]at ho3
 obtain⟨u,z,rfl⟩:=ho3.val;have xA:=Av A (xX I w.heap.size 172 2 (PY m.t));have hq1:Below I.heap.size I w9:=⟨A.os,A.tape,A.output,A.size,fun q l=>A.block q l (fun e=>by cases e)⟩
 have xB:=nU.bY (Sb hq1) (t_ (nU.lt (by omega)));have hq2:Below I.heap.size I w9:=⟨A.os,A.tape,A.output,A.size,fun q l=>A.block q l (fun e=>by cases e)⟩
 have tK:=nD.bY (Sb hq2) (t_ (nD.lt (by omega)));have⟨sQ,uw,uU,uV⟩:=JN xA nE rY rQ pz;have rZ:Fx.Own w9 w.heap.size 172 2 (.slice u (m.tn) (z)) m.tn (PY m.t):=(ho3.congr (fun j _=>app0 j));have b10:Below w.heap.size w w9:=Aq U A U.size (fun q l=>((xX I w.heap.size 172 2 (PY m.t)).ge l).1);refine Ln ⟨xA,?_⟩;refine aZ (pt b)<|aZ (pt b)<|gG<|iX sQ 0 (.slice u (m.tn) (z)) fun rO uy s8 z5 => ?_;have wD:aQ rO b 1 (fun _ => .slice u (m.tn) (z)) 111:=dH uy;have sS:=xB.bY s8 (by omega);have sj:=tK.bY s8 (by omega);have BD:=gK s8 sQ.ty;have⟨sU,xC,ru,uW⟩:=JN BD uw uU uV rZ;have b11:=s8.below b10 b10.size (by omega);refine Ln<|bO<|Ws<|ay<|av (au 0)<|aD<|Wb ?_;have oh:aQ rO a 27 (mD (Kw m C E D F b u z (fun _=>none) (fun _=>0) 0)) 56:=ru.congr (fun j hj=>by rcases j with _|_|_|_|_|_|_|_|_|_|_|_|_|_|_|_|_|_|_|_|_|_|_|_|_|_|_|j <;> first|rfl|omega)
 have tL:=vP.zero rO w.heap.size (Kw m C E D F b u z (fun _=>none) (fun _=>0) 0);refine Wo (fun f H => ∃ k:Nat,∃ ra:Nat->Option Addr,∃ rc:Nat->Nat,k<=6/\f 0=(pt p)/\f 3=(pt a)/\f 4=au (k:Int)/\iQ H p 0 27 (mD m)/\Fx.Own H w.heap.size 84 56 (.slice C (m.s.nn) (E)) m.s.nn (Jw m)/\Fx.Own H w.heap.size 99 5 (.slice D (m.s.gn) (F)) m.s.gn (IW m)/\Fx.Own H w.heap.size 172 2 (.slice u (m.tn) (z)) m.tn (PY m.t)/\aQ H b 1 (fun _ => .slice u (m.tn) (z)) 111/\aQ H a 27 (mD (Kw m C E D F b u z ra rc k)) 56/\vP H w.heap.size k (Kw m C E D F b u z ra rc k)/\Below w.heap.size w H) (fun f _=>(6-(intOf (f 4)).toNat)) ⟨0,(fun _=>none),(fun _=>0),by omega,(by rfl),(by rfl),Fx.ic,sS,sU,xC,uW,wD,oh,tL,b11⟩ ?_;rintro f1 F7 ⟨k,ra,rc,hk,h1,W,J,m64,yY,wE,wR,wK,sV,uX,b12⟩;refine Ws<|ay<|aY J ?_;by_cases c57:(k:Int)<6
 ·refine Lv aG (iL c57)<|aD<|aO<|Wk<|sN<|Ws<|Wb ?_;have brk:=h.br k (by omega);have uz:=N.below b12 lp;refine Au [0,1,2,3,4,5,6,8,9,10,11,12,15,16,7,13,14,17,18] [0,0,0,0,0,0,0,4,0,0,0,0,0,4,2,0,0,0,3] (jl [22]) wX Fx.jl.trans (fT := [(14,7,[7]),(18,7,[7]),(14,13,[13]),(18,13,[13]),(17,14,[14]),(18,14,[14])]) (by kernel_rfl) (by kernel_rfl) (by kernel_rfl) (by kernel_rfl) (by kernel_rfl) fun G gH nZ => ?_;have⟨vI,tN,Ah,vJ,yt,yu,wS,wT,R⟩:=Bt gH m64 yY wE wR wK sV uX uz b12;refine bU W<|bU J<|bU W<|bU J<|aZ (pt a)<|aZ (pf a 21)<|Rp (pf a (k+21)) (fun _=>jm 6 1)<|bU h1<|bU J<|aZ (pt p)<|aZ (pf p 21)<|Rp (pf p (k+21)) (fun _=>jm 6 1)<|aZ (pt a)<|aZ (pf a 21)<|Rs (.slice none 0 0) (aM yu.aH (k+21) (Xk (by omega))) ?_;refine Rs (.slice (m.ra k) (m.rn k) (m.rc k)) (aM vI (k+21) (vO _ (by omega))) ?_;refine Dc<|Fx.L.Io (B:=w.heap.size) (s:=1) (bytes:=8) (k:=0) (m:=(m.rn k)) (v := .slice none 0 0) (x:=rv .u64 (m.rq k)) (by rfl) rfl rfl rfl Tryd.underlying53 (by kernel_rfl) (by kernel_rfl) rfl rfl (xX G w.heap.size 22 1 (rv .u64 (m.rq k))) ((h.ar k (by omega)).up R rfl) (fun _ _=>rfl) (by omega) (by omega) R.size fun vv4 Q ho4 d ajW => ?_;rw[E_]at ho4;obtain⟨K,M,rfl⟩:=ho4.val;have Dr:=Av d (xX G w.heap.size 22 1 (rv .u64 (m.rq k)));have hq3:Below G.heap.size G Q:=⟨d.os,d.tape,d.output,d.size,fun q l=>d.block q l (fun e=>by cases e)⟩
  have uY:=vI.bY (Sb hq3) (t_ (vI.lt (by omega)));have⟨xD,yw,wF,zw,yx⟩:=qb Dr tN Ah vJ yt yu;have hq4:Below G.heap.size G Q:=⟨d.os,d.tape,d.output,d.size,fun q l=>d.block q l (fun e=>by cases e)⟩
  have zJ:=wS.up hq4;have hq5:Below G.heap.size G Q:=⟨d.os,d.tape,d.output,d.size,fun q l=>d.block q l (fun e=>by cases e)⟩
  have yA:=wT.bY (Sb hq5) (t_ (wT.lt (by omega)));have sZ:Fx.Own Q w.heap.size 22 1 (.slice K (m.rn k) (M)) (m.rn k) (rv .u64 (m.rq k)):=(ho4.congr (fun j _=>app0 j));have b14:Below w.heap.size w Q:=Aq R d R.size (fun q l=>((xX G w.heap.size 22 1 (rv .u64 (m.rq k))).ge l).1);have hf1:=wS.fresh ajW;refine Ln ⟨Dr,?_⟩;refine Rp (pf a (k+21)) (fun _=>jm 6 1)<|gG<|iX yx (k+21) (.slice K (m.rn k) (M)) fun F8 yB Z z6 => ?_;have Ai:=uY.bY Z (by omega);have IZ:=gK Z yx.ty;have⟨Ez,Dt,CF,CG,Aj⟩:=qb IZ xD yw wF zw zJ;have FT:=yA.bY Z (by omega);have EF:=jO IZ sZ;have b15:=Z.below b14 b14.size (by omega);refine Ln<|Rn<|bT<|sN<|Wl<|aY J<|Lv (au ((k:Int)+1)) fE<|av (au ((k:Int)+1))<|Ln ?_;have FU:aQ F8 a 27 (mD (Kw m C E D F b u z (aI ra k K) (aI rc k M) (k+1))) 56:=yB.to (TG (by omega));have F9:vP F8 w.heap.size (k+1) (Kw m C E D F b u z (aI ra k K) (aI rc k M) (k+1)):=Xl Aj EF hf1
  skip
  refine iB ⟨k+1,(aI ra k K),(aI rc k M),by omega,h1,W,Fx.ic,Ai,Ez,Dt,CF,CG,FU,F9,b15⟩ ?_;show(6-(intOf (au ((k:Int)+1))).toNat)<_;simp only[J,intOf]; omega
 refine Lv aF (iM c57)<|aD<|aL<|Wx<|cK<|gU<|cO<|sN<|ay<|aY W<|av (pt a)<|aD<|Wr<|aJ (pt a) ?_;have ek:k=6:=by omega
 subst ek;exact⟨a,atM m C E D F b u z ra rc,rfl,rfl,{ c:=sV.congr aeZ,n:=yY,g:=wE,tc:=wK,t:=wR,r:=Xm uX,pB:=qN,tB:=sO,bn:=bn1,bg:=bg,bt:=bt1,br:=h.br },b12⟩
namespace Rt
def nK(id:Nat->Int)(o:Int):Nat->Nat
 | 0=>0
 | n+1=>nK id o n+if id n / 1099511627776=o then 1 else 0
theorem TI{id:Nat->Int}{o:Int}{c k:Nat}(h:c=nK id o k)(e:id k / 1099511627776=o):c+1=nK id o (k+1):=by unfold nK; rw[d_ e,h]
theorem Xn{id:Nat->Int}{o:Int}{c k:Nat}(h:c=nK id o k)(e : ¬ id k / 1099511627776=o):c=nK id o (k+1):=by unfold nK; rw[b_ e,h]; rfl
noncomputable def jV(L:fB)(v:EvM):Int:=if 5<=nK L.id v.o L.nn\/140737488355328<v.aT then 6 else jk L.t L.tn (iY v.o v.seq) v.node
def rD(f:Nat->Int)(n:Nat)(x:Int):Nat:=down (fun i=>decide (x<f i)) n
def qg(L:fB)(v:EvM):fB :=
 { L with nn:=L.nn+1,id:=bZ L.id (rD L.id L.nn (iY v.o v.seq)) (iY v.o v.seq),par:=bZ L.par (rD L.id L.nn (iY v.o v.seq)) v.node,
          R:=bZ L.R (rD L.id L.nn (iY v.o v.seq)) (upd (fun _=>0) (v.o-1).toNat v.aT),
          tn:=L.tn+1,t:=oF L.t (down (fun i=>decide (iY v.o v.seq<L.t i 0)) L.tn) (iY v.o v.seq) v.node }
theorem TJ{id par:Int}(j:Nat):bR (bR (fun c=>if c<2 then aC 0 else au 0) 0 1 (fun _=>aC id)) 1 1 (fun _=>aC par) j=mO id par (fun _=>0) j:=by
 unfold bR mO;by_cases a:j=0
 ·subst a; rfl
 by_cases b:j=1
 ·subst b; rfl
 rw[b_ (by omega),b_ (by omega),b_ a,b_ b]; show(if j<2 then _ else _)=_; rw[b_ (by omega)]
theorem Oi{id par:Int}{R:Nat->Int}{a q:Nat}{x:Int}(d:q=a+2):dD (mO id par R) q (au x)=mO id par (upd R a x):=by
 subst d
 funext p
 unfold dD mO upd;by_cases h:p=a+2
 ·subst h; rw[d_ rfl,b_ (by omega),b_ (by omega),d_ (by omega)]
 rw[b_ h];by_cases b:p=0
 ·rw[d_ b,d_ b]
 by_cases c:p=1
 ·rw[b_ b,d_ c,b_ b,d_ c]
 rw[b_ b,b_ c,b_ b,b_ c,b_ (by omega)]
theorem Oj{id par:Nat->Int}{R:Nat->Nat->Int}{k:Nat}{a b:Int}{c:Nat->Int}:Fx.Ir (fun d=>mO (id d) (par d) (R d)) k (mO a b c)=fun d=>mO (bZ id k a d) (bZ par k b d) (bZ R k c d):=by
 funext i
 unfold Fx.Ir bZ;by_cases h:i<k
 ·simp only[d_ h]
 by_cases e:i=k
 ·simp only[b_ h,d_ e]
 simp only[b_ h,b_ e]
theorem GL(m:lH)(a:Option Addr)(n c:Nat):dD (mD m) 18 (.slice a n c)=mD { m with s := { m.s with na:=a,nn:=n,nc:=c } }:=by
 funext p
 unfold dD mD;by_cases h:p=18
 ·subst h; rfl
 rw[b_ h];by_cases e:p<20
 ·rw[d_ e,d_ e]; unfold Dq;by_cases b:p<6
  ·rw[d_ b,d_ b]
  by_cases d:p<12
  ·rw[b_ b,d_ d,b_ b,d_ d]
  by_cases f:p<18
  ·rw[b_ b,b_ d,d_ f,b_ b,b_ d,d_ f]
  rw[b_ b,b_ d,b_ f,b_ h,b_ b,b_ d,b_ f,b_ h]
 rw[b_ e,b_ e]
theorem yE{s:Nat}{z y:Nat->Value}(hy : ∀ j,(y j).oneCell'=true) : ∀ j,j<1*s->(bR z (0*s) s y j).oneCell'=true:=fun j a=>by
 unfold bR; rw[d_ (by omega)]; exact hy _
theorem TK{f:Nat->Int}{n k j:Nat}{x:Int}(e:k=j+1)(h : ∀ i,k<=i->i<n->x<f i)(c:x<f j) : ∀ i,j<=i->i<n->x<f i:=fun i d b=>by
 by_cases a:i=j
 ·subst a; exact c
 ·exact h i (by omega) b
end Rt
theorem Rt.Ky{t:Nat->Nat->Int}{tn:Nat}{id par:Int}(h:jk t tn id par=0):tn+1<=33:=by
 unfold jk at h;split at h; · cases h
 split at h; · cases h
 split at h; · cases h
 split at h; · cases h
 rename_i h4
 rcases Nat.lt_or_ge tn 32 with h5|h5
 ·omega
 exact L_ (Or.inl h5) h4
set_option maxRecDepth 20000 in
set_option maxHeartbeats 2000000 in
theorem Xo(m:lH)(B p a D:Nat)(v:EvM)(w:World)(C:uZ w B p m)(u:B<=w.heap.size)(ha:a<6)(ho:v.o=(a:Int)+1)(bnn:m.s.nn<=900)(hD:bB m.t m.tn (aW m.t m.tn D v.node)<0)(hD2:D<=1000) :
 Calls Tryd.prog 60 #[(pt p),.agg (aA 14 (bH v))] w fun e w'=>e = .returned (au (jV m.core v))/\Below B w w'/\(jV m.core v=0 -> ∃ m',m'.core=qg m.core v/\uZ w' B p m'):=by
 have TL:=C.c;have hLn:=C.n;have hLg:=C.g;have P8:=C.tc;have TM:=C.t;have hLr:=C.r;have TN:=C.pB;have Du:=C.tB;have bn:=C.bn;have bg:=C.bg;have bt:=C.bt;have lpp:p<w.heap.size:=TL.lt;have QZ:m.tb<w.heap.size:=P8.lt;refine Kent Tryd.func60 132 ?_;refine ay<|pQ fun I w1 mR m1 s1 z1 => ?_;have⟨m2,m3,m4,m5,m6,m7⟩:=rX s1.old TL hLn hLg P8 TM hLr;have b1:=eP s1.old (Below.refl B w) u;have sO:=jc mR (Below.refl B w).size;have⟨nC,xI⟩:=yT mR TL.lt P8.lt;have uo:=m1.lt;refine av (au 0)<|aD<|ay<|av (au 0)<|aD<|Ws<|ay<|av (au 0)<|aD<|Wb<|Wo (fun f z => ∃ k:Nat,∃ G:Nat,k<=m.s.nn/\G<=k/\G=nK m.id v.o k/\f 0=(pt p)/\f 3=(pt I)/\f 5=au (G:Int)/\f 6=au (k:Int)/\aQ z p 27 (mD m) 56/\Fx.Own z B 84 56 (.slice m.s.na (m.s.nn) (m.s.nc)) m.s.nn (Jw m)/\Fx.Own z B 99 5 (.slice m.s.ga (m.s.gn) (m.s.gc)) m.s.gn (IW m)/\aQ z m.tb 1 (fun _ => .slice m.ta m.tn m.tc) 111/\Fx.Own z B 172 2 (.slice m.ta (m.tn) (m.tc)) m.tn (PY m.t)/\vP z B 6 m/\aQ z I 14 (bH v) 28/\Below B w z) (fun f _=>(m.s.nn-(intOf (f 6)).toNat)) ⟨0,0,by omega,by omega,rfl,(by rfl),(by rfl),Fx.ic,Fx.ic,m2,m3,m4,m5,m6,m7,m1,b1⟩ ?_;rintro f1 O ⟨k,G,hk,hcl,aa,J,K,h3,Y,m8,m9,m10,m11,m12,m13,W,b2⟩;refine Ws<|ay<|aY Y<|aY J<|av (pt p)<|av (pt p)<|av (pf p 18)<|Lv (.slice m.s.na (m.s.nn) (m.s.nc)) (aM m8.aH 18)<|av (au m.s.nn) ?_;by_cases c18:(k:Int)<(m.s.nn:Int)
 ·refine Lv aG (iL c18)<|aD<|aO<|Wk<|sN<|Ws<|Wb<|Ws ?_;refine yS<|eB J<|aX (pt p)<|aX (pt p)<|aX (pf p 18)<|Qv (.slice m.s.na (m.s.nn) (m.s.nc)) (fun F E=>aM (m8.aH.dr E) 18)<|eB Y ?_;obtain⟨GN,eq1⟩:=m9.addr (by omega);have m15:Fx.Own O B 84 56 (bK GN m.s.nn m.s.nc) m.s.nn (Jw m):=m9.fH (K_ (fun q=>Value.slice q m.s.nn m.s.nc) eq1);refine Qv (pf GN (56*k)) (fun F E=>dh 56 (hx:=(rfl.trans (K_ (fun q=>Value.slice q (m.s.nn) (m.s.nc)) eq1))))<|aX (pf GN (56*k))<|Qv (aC (m.id k)) (fun F E=>aM (m15.aH.dr E) (56*k) (Fx.iw (k:=k) (j:=0) (by omega) (by omega) rfl))<|Qv (aC ((m.id k) / 1099511627776)) (fun F E=>Fx.YQ (b:=40) (q:=1099511627776) rfl rfl rfl (by decide) (by decide))<|Qv (pt I) (fun F E=>jB K 0)<|Qv (au v.o) (fun F E=>aM (W.aH.dr E) 0)<|Qv (aC v.o) (fun F E=>dA rfl rfl (by kernel_rfl) Tryd.underlying22 (jN (by omega) rfl)) ?_;by_cases c34:((m.id k) / 1099511627776)=v.o
  ·refine Qv aG (fun F E=>eY c34)<|Qn ?_;rintro _ ⟨qd,rfl⟩;obtain⟨Dn,oG⟩ : ∃ F,F=World.drewN O qd:=⟨_,rfl⟩;rw[<- oG];have s2:Stp O.heap.size O Dn:=(by rw[oG]; exact Sb (jD O qd));have⟨m16,m17,m18,m19,m20,m21,m22⟩:=jw s2.old m8 m10 m11 m12 m13 W m15;have b3:=eP s2.old b2 u;clear oG;refine sN<|aO<|Wl<|aY h3<|Lv (au ((G:Int)+1)) fE<|av (au ((G:Int)+1))<|Ln<|bT<|sN<|Wl<|aY Y<|Lv (au ((k:Int)+1)) fE<|av (au ((k:Int)+1))<|Ln ?_;have m23:Fx.Own Dn B 84 56 (.slice m.s.na (m.s.nn) (m.s.nc)) m.s.nn (Jw m):=m22.fH (K_ (fun q=>Value.slice q m.s.nn m.s.nc) eq1.symm);refine iB ⟨k+1,G+1,by omega,by omega,(TI aa c34),J,K,Fx.ic,Fx.ic,m16,m23,m17,m18,m19,m20,m21,b3⟩ ?_;show(m.s.nn-(intOf (au ((k:Int)+1))).toNat)<_;simp only[Y,intOf]; omega
  refine Qv aF (fun F E=>fU c34)<|Qn ?_;rintro _ ⟨qd,rfl⟩;obtain⟨wq2,vQ⟩ : ∃ F,F=World.drewN O qd:=⟨_,rfl⟩;rw[<- vQ];have s3:Stp O.heap.size O wq2:=by rw[vQ]; exact Sb (jD O qd)
  have⟨m24,mZ,nT,oM,oN,oZ,qc⟩:=jw s3.old m8 m10 m11 m12 m13 W m15;have b4:=eP s3.old b2 u;clear vQ;refine sN<|aL<|Wk<|bT<|sN<|Wl<|aY Y<|Lv (au ((k:Int)+1)) fE<|av (au ((k:Int)+1))<|Ln ?_;have lU:Fx.Own wq2 B 84 56 (.slice m.s.na (m.s.nn) (m.s.nc)) m.s.nn (Jw m):=qc.fH (K_ (fun q=>Value.slice q m.s.nn m.s.nc) eq1.symm);refine iB ⟨k+1,G,by omega,by omega,(Xn aa c34),J,K,(h3.trans Fx.ic),Fx.ic,m24,lU,mZ,nT,oM,oN,oZ,b4⟩ ?_;show(m.s.nn-(intOf (au ((k:Int)+1))).toNat)<_;simp only[Y,intOf]; omega
 refine Lv aF (iM c18)<|aD<|aL<|Wx<|cK<|gU<|cO<|sN<|Ws<|ay<|aY h3 ?_;by_cases c38:5<=(G:Int)
 ·refine Lv aG (ko c38)<|av aG<|dB<|dB<|dB<|av aG<|aD<|aO<|ay<|av (au 6)<|aD<|Wr<|sR<|aJ (au 6) ?_;have N:k=m.s.nn:=by omega
  subst N;have H:jV m.core v=6:=d_ (.inl (by rw[show nK m.core.id v.o m.core.nn=G from aa.symm]; omega));exact⟨oV H.symm,b2,fun U=>by rw[H]at U; cases U⟩
 refine Lv aF (jT c38)<|av aF<|Lv (pf I 11) (jB K 11)<|Lv (au v.aT) (aM W.aH 11) ?_;by_cases Sg:140737488355328<v.aT
 ·refine Lv aG (nu Sg)<|av aG<|aD<|aO<|ay<|av (au 6)<|aD<|Wr<|sR<|aJ (au 6) ?_;have N:k=m.s.nn:=by omega
  subst N;have H:jV m.core v=6:=d_ (.inr (by omega));exact⟨oV H.symm,b2,fun U=>by rw[H]at U; cases U⟩
 refine Lv aF (ny Sg)<|av aF<|aD<|aL<|Wk<|sN<|ay<|Lv (pt I) (jB K 0)<|Lv (au v.o) (aM W.aH 0)<|Lv (pf I 1) (jB K 1)<|Lv (aC v.seq) (aM W.aH 1)<|oC (ajT v.o v.seq _) _ rfl<|av (aC (iY v.o v.seq))<|aD<|Ws ?_;refine jS [0,1,2,4,5,3,6,7,8] [0,0,0,4,0,0,4,3,0] [(7,3,[3]),(7,6,[6]),(8,7,[7])] fun qE dU iC => ?_;have⟨m32,qw,og,qG,pV,uf,rP⟩:=jw dU m8 m9 m10 m11 m12 m13 W;have b5:=eP dU b2 u;refine bU J<|aZ (pt p)<|aZ (pf p 20)<|aZ (aC (iY v.o v.seq))<|Rp (pf I 9) (fun _=>jB K 9)<|Rs (pt m.tb) (aM m32.aH 20) ?_;refine Rs (aC v.node) (aM rP.aH 9) ?_;refine gG<|dL (aeV B m.tb m.ta m.tn m.tc m.t (iY v.o v.seq) v.node D _ qG pV (fun e=>Fx.Ty.ne (pV.ty e) qG.ty (by decide) rfl) (m_ u b5.size) bt hD hD2) _ rfl ?_;rintro X ⟨afd,hcs1⟩;have hc1:jl [111,172] qE X:=Fx.jl.RD afd (by rintro k (rfl|e) <;> first|exact⟨_,qG.ty,by decide⟩|exact⟨_,pV.ty e,by decide⟩)
 have qM:aQ X p 27 (mD m) 56:=m32.kg hc1 (by decide);have uq:Fx.Own X B 84 56 (.slice m.s.na (m.s.nn) (m.s.nc)) m.s.nn (Jw m):=qw.kg hc1 (by decide);have nU:Fx.Own X B 99 5 (.slice m.s.ga (m.s.gn) (m.s.gc)) m.s.gn (IW m):=og.kg hc1 (by decide);have nD:vP X B 6 m:=uf.kg hc1 (by decide);have nE:aQ X I 14 (bH v) 28:=rP.kg hc1 (by decide);have b6:Below B w X:=Fx.jM.below b5 afd (by rintro k (rfl|e) <;> first|exact Du|exact(pV.ge e).1) (m_ u b5.size)
 rcases hcs1 with ⟨Q,hT1,hO1⟩|⟨Q,g9,Xp,hT1,hO1,hne1⟩
 ·refine Ln<|aZ (au (jk m.t m.tn (iY v.o v.seq) v.node))<|bO<|Ws<|ay<|av (au (jk m.t m.tn (iY v.o v.seq) v.node))<|Lv aG (mX Q)<|aD<|aO<|ay<|av (au (jk m.t m.tn (iY v.o v.seq) v.node))<|av (au (jk m.t m.tn (iY v.o v.seq) v.node))<|aD<|Wr<|sR<|aJ (au (jk m.t m.tn (iY v.o v.seq) v.node)) ?_;have N:k=m.s.nn:=by omega
  subst N;have H:jV m.core v=jk m.t m.tn (iY v.o v.seq) v.node:=b_ (fun h=>h.elim (fun h=>by rw[show nK m.core.id v.o m.core.nn=G from aa.symm]at h; omega) (fun h=>by omega));exact⟨oV H.symm,b6,fun U=>L_ (H.symm.trans U) Q⟩
 refine Ln<|aZ (au (jk m.t m.tn (iY v.o v.seq) v.node))<|bO<|Ws<|ay<|av (au (jk m.t m.tn (iY v.o v.seq) v.node))<|Lv aF (jH Q)<|aD<|aL<|Wk<|sN<|ay<|av (aC (iY v.o v.seq))<|Lv (pf I 9) (jB K 9)<|Lv (aC v.node) (aM nE.aH 9)<|av (.agg (aA 56 (bR (bR (fun L=>if L<2 then aC 0 else au 0) 0 1 (fun _=>aC (iY v.o v.seq))) 1 1 (fun _=>aC v.node))))<|qC 56 (fun L=>if L<2 then aC 0 else au 0) fun M w4 yZ rY s5 z2 => ?_;have⟨rQ,pz,rZ,xB,tK,sQ,uw⟩:=jw s5.old qM uq nU nD nE hT1 hO1;have b7:=eP s5.old b6 u;have qN:=jc yZ b6.size;have ajY:=cu yZ qM.lt;have EG:(.slice m.s.na (m.s.nn) (m.s.nc):Value).ownBlock≠some M:=by rw[yZ]; exact uq.mH (z_ _)
 have⟨ajZ,akb,aaU⟩:=Dh yZ nE.lt hT1.lt hO1.lt;have zL:=rY.lt;refine dZ rY 0 (h1:=(bS (bS (fun jq _=>by show((fun L=>if L<2 then aC 0 else au 0:Nat->Value) jq).oneCell'=true; simp only[]; repeat (first|rfl|split)) (fun _ _=>rfl)) (fun _ _=>rfl))) fun w5 uU s6 z3 => ?_
 have uV:aQ w5 M 56 (bR (bR (fun L=>if L<2 then aC 0 else au 0) 0 1 (fun _=>aC (iY v.o v.seq))) 1 1 (fun _=>aC v.node)) 84:=aR uU;have gM:=gK s6 rY.ty;have uy:=jO gM rQ;have wD:=pz.bY s6 EG;have⟨sS,sj,sU,xC,ru⟩:=qb gM rZ xB tK sQ uw;have b8:=s6.below b7 (m_ u b7.size) (by omega);refine aD<|Ws ?_;have uW:aQ w5 M 56 (mO (iY v.o v.seq) v.node (fun _=>0)) 84:=uV.congr (fun j hj=>TJ j);refine Wl<|Lv (pt I) (jB K 0)<|Lv (au v.o) (aM sU.aH 0)<|Lv (au a) fQ<|Lv (pf I 11) (jB K 11)<|Lv (au v.aT) (aM sU.aH 11)<|av (pf M 2)<|av (pf M 2)<|Lv (pf M (a+2)) (jm 6 1)<|iX uW (a+2) (au v.aT) fun w6 oh s7 z4 => ?_;have tL:aQ w6 M 56 (mO (iY v.o v.seq) v.node (upd (fun _=>0) a v.aT)) 84:=oh.to (Oi (by omega));have kr:=gK s7 uW.ty;have m64:=jO kr uy;have yY:=wD.bY s7 EG;have⟨wE,wR,wK,sV,uX⟩:=qb kr sS sj sU xC ru;have b9:=s7.below b8 (m_ u b8.size) (by omega);refine aD<|Ws ?_;have ek0:k=m.s.nn:=by omega
 obtain⟨cn0,aff,hc38⟩ : ∃ cn0,cn0=nK m.id v.o m.s.nn /\ ¬ (5:Int)<=(cn0:Int):=⟨G,by rw[<- ek0]; exact aa,c38⟩;clear aa hcl ek0;refine Wl<|aY J<|av (pt p)<|av (pt p)<|av (pf p 18)<|Lv (.slice m.s.na (m.s.nn) (m.s.nc)) (aM m64.aH 18)<|av (au m.s.nn)<|av (au m.s.nn)<|aD<|Ws ?_;refine Au [0,1,2,3,4,5,6,7,8,9,10,11,12] [0,0,0,0,0,1,4,2,2,0,0,0,3] (jl [84]) wX Fx.jl.trans (fT := [(12,5,[5]),(7,6,[6]),(8,6,[7,6]),(12,6,[6]),(8,7,[7]),(9,7,[7]),(10,7,[7]),(11,7,[7]),(12,7,[7]),(9,8,[8]),(10,8,[8]),(11,8,[8]),(12,8,[8])]) (by kernel_rfl) (by kernel_rfl) (by kernel_rfl) (by kernel_rfl) (by kernel_rfl) fun Dl gH nZ => ?_;have⟨uz,vI,tN,Ah,vJ,yt,yu,wS⟩:=lK gH m64 yY wE wR wK sV uX tL;have b10:=eP gH b9 u;refine bU J<|bU J<|aZ (pt p)<|aZ (pt p)<|aZ (pf p 18)<|Rd (v := .slice m.s.na (m.s.nn) (m.s.nc)) (by rfl) (by rfl) (wX _) (fun F E=>bF (x:=mD m) rfl rfl (by kernel_rfl) (uz.kg E (by decide)).aH (i:=18) (by omega) (by omega) rfl) ?_;refine Rs (.agg (aA 56 (mO (iY v.o v.seq) v.node (upd (fun _=>0) a v.aT)))) (fJ wS.aH 0) ?_;refine Dc<|Af (vs := [(0,.agg (aA 56 (mO (iY v.o v.seq) v.node (upd (fun _=>0) a v.aT))))]) (s:=56) (zc:=fun L=>if L<2 then aC 0 else au 0) (y:=bR (fun j=>(fun L=>if L<2 then aC 0 else au 0) (j % 56)) (0*56) 56 (mO (iY v.o v.seq) v.node (upd (fun _=>0) a v.aT))) (by rfl) rfl rfl Tryd.underlying48 (by kernel_rfl) (by rfl) (by rfl) (by kernel_rfl) (by rw[bJ (off:=0*56) (s:=56) (y:=mO (iY v.o v.seq) v.node (upd (fun _=>0) a v.aT)) rfl (bL _ _) (by rfl)]; rfl) rfl fun g3 w7 xE wT s9 z5 => ?_;have⟨sZ,uY,xD,yw,wF,zw,yx,zJ⟩:=lK s9.old uz vI tN Ah vJ yt yu wS;have b11:=eP s9.old b10 u;have Bz:=jc xE b10.size;have akd:=cu xE uz.lt;have ake:(.slice m.s.na (m.s.nn) (m.s.nc):Value).ownBlock≠some g3:=by rw[xE]; exact vI.mH (z_ _)
 have⟨akf,aaV,I4,aaW⟩:=Iy xE vJ.lt yt.lt yu.lt wS.lt;have IK:=wT.lt;refine Ln ⟨Fx.jl.of_below s9.old,?_⟩;refine Dc<|Ar (B:=B) (s:=56) (bytes:=448) (k:=m.s.nn) (m:=1) (v := .slice m.s.na (m.s.nn) (m.s.nc)) (x:=Jw m) (by rfl) rfl rfl rfl Tryd.underlying48 (by kernel_rfl) (by kernel_rfl) rfl rfl uY wT.aH (yE (xH _ _ _)) (by omega) (by omega) (by omega) (m_ u b11.size) fun l A w8 ho1 hg1 wJ hlt1 => ?_;have qZ:=Av hg1 uY;have⟨yB,Ai,Ez,Dt,CF,CG⟩:=WE qZ sZ xD yw wF zw yx;have Aj:=zJ.grown hg1 EG;have akg:M≠l:=fun e=>wJ.elim (fun e2=>EG (by rw[e]; exact e2)) (fun e2=>by have:=zJ.lt; omega);have yA:Fx.Own w8 B 84 56 (bK l (m.s.nn+1) A) (m.s.nn+1) (flat 56 (Fx.JM (fun d=>mO (m.id d) (m.par d) (m.R d)) (mO (iY v.o v.seq) v.node (upd (fun _=>0) a v.aT)) m.s.nn m.s.nn)):=(ho1.congr (fun j hj=>(Fx.Eo j hj).trans (bP (fun i V q _=>Fx.wY i V q) j hj)));have b12:Below B w w8:=Aq b11 hg1 (m_ u b11.size) (fun q hq=>(uY.ge hq).1);refine Ln ⟨qZ,?_⟩;refine aZ (pt p)<|aZ (pt p)<|aZ (pf p 18)<|gG<|iX yB 18 (bK l (m.s.nn+1) A) fun w9 FT s10 z6 => ?_;have yX:=gK s10 yB.ty;have⟨EF,FU,F9,vR,zO,uK,sD⟩:=RH yX Ai Ez Dt CF CG Aj yA;have b13:=s10.below b12 (m_ u b12.size) (by omega);refine Ln<|bO<|Ws<|Wb<|Wo (fun f z => ∃ k:Nat,k<=m.s.nn/\(∀ i,k<=i->i<m.s.nn->(iY v.o v.seq)<m.id i)/\f 0=(pt p)/\f 7=aC (iY v.o v.seq)/\f 9=(pt M)/\f 10=au (k:Int)/\Fx.Own z B 99 5 (.slice m.s.ga (m.s.gn) (m.s.gc)) m.s.gn (IW m)/\vP z B 6 m/\aQ z I 14 (bH v) 28/\aQ z m.tb 1 (fun _=>bK g9 (m.tn+1) Xp) 111/\Fx.Own z B 172 2 (bK g9 (m.tn+1) Xp) (m.tn+1) (rv .u64 (kK (oF m.t (down (fun i=>decide ((iY v.o v.seq)<m.t i 0)) m.tn) (iY v.o v.seq) v.node)))/\aQ z M 56 (mO (iY v.o v.seq) v.node (upd (fun _=>0) a v.aT)) 84/\aQ z p 27 (dD (mD m) 18 (bK l (m.s.nn+1) A)) 56/\Fx.Own z B 84 56 (bK l (m.s.nn+1) A) (m.s.nn+1) (flat 56 (Fx.JM (fun d=>mO (m.id d) (m.par d) (m.R d)) (mO (iY v.o v.seq) v.node (upd (fun _=>0) a v.aT)) m.s.nn k))/\Below B w z) (fun f _=>(intOf (f 10)).toNat) ⟨m.s.nn,by omega,(fun i J K=>L_ J (by omega)),J,Fx.ic,(by rfl),Fx.ic,EF,FU,F9,vR,zO,uK,FT,sD,b13⟩ ?_;rintro f2 rO ⟨k,hk,hgt,Z,h6,h7,P,nL,nM,qh,qH,qI,sF,vS,sG,b14⟩;refine Ws<|ay<|aY P ?_;by_cases c91:0<(k:Int)
 ·obtain⟨j,ej⟩ : ∃ j,k=j+1:=⟨k-1,by omega⟩;refine Lv aG (nu c91)<|av aG<|aY Z<|av (pt p)<|av (pt p)<|av (pf p 18)<|Lv (bK l (m.s.nn+1) A) (aM vS.aH 18 (Fx.kY (by omega)))<|aY P<|Lv (au j) fQ<|Lv (pf l (56*j)) (dh 56)<|av (pf l (56*j))<|Lv (aC (m.id j)) (aM sG.aH (56*j) (Fx.iw (k:=j) (j:=0) (by omega) (by omega) ((congrFun (Fx.zm (by omega) (by omega)) 0).trans rfl)))<|aY h6 ?_;by_cases Xq:(iY v.o v.seq)<(m.id j)
  ·refine Lv aG (nu Xq)<|av aG<|aD<|aO<|Wk<|sN<|Wb<|Ws ?_;refine jS [0,1,2,3,5,6,7,8,9,11,12,4,10,13,14,15,16] [0,0,0,0,4,0,0,0,0,0,4,0,0,0,4,0,3] [(16,4,[4]),(16,10,[10]),(16,14,[14])] fun Q0 lJ AB => ?_;have⟨tO,xJ,tQ,za,zP,wM,tT,qj⟩:=lK lJ nL nM qh qH qI sF vS sG;have b15:=eP lJ b14 u;refine bU Z<|aZ (pt p)<|aZ (pt p)<|aZ (pf p 18)<|bU P<|bU Z<|aZ (pt p)<|aZ (pt p)<|aZ (pf p 18)<|bU P<|Rp (au j) (fun _=>fQ)<|Rs (bK l (m.s.nn+1) A) (aM tT.aH 18 (Fx.kY (by omega))) ?_;refine Rs (bK l (m.s.nn+1) A) (aM tT.aH 18 (Fx.kY (by omega))) ?_;refine Rp (pf l (56*j)) (fun _=>dh 56)<|Rs (.agg (aA 56 (mO (m.id j) (m.par j) (m.R j)))) (fJ qj.aH (56*j) (fun jq hjq=>(Fx.mo (k:=j) (by omega) hjq).trans (congrFun (Fx.zm (by omega) (by omega)) jq))) ?_;refine Rp (pf l (56*k)) (fun _=>dh 56)<|gG<|zH qj (56*k) (h1:=(fun j _=>xH _ _ _ j)) fun F7 vT s12 z7 => ?_;have xA:=gK s12 qj.JL;have⟨wN,vU,Dv,EH,EI⟩:=qb xA tO xJ tQ za zP;have BI:=wM.bY s12 (by omega);have Dw:=jO xA tT;have b16:=s12.below b15 (m_ u b15.size) qj.blk.1;have Ga:Fx.Own F7 B 84 56 (bK l (m.s.nn+1) A) (m.s.nn+1) (flat 56 (Fx.JM (fun d=>mO (m.id d) (m.par d) (m.R d)) (mO (iY v.o v.seq) v.node (upd (fun _=>0) a v.aT)) m.s.nn j)):=vT.congr (fun T S=>(Fx.ug (k:=k) (by omega) T S).trans (bP (fun i V q _=>Fx.xZ ej (by omega) i V q) T S));refine Ln<|bO<|Wl<|aY P<|Lv (au j) fQ<|av (au j)<|Ln<|bT<|iB ⟨j,by omega,(TK ej hgt Xq),Z,(h6.trans Fx.ic),h7,Fx.ic,wN,vU,Dv,EH,EI,BI,Dw,Ga,b16⟩ ?_;show(intOf (au j)).toNat<_;simp only[P,intOf]; omega
  refine Lv aF (ny Xq)<|av aF<|aD<|aL<|Wx<|cK<|gU<|cO<|sN<|Ws ?_;refine jS [0,1,2,3,5,4,6,7,8] [0,0,0,0,4,0,4,0,3] [(8,4,[4]),(8,6,[6])] fun wt4 qp Gy => ?_;have⟨wO,BJ,Kz,EJ,Dx,Dy,Gb⟩:=jw qp nL nM qH qI sF vS sG;have b17:=eP qp b14 u;refine bU Z<|aZ (pt p)<|aZ (pt p)<|aZ (pf p 18)<|bU P<|Rs (bK l (m.s.nn+1) A) (aM Dy.aH 18 (Fx.kY (by omega))) ?_;refine Rs (.agg (aA 56 (mO (iY v.o v.seq) v.node (upd (fun _=>0) a v.aT)))) (fJ Dx.aH 0 (ha:=h7)) ?_;refine Rp (pf l (56*k)) (fun _=>dh 56)<|gG<|zH Gb (56*k) (h1:=(fun j _=>xH _ _ _ j)) fun Cx AU Dm z8 => ?_;have BD:=gK Dm Gb.JL;have⟨AV,AX,EK,zQ⟩:=JN BD wO BJ Kz EJ;have BK:=Dx.bY Dm (by omega);have ze:=jO BD Dy;have b18:=Dm.below b17 (m_ u b17.size) Gb.blk.1;have I5:Fx.Own Cx B 84 56 (bK l (m.s.nn+1) A) (m.s.nn+1) (flat 56 (Fx.Ir (fun d=>mO (m.id d) (m.par d) (m.R d)) k (mO (iY v.o v.seq) v.node (upd (fun _=>0) a v.aT)))):=AU.congr (fun T S=>(Fx.ug (k:=k) (by omega) T S).trans (bP (fun i V q _=>Fx.sJ (by omega) i V q) T S));refine Ln<|bO<|ay<|av (au 0)<|aD<|Wr<|aJ (au 0) ?_;have H:jV m.core v=jk m.t m.tn (iY v.o v.seq) v.node:=b_ (fun h=>h.elim (fun h=>by rw[show nK m.core.id v.o m.core.nn=cn0 from aff.symm]at h; omega) (fun h=>by omega));have N:k=rD m.id m.s.nn (iY v.o v.seq):=Fx.oK hk (fun i a b=>f_ (hgt i a b)) (.inr (fun j2 e=>by rw[show j2=j by omega]; exact g_ Xq));have P9:Fx.Own Cx B 84 56 (bK l (m.s.nn+1) A) (m.s.nn+1) (flat 56 fun d=>mO (bZ m.id k (iY v.o v.seq) d) (bZ m.par k v.node d) (bZ m.R k (upd (fun _=>0) a v.aT) d)):=by rw[<- Oj]; exact I5
  have eR:(upd (fun _=>0) a v.aT)=upd (fun _=>0) (v.o-1).toNat v.aT:=by rw[show(v.o-1).toNat=a by omega]
  have bn9:m.tn+1<=33:=Ky Q;refine⟨oV (Q.symm.trans H.symm),b18,fun _=>⟨{ m with s := { m.s with na:=some ⟨l,0,none⟩,nn:=m.s.nn+1,nc:=A },id:=bZ m.id k (iY v.o v.seq),par:=bZ m.par k v.node,R:=bZ m.R k (upd (fun _=>0) a v.aT),ta:=some ⟨g9,0,none⟩,tn:=m.tn+1,tc:=Xp,t:=oF m.t (down (fun i=>decide ((iY v.o v.seq)<m.t i 0)) m.tn) (iY v.o v.seq) v.node },?_,?_⟩⟩
  ·unfold qg; rw[show rD m.core.id m.core.nn (iY v.o v.seq)=k from N.symm,<- eR]; rfl
  exact { c:=ze.to (GL m _ _ _),n:=P9,g:=AV,tc:=EK,t:=zQ,r:=AX,pB:=TN,tB:=Du,bn:=(by have:=bnn; show m.s.nn+1<=1000; omega),bg:=bg,bt:=(by show m.tn+1<=1000; omega),br:=C.br }
 refine Lv aF (ny c91)<|av aF<|dB<|dB<|dB<|dB<|dB<|dB<|dB<|dB<|dB<|dB<|dB<|dB<|av aF<|aD<|aL<|Wx<|cK<|gU<|cO<|sN<|Ws ?_;refine jS [0,1,2,3,5,4,6,7,8] [0,0,0,0,4,0,4,0,3] [(8,4,[4]),(8,6,[6])] fun wt5 zu Sk => ?_;have⟨TP,TQ,TR,aaX,TS,Qa,TT⟩:=jw zu nL nM qH qI sF vS sG;have b19:=eP zu b14 u;refine bU Z<|aZ (pt p)<|aZ (pt p)<|aZ (pf p 18)<|bU P<|Rs (bK l (m.s.nn+1) A) (aM Qa.aH 18 (Fx.kY (by omega))) ?_;refine Rs (.agg (aA 56 (mO (iY v.o v.seq) v.node (upd (fun _=>0) a v.aT)))) (fJ TS.aH 0 (ha:=h7)) ?_;refine Rp (pf l (56*k)) (fun _=>dh 56)<|gG<|zH TT (56*k) (h1:=(fun j _=>xH _ _ _ j)) fun F8 TU s16 z9 => ?_;have Dr:=gK s16 TT.JL;have⟨aaY,aaZ,Qb,abb⟩:=JN Dr TP TQ TR aaX;have afg:=TS.bY s16 (by omega);have abd:=jO Dr Qa;have b20:=s16.below b19 (m_ u b19.size) TT.blk.1;have abe:Fx.Own F8 B 84 56 (bK l (m.s.nn+1) A) (m.s.nn+1) (flat 56 (Fx.Ir (fun d=>mO (m.id d) (m.par d) (m.R d)) k (mO (iY v.o v.seq) v.node (upd (fun _=>0) a v.aT)))):=TU.congr (fun T S=>(Fx.ug (k:=k) (by omega) T S).trans (bP (fun i V q _=>Fx.sJ (by omega) i V q) T S));refine Ln<|bO<|ay<|av (au 0)<|aD<|Wr<|aJ (au 0) ?_;have H:jV m.core v=jk m.t m.tn (iY v.o v.seq) v.node:=b_ (fun h=>h.elim (fun h=>by rw[show nK m.core.id v.o m.core.nn=cn0 from aff.symm]at h; omega) (fun h=>by omega));have N:k=rD m.id m.s.nn (iY v.o v.seq):=Fx.oK hk (fun i a b=>f_ (hgt i a b)) (.inl (by omega));have abf:Fx.Own F8 B 84 56 (bK l (m.s.nn+1) A) (m.s.nn+1) (flat 56 fun d=>mO (bZ m.id k (iY v.o v.seq) d) (bZ m.par k v.node d) (bZ m.R k (upd (fun _=>0) a v.aT) d)):=by rw[<- Oj]; exact abe
 have eR:(upd (fun _=>0) a v.aT)=upd (fun _=>0) (v.o-1).toNat v.aT:=by rw[show(v.o-1).toNat=a by omega]
 have bn9:m.tn+1<=33:=Ky Q;refine⟨oV (Q.symm.trans H.symm),b20,fun _=>⟨{ m with s := { m.s with na:=some ⟨l,0,none⟩,nn:=m.s.nn+1,nc:=A },id:=bZ m.id k (iY v.o v.seq),par:=bZ m.par k v.node,R:=bZ m.R k (upd (fun _=>0) a v.aT),ta:=some ⟨g9,0,none⟩,tn:=m.tn+1,tc:=Xp,t:=oF m.t (down (fun i=>decide ((iY v.o v.seq)<m.t i 0)) m.tn) (iY v.o v.seq) v.node },?_,?_⟩⟩
 ·unfold qg; rw[show rD m.core.id m.core.nn (iY v.o v.seq)=k from N.symm,<- eR]; rfl
 exact { c:=abd.to (GL m _ _ _),n:=abf,g:=aaY,tc:=Qb,t:=abb,r:=aaZ,pB:=TN,tB:=Du,bn:=(by have:=bnn; show m.s.nn+1<=1000; omega),bg:=bg,bt:=(by show m.tn+1<=1000; omega),br:=C.br }
namespace Rt
theorem nN(x:Nat->Int)(n:Int)(is:Bool)(a:Int)(off:Nat) :
 ((bQ x n is a off).1=zero/\(bQ x n is a off).2≠0 /\ ¬ (may x=true/\1<=n/\n<=1125899906842624/\is=true/\a=0/\x off+n<=1125899906842624)) \/
 ((may x=true/\1<=n/\n<=1125899906842624/\is=true/\a=0/\x off+n<=1125899906842624)/\bQ x n is a off=(upd x off (x off+n),0)):=by
 unfold bQ;by_cases f:may x=true
 ·by_cases c:1<=n
  ·by_cases d:n<=1125899906842624
   ·rw[f,f_ c,f_ d];simp only[Bool.and_self,if_true]
    cases is
    ·left; exact⟨rfl,(by show(10:Int)≠0; decide),fun h=>by cases h.2.2.2.1⟩
    by_cases b:a=0
    ·by_cases e:x off+n<=1125899906842624
     ·right; exact⟨⟨trivial,c,d,rfl,b,e⟩,by rw[d_ rfl,d_ b,d_ e]⟩
     left; rw[d_ rfl,d_ b,b_ e]; exact⟨rfl,by decide,fun h=>e h.2.2.2.2.2⟩
    left; rw[d_ rfl,b_ b]; exact⟨rfl,b,fun h=>b h.2.2.2.2.1⟩
   left; rw[g_ d,H_,b_ (by decide)]; exact⟨rfl,by decide,fun h=>d h.2.2.1⟩
  left; rw[g_ c,H_,Bool.false_and,b_ (by decide)]; exact⟨rfl,by decide,fun h=>c h.2.1⟩
 left; rw[show may x=false by simpa using f,Bool.false_and,Bool.false_and,b_ (by decide)]; exact⟨rfl,by decide,fun h=>by cases h.1⟩
theorem ME{x:Nat->Int}(h:PX x){off:Nat}{n:Int}(h1:1<=n)(c:x off+n<=1125899906842624)(a:off<54):PX (upd x off (x off+n)):=by
 intro p b;unfold upd;split
 ·have:=h off a; omega
 exact h p b
theorem oP{i:Int}(h:gD i=true) : ∃ a:Nat,a<6/\i=(a:Int)+1/\i.toNat-1=a:=by
 have:1<=i/\i<=6:=by unfold gD at h; simpa using h
 exact⟨(i-1).toNat,by omega,by omega,by omega⟩
structure Moved(x y:Nat->Int)(a b:Nat)(n:Int):Prop where
 may:may y=true
 l : ∀ k,k<6->L y k=L x k+(if k=b then n else 0)-(if k=a then n else 0)
 g:su y=su x
 u:nJ y=nJ x
theorem AY{x:Nat->Int}{i j n:Int}(h:(cB x i j n).2=0) : ∃ a b:Nat,a<6/\b<6/\a≠b/\i=(a:Int)+1/\j=(b:Int)+1/\1<=n/\n<=1125899906842624/\n<=L x a/\Moved x (cB x i j n).1 a b n/\(cB x i j n).1=upd x (18+a*6+b) (x (18+a*6+b)+n):=by
 unfold cB at *
 rcases nN x n (gD i&&gD j) (nH x i j n) (kI i j)with ⟨_,f,_⟩|⟨⟨hm,h1,f,hr,he,hx⟩,heq⟩
 ·exact L_ h f
 rw[R_]at hr;obtain⟨a,g,l,D⟩:=oP hr.1;obtain⟨b,m,q,E⟩:=oP hr.2;have s:kI i j=18+a*6+b:=by unfold kI; rw[D,E]
 rw[s]at heq hx;rw[s];have B:a≠b:=by
  intro z;unfold nH at he;rw[d_ (by rw[l,q,z])]at he
  cases he
 have y:n<=L x a:=by
  unfold nH at he;rw[b_ (by omega)]at he;by_cases d:fF x i<n
  ·rw[f_ d]at he; cases he
  ·rw[l,nI hm a g]at d; omega
 obtain⟨e,t,w⟩:=(jK x).1 hm;have d:=aaK x a b g m n;have c : ∀ p,p<18->upd x (18+a*6+b) (x (18+a*6+b)+n) p=x p:=fun p I=>fZ _ _ _ _ (by omega);have o:su (upd x (18+a*6+b) (x (18+a*6+b)+n))=su x:=by unfold su G; rw[c 0 (by omega),c 1 (by omega),c 2 (by omega),c 3 (by omega),c 4 (by omega),c 5 (by omega)]
 have A:(bQ x n (gD i&&gD j) (nH x i j n) (18+a*6+b)).1=upd x (18+a*6+b) (x (18+a*6+b)+n):=by rw[heq]
 rw[A];refine⟨a,b,g,m,B,l,q,h1,f,y,⟨?_,d,o,?_⟩,rfl⟩
 ·rw[jK];refine⟨ME e h1 hx (by omega),fun k r => ?_,by rw[o]; exact w⟩;obtain⟨H,u,v⟩:=t k r;refine⟨?_,?_,?_⟩
  ·rw[d k r];split
   ·split <;> omega
   split
   ·rename_i hka; subst hka; omega
   omega
  ·unfold F C at *; rw[c _ (by omega),c _ (by omega)]; exact u
  unfold R at *; rw[fZ _ _ _ _ (by omega)]; exact v
 unfold nJ C F; simp only[c _ (show 6+0<18 by omega),c _ (show 6+1<18 by omega),c _ (show 6+2<18 by omega),c _ (show 6+3<18 by omega),c _ (show 6+4<18 by omega),c _ (show 6+5<18 by omega),c _ (show 12+0<18 by omega),c _ (show 12+1<18 by omega),c _ (show 12+2<18 by omega),c _ (show 12+3<18 by omega),c _ (show 12+4<18 by omega),c _ (show 12+5<18 by omega)]
theorem EL(x:Nat->Int)(off:Nat)(c:off<18)(v:Int)(a b:Nat):R (upd x off v) a b=R x a b:=fZ _ _ _ _ (by omega)
theorem TV(x:Nat->Int)(off:Nat)(a:off<18)(v:Int)(k:Nat):L (upd x off v) k=L x k+(G (upd x off v) k-G x k)+(F (upd x off v) k-F x k)-(C (upd x off v) k-C x k):=by
 unfold L;simp only[EL x off a v];omega
theorem afh(x:Nat->Int)(a:Nat)(n:Int)(k:Nat):C (upd x (6+a) (x (6+a)+n)) k=C x k+(if k=a then n else 0):=by
 unfold C upd;by_cases h:k=a
 ·subst h; simp
 rw[b_ (by omega),b_ h]; omega
theorem afi(x:Nat->Int)(a:Nat)(n:Int)(k:Nat):F (upd x (12+a) (x (12+a)+n)) k=F x k+(if k=a then n else 0):=by
 unfold F upd;by_cases h:k=a
 ·subst h; simp
 rw[b_ (by omega),b_ h]; omega
theorem afj(x:Nat->Int)(a:Nat)(n:Int)(k:Nat):G (upd x a (x a+n)) k=G x k+(if k=a then n else 0):=by
 unfold G upd;by_cases h:k=a
 ·subst h; simp
 rw[b_ h,b_ h]; omega
theorem six(a:Nat)(ha:a<6)(n:Int):(if 0=a then n else 0)+(if 1=a then n else 0)+(if 2=a then n else 0)+(if 3=a then n else 0)+(if 4=a then n else 0)+(if 5=a then n else 0)=n:=by
 have:a=0\/a=1\/a=2\/a=3\/a=4\/a=5:=by omega
 rcases this with h|h|h|h|h|h <;> subst h <;> simp
theorem I6{x:Nat->Int}{i n:Int}(h:(bC x i n).2=0) : ∃ a:Nat,a<6/\i=(a:Int)+1/\1<=n/\n<=1125899906842624/\n<=L x a/\C x a+n<=1125899906842624/\may (bC x i n).1=true /\
 (∀ k,k<6->L (bC x i n).1 k=L x k-(if k=a then n else 0))/\su (bC x i n).1=su x/\nJ (bC x i n).1=nJ x+n/\(bC x i n).1=upd x (6+a) (x (6+a)+n):=by
 unfold bC at *
 rcases nN x n (gD i) (qx x i n) (6+(i.toNat-1))with ⟨_,j,_⟩|⟨⟨hm,h1,j,hr,he,hx⟩,heq⟩
 ·exact L_ h j
 obtain⟨a,l,o,p⟩:=oP hr;rw[p]at heq hx;rw[p];have t:n<=L x a:=by
  unfold qx at he;by_cases g:fF x i<n
  ·rw[f_ g]at he; cases he
  ·rw[o,nI hm a l]at g; omega
 obtain⟨e,q,s⟩:=(jK x).1 hm;have u:(bQ x n (gD i) (qx x i n) (6+a)).1=upd x (6+a) (x (6+a)+n):=by rw[heq]
 rw[u];have b:=afh x a n;have f : ∀ k,k<6->G (upd x (6+a) (x (6+a)+n)) k=G x k:=fun k d=>fZ _ _ _ _ (by omega);have c : ∀ k,k<6->F (upd x (6+a) (x (6+a)+n)) k=F x k:=fun k d=>fZ _ _ _ _ (by omega);have g : ∀ k,k<6->L (upd x (6+a) (x (6+a)+n)) k=L x k-(if k=a then n else 0):=by
  intro k d;rw[TV x (6+a) (by omega),f k d,c k d,b k]; omega
 have m:su (upd x (6+a) (x (6+a)+n))=su x:=by unfold su; rw[f 0 (by omega),f 1 (by omega),f 2 (by omega),f 3 (by omega),f 4 (by omega),f 5 (by omega)]
 refine⟨a,l,o,h1,j,t,hx,?_,g,m,?_,rfl⟩
 ·rw[jK];refine⟨ME e h1 hx (by omega),fun k d => ?_,by rw[m]; exact s⟩;obtain⟨v,w,r⟩:=q k d;refine⟨?_,?_,?_⟩
  ·rw[g k d];split
   ·rename_i hka; subst hka; omega
   omega
  ·rw[c k d,b k]; split <;> omega
  rw[EL x (6+a) (by omega)]; exact r
 unfold nJ;rw[c 0 (by omega),c 1 (by omega),c 2 (by omega),c 3 (by omega),c 4 (by omega),c 5 (by omega),b 0,b 1,b 2,b 3,b 4,b 5];have:=six a l n;omega
theorem I7{x:Nat->Int}{i n:Int}(h:(bD x i n).2=0) : ∃ a:Nat,a<6/\i=(a:Int)+1/\1<=n/\n<=1125899906842624/\n<=C x a-F x a/\may (bD x i n).1=true /\
 (∀ k,k<6->L (bD x i n).1 k=L x k+(if k=a then n else 0))/\su (bD x i n).1=su x/\nJ (bD x i n).1=nJ x-n/\(bD x i n).1=upd x (12+a) (x (12+a)+n):=by
 unfold bD at *
 rcases nN x n (gD i) (qy x i n) (12+(i.toNat-1))with ⟨_,j,_⟩|⟨⟨hm,h1,j,hr,he,hx⟩,heq⟩
 ·exact L_ h j
 obtain⟨a,m,u,l⟩:=oP hr;rw[l]at heq hx;rw[l];have s:n<=C x a-F x a:=by
  unfold qy at he;rw[l]at he;by_cases g:C x a-F x a<n
  ·rw[f_ g]at he; cases he
  ·omega
 obtain⟨e,p,r⟩:=(jK x).1 hm;have t:(bQ x n (gD i) (qy x i n) (12+a)).1=upd x (12+a) (x (12+a)+n):=by rw[heq]
 rw[t];have c:=afi x a n;have f : ∀ k,k<6->G (upd x (12+a) (x (12+a)+n)) k=G x k:=fun k d=>fZ _ _ _ _ (by omega);have b : ∀ k,k<6->C (upd x (12+a) (x (12+a)+n)) k=C x k:=fun k d=>fZ _ _ _ _ (by omega);have g : ∀ k,k<6->L (upd x (12+a) (x (12+a)+n)) k=L x k+(if k=a then n else 0):=by
  intro k d;rw[TV x (12+a) (by omega),f k d,c k,b k d]; omega
 have o:su (upd x (12+a) (x (12+a)+n))=su x:=by unfold su; rw[f 0 (by omega),f 1 (by omega),f 2 (by omega),f 3 (by omega),f 4 (by omega),f 5 (by omega)]
 refine⟨a,m,u,h1,j,s,?_,g,o,?_,rfl⟩
 ·rw[jK];refine⟨ME e h1 hx (by omega),fun k d => ?_,by rw[o]; exact r⟩;obtain⟨v,w,q⟩:=p k d;refine⟨?_,?_,?_⟩
  ·rw[g k d]; split <;> omega
  ·rw[c k,b k d];split
   ·rename_i hka; subst hka; omega
   omega
  rw[EL x (12+a) (by omega)]; exact q
 unfold nJ;rw[b 0 (by omega),b 1 (by omega),b 2 (by omega),b 3 (by omega),b 4 (by omega),b 5 (by omega),c 0,c 1,c 2,c 3,c 4,c 5];have:=six a m n;omega
end Rt
section
namespace Rt
def cZ(f:(Nat->Int)->(Nat->Int) × Int)(idx:Nat->Nat)(R:Nat->Nat->Int):Nat->(Nat->Nat->Int) × Int
 | 0=>(R,0)
 | j+1=>if(cZ f idx R j).2=0 then(if(f ((cZ f idx R j).1 (idx j))).2=0 then(aI (cZ f idx R j).1 (idx j) (f ((cZ f idx R j).1 (idx j))).1,0)else((cZ f idx R j).1,(f ((cZ f idx R j).1 (idx j))).2))else cZ f idx R j
section
variable {f:(Nat->Int)->(Nat->Int) × Int} {idx:Nat->Nat} {R Rk:Nat->Nat->Int} {k q:Nat}
theorem EM(h:cZ f idx R k=(Rk,0))(e:idx k=q)(a:(f (Rk q)).2=0):cZ f idx R (k+1)=(aI Rk q (f (Rk q)).1,0):=by
 unfold cZ; rw[h,d_ rfl,e,d_ a]
theorem GQ(h:cZ f idx R k=(Rk,0))(e:idx k=q)(a : ¬ (f (Rk q)).2=0):(cZ f idx R (k+1)).2=(f (Rk q)).2:=by
 unfold cZ; rw[h,d_ rfl,e,b_ a]
theorem zR(a : ¬ (cZ f idx R k).2=0) : ∀ n,k<=n->cZ f idx R n=cZ f idx R k
 | 0,h=>by obtain rfl:k=0:=by omega
           rfl
 | n+1,h=>by
   by_cases e:k=n+1
   ·rw[e]
   ·have:=zR a n (by omega);rw[cZ,this,b_ a]
end
def lead(P:Nat->Bool):Nat->Nat
 | 0=>0
 | n+1=>if lead P n=n/\P n=true then n+1 else lead P n
theorem I8(P:Nat->Bool) : ∀ n,lead P n<=n
 | 0=>z_ _
 | n+1=>by
   unfold lead; split
   ·exact z_ _
   ·have:=I8 P n; omega
theorem KA{P:Nat->Bool} : ∀ {n:Nat},(∀ i,i<n->P i=true)->lead P n=n
 | 0,_=>rfl
 | n+1,h=>by unfold lead; rw[d_ ⟨KA fun i a=>h i (by omega),h n (by omega)⟩]
theorem Ol{P:Nat->Bool}{K:Nat}(h1 : ∀ i,i<K->P i=true)(a:P K=false) : ∀ {n:Nat},K<=n->lead P n=K
 | 0,h=>by unfold lead; omega
 | n+1,h=>by
   unfold lead;by_cases e:K=n+1
   ·rw[d_ ⟨KA fun i d=>h1 i (by omega),h1 n (by omega)⟩]; exact e.symm
   ·rw[Ol h1 a (n:=n) (by omega),b_];rintro ⟨c,b⟩;subst c; rw[a]at b; cases b
def dR(t:Nat->Nat->Int)(tn:Nat)(x:Int):Nat:=lead (fun i=>decide (0<=bB t tn (aW t tn i x))) 1000
theorem uL{t:Nat->Nat->Int}{tn K D:Nat}{x:Int}(h1 : ∀ i,i<K->0<=bB t tn (aW t tn i x))(c:bB t tn (aW t tn K x)<0)(d:bB t tn (aW t tn D x)<0)(e:D<=1000):K=dR t tn x:=by
 have a:K<=1000:=by
  rcases Nat.lt_or_ge D K with h|h
  ·have:=h1 D h; omega
  ·omega
 exact(Ol (fun i b=>f_ (h1 i b)) (g_ (by omega)) a).symm
end Rt
def fB.node(L:fB)(x:Int):Int:=gI (fun i=>decide (L.id i=x)) L.nn
def fB.grant(L:fB)(o r:Int):Int:=gI (fun i=>decide (L.g i 0=o)&&decide (L.g i 1=r)) L.gn
def fB.kM(L:fB)(a:Nat)(r:Int):Int:=gI (fun i=>decide (L.rq a i=r)) (L.rn a)
namespace Rt
def nV(L:fB)(x:Int)(i:Nat):Nat:=(L.node (aW L.t L.tn i x)).toNat
def pW(v:EvM):Nat->Int:=fun j=>if j=0 then v.o else if j=1 then v.req else if j=2 then v.node else if j=3 then v.aT else 0
def EN(v:EvM)(x:Nat->Int):Bool:=decide (v.o<x 0) || (decide (x 0=v.o)&&decide (v.req<x 1))
def aK(v:EvM):Nat:=(v.o-1).toNat
def mP(L:fB)(v:EvM):(Nat->Nat->Int) × Int:=cZ (fun x=>bC x v.o v.aT) (nV L v.node) L.R (dR L.t L.tn v.node)
def iN(L:fB)(v:EvM):Int:=if 0<=L.kM (aK v) v.req then 14 else if dR L.t L.tn v.node=0 then 9 else(mP L v).2
def ql(L:fB)(a:Nat)(r:Int):fB := { L with rn:=aI L.rn a (L.rn a+1),rq:=aI L.rq a (aI (L.rq a) (L.rn a) r) }
def lN(L:fB)(v:EvM):fB :=
 ql { L with R:=(mP L v).1,gn:=L.gn+1,g:=bZ L.g (down (fun i=>EN v (L.g i)) L.gn) (pW v) } (aK v) v.req
theorem BL{n q:Nat}{id par:Nat->Int}{R:Nat->Nat->Int}{r:Nat->Int} : ∀ i,i<n -> ∀ j,j<56->Fx.rU (fun a=>mO (id a) (par a) (R a)) q (bR (mO (id q) (par q) (R q)) 2 54 (rv .i64 r)) i j=mO (id i) (par i) (aI R q r i) j:=fun i _ j d=>by
 unfold Fx.rU aI;by_cases h:i=q
 ·subst h;rw[d_ rfl,d_ rfl];unfold bR mO rv;by_cases b:j=0
  ·subst b; rfl
  ·by_cases c:j=1
   ·subst c; rfl
   ·rw[d_ (by omega),b_ b,b_ c]
 ·rw[b_ h,b_ h]
theorem Xr{g:Nat->Nat->Int}{k:Nat}{x:Nat->Int}:Fx.Ir (fun a=>ng (g a)) k (ng x)=fun a=>ng (bZ g k x a):=by
 funext i
 unfold Fx.Ir bZ;by_cases h:i<k
 ·simp only[d_ h]
 by_cases b:i=k
 ·simp only[b_ h,d_ b]
 simp only[b_ h,b_ b]
theorem MF(m:lH)(a:Option Addr)(n c:Nat):dD (mD m) 19 (.slice a n c)=mD { m with s := { m.s with ga:=a,gn:=n,gc:=c } }:=by
 funext p
 unfold dD mD;by_cases h:p=19
 ·subst h; rfl
 rw[b_ h];by_cases e:p<20
 ·rw[d_ e,d_ e]; unfold Dq;by_cases b:p<6
  ·rw[d_ b,d_ b]
  by_cases d:p<12
  ·rw[b_ b,d_ d,b_ b,d_ d]
  by_cases f:p<18
  ·rw[b_ b,b_ d,d_ f,b_ b,b_ d,d_ f]
  rw[b_ b,b_ d,b_ f,d_ (by omega),b_ b,b_ d,b_ f,d_ (by omega)]
 rw[b_ e,b_ e]
theorem KC(m:lH){i q:Nat}(f:q=i+21)(a:Option Addr)(n c:Nat):dD (mD m) q (.slice a n c)=mD { m with ra:=aI m.ra i a,rn:=aI m.rn i n,rc:=aI m.rc i c }:=by
 subst f
 funext p
 unfold dD mD;by_cases h:p=i+21
 ·subst h;rw[d_ rfl,b_ (by omega),b_ (by omega),Nat.add_sub_cancel];simp[aI]
 rw[b_ h];by_cases b:p<20
 ·rw[d_ b,d_ b]
 rw[b_ b,b_ b];by_cases d:p=20
 ·rw[d_ d,d_ d]
 rw[b_ d,b_ d];have e : ¬ p-21=i:=by omega
 simp[aI,e]
theorem vP.app{w w':World}{B a g cap:Nat}{r:Int}{m d:lH}(h:vP w B 6 m)(_ha:a<6)(h1:d.ra=aI m.ra a (some ⟨g,0,none⟩))(l:d.rn=aI m.rn a (m.rn a+1))(t:d.rc=aI m.rc a cap)(u:d.rq=aI m.rq a (aI (m.rq a) (m.rn a) r))
 (z:Fx.Own w' B 22 1 (bK g (m.rn a+1) cap) (m.rn a+1) (rv .u64 (aI (m.rq a) (m.rn a) r))) (A:w.grownBy w' (sw m a).ownBlock) (C:(sw m a).ownBlock=some g\/g=w.heap.size):vP w' B 6 d:=by
 have k : ∀ i,i≠a->sw d i=sw m i:=fun i c=>by unfold sw; rw[h1,l,t]; simp[aI,c]
 have n:sw d a=bK g (m.rn a+1) cap:=by unfold sw; rw[h1,l,t]; simp[aI]
 have y : ∀ i,i<6->i≠a -> ∀ q,(sw m i).ownBlock=some q->q≠g:=fun i c D q b e=>by
  subst e
  rcases C with f|f
  ·exact h.2 i a c _ha D q b f
  ·have:=((h.1 i c).ge b).2; omega
 refine⟨fun i c => ?_,fun i j c v p q b => ?_⟩
 ·by_cases e:i=a
  ·subst e; rw[n,l,u]; simp only[aI,if_true]; exact z
  rw[k i e,l,u];simp only[aI,b_ e];refine World.ownsRow.kept (h.1 i c) A ?_;by_cases x:(sw m i).ownBlock=none
  ·exact .inl x
  right;intro f
  cases b:(sw m i).ownBlock with
  | none=>exact x b
  | some q=>rw[b]at f; exact h.2 i a c _ha e q b f.symm
 by_cases e:i=a
 ·subst e;rw[n]at b;rw[k j (fun e=>p e.symm)];intro o;exact y j v (fun e=>p e.symm) q o (B_ b).symm
 rw[k i e]at b;by_cases s:j=a
 ·subst s; rw[n]; intro o; exact y i c e q b (B_ o).symm
 rw[k j s]; exact h.2 i j c v p q b
end Rt
end
def Jy(a:World)(l:List (Nat × (Nat->Int)))(w':World):Prop:=(∀ p∈l,w'.heap[p.1]? = some (.cells (aS .i64 54 p.2) 82 (0,0)))/\Below a.heap.size a w'
theorem Jy.up{b w w':World}{l:List (Nat × (Nat->Int))}(h:Jy b l w)(a:Below w.heap.size w w'):Jy b l w':=⟨fun p c=>Rx (h.1 p c) a,Jt h.2 a⟩
instance {a w w':World} {l:List (Nat × (Nat->Int))}:Rt.Tr w w' (Jy a l w) (Jy a l w'):=⟨fun b h=>h.up b⟩
theorem Jy.drew{a w:World}{l:List (Nat × (Nat->Int))}(h:Jy a l w):Jy a l w.drew:=⟨h.1,bN h.2 1⟩
theorem Jy.drop{a w:World}{p:Nat × (Nat->Int)}{l:List (Nat × (Nat->Int))}(h:Jy a (p::l) w):Jy a l w:=⟨fun q b=>h.1 q (by simp[b]),h.2⟩
theorem Jy.row{b w:World}{l:List (Nat × (Nat->Int))}(h:Jy b l w)(g:Nat)(x:Nat->Int)(a:(g,x)∈l):w.heap[g]? = some (.cells (aS .i64 54 x) 82 (0,0)):=h.1 (g,x) a
theorem Jy.add{b w:World}{l:List (Nat × (Nat->Int))}(h:Jy b l w){g:Nat}{x:Nat->Int}(c:w.heap[g]? = some (.cells (aS .i64 54 x) 82 (0,0))):Jy b ((g,x)::l) w :=
 ⟨fun p a=>by
  rcases List.mem_cons.1 a with rfl|a
  ·exact c
  ·exact h.1 p a,h.2⟩
theorem Jy.start(w:World)(x:Nat->Int):Jy w [(w.heap.size,x)] (w.alloc (.cells (aS .i64 54 x) 82)):=⟨fun p a=>by
 obtain rfl:p=(w.heap.size,x):=by simpa using a
 exact heap_alloc_new w _,(Below.refl _ _).alloc (z_ _) _⟩
namespace Rt
def uM(x:Nat->Int)(k:Nat):Nat->Int
 | 0=>G x k-C x k+F x k
 | j+1=>uM x k j+R x j k-R x k j
theorem abg(x:Nat->Int)(k:Nat):uM x k 6=L x k:=by simp only[uM,L]; omega
theorem Om{x:Nat->Int}(h:PX x)(k:Nat)(d:k<6) : ∀ j:Nat,j<=6 -> -(1125899906842624*((j:Int)+1))<=uM x k j/\uM x k j<=1125899906842624*((j:Int)+2)
 | 0,_=>by
   have a:=h k (by omega); have b:=h (6+k) (by omega); have c:=h (12+k) (by omega);simp only[uM,G,C,F]; omega
 | j+1,hj=>by
   have:=Om h k d j (by omega);have a:=h (18+j*6+k) (by omega); have b:=h (18+k*6+j) (by omega);simp only[uM,R]; omega
end Rt
theorem mU(n:Int)(w:World) :
 Calls Tryd.prog 120 #[au n] w fun e w'=>e = .returned (.bool (zI n))/\w'=w:=by
 refine Kent Tryd.func120 9 ?_;refine ay<|av aF<|aD<|ay<|av (au n) ?_;by_cases a:0<=n
 ·refine Lv aG (ko a)<|av aG<|av (au n) ?_;by_cases b:n<=1125899906842624
  ·refine Lv aG (mW b)<|av aG<|av aG<|aD<|Wr<|aJ aG ?_;exact⟨gY (by simp only[zI]; first|(symm; simp; omega)|(symm; simp; done)),rfl⟩
  refine Lv aF (nk b)<|av aF<|av aF<|aD<|Wr<|aJ aF ?_;exact⟨gY (by simp only[zI]; first|(symm; simp; omega)|(symm; simp; done)),rfl⟩
 refine Lv aF (jT a)<|av aF<|dB<|dB<|av aF<|av aF<|aD<|Wr<|aJ aF ?_;exact⟨gY (by simp only[zI]; first|(symm; simp; omega)|(symm; simp; done)),rfl⟩
theorem yF(n:Int)(w:World) :
 Calls Tryd.prog 92 #[au n] w fun e w'=>e = .returned (.bool (gD n))/\w'=w:=by
 refine Kent Tryd.func92 9 ?_;refine ay<|av aF<|aD<|ay<|av (au n) ?_;by_cases a:1<=n
 ·refine Lv aG (ko a)<|av aG<|av (au n) ?_;by_cases b:n<=6
  ·refine Lv aG (mW b)<|av aG<|av aG<|aD<|Wr<|aJ aG ?_;exact⟨gY (by simp only[gD]; first|(symm; simp; omega)|(symm; simp; done)),rfl⟩
  refine Lv aF (nk b)<|av aF<|av aF<|aD<|Wr<|aJ aF ?_;exact⟨gY (by simp only[gD]; first|(symm; simp; omega)|(symm; simp; done)),rfl⟩
 refine Lv aF (jT a)<|av aF<|dB<|dB<|av aF<|av aF<|aD<|Wr<|aJ aF ?_;exact⟨gY (by simp only[gD]; first|(symm; simp; omega)|(symm; simp; done)),rfl⟩
theorem Rt.Qc(x:Nat->Int)(k j:Nat):uM x k (j+1)=uM x k j+x (18+j*6+k)-x (18+k*6+j):=rfl
theorem Rt.Qd(x:Nat->Int)(k:Nat):uM x k 0=x k-x (6+k)+x (12+k):=rfl
theorem EO(x:Nat->Int)(k:Nat)(w:World)(E:k<6)(d:PX x) :
 Calls Tryd.prog 93 #[.agg (aA 54 (rv .i64 x)),au ((k:Int)+1)] w fun e w'=>e = .returned (au (L x k))/\Below w.heap.size w w':=by
 have B:uM x k 6=L x k:=abg x k;have A:=fun j=>Om d k E j;have S:uM x k 0=x k-x (k+6)+x (k+12):=by rw[Qd,Nat.add_comm 6 k,Nat.add_comm 12 k]
 have O:=d k (by omega);have P:=d (k+6) (by omega);have Q:=d (k+12) (by omega);refine Kent Tryd.func93 44 ?_;refine ay<|pQ fun c l D h H X => ?_;have s:=bE H.old (Below.refl w.heap.size w);have U:=gL D;have W:=h.lt;refine av (au 0)<|aD<|ay<|av (au ((k:Int)+1))<|Lv (au k) fQ<|av (au k)<|aD<|Ws ?_;refine yS<|aX (au k)<|aX (pt c)<|Qv (pf c k) (fun b a=>jm 6 1)<|Qv (au (x k)) (fun b a=>aM (h.aH.dr a) k)<|aX (au k)<|aX (pf c 6)<|Qv (pf c (k+6)) (fun b a=>jm 6 1)<|Qv (au (x (k+6))) (fun b a=>aM (h.aH.dr a) (k+6))<|Qv (au ((x k)-(x (k+6)))) (fun b a=>fQ)<|aX (au k)<|aX (pf c 12)<|Qv (pf c (k+12)) (fun b a=>jm 6 1)<|Qv (au (x (k+12))) (fun b a=>aM (h.aH.dr a) (k+12))<|Qv (au (((x k)-(x (k+6)))+(x (k+12)))) (fun b a=>fE)<|aX (au (((x k)-(x (k+6)))+(x (k+12))))<|Qn ?_;rintro _ ⟨i,rfl⟩;obtain⟨K,n⟩ : ∃ b,b=World.drewN l i:=⟨_,rfl⟩;rw[<- n];have I:Stp l.heap.size l K:=by rw[n]; exact Sb (jD l i)
 have⟨F,t⟩:=eU I.old h s;clear n;refine sN<|Ws<|ay<|av (au 0)<|aD<|Wb<|Wo (fun f z => ∃ j:Nat,j<=6/\f 2=(pt c)/\f 5=au (k:Int)/\f 6=au (uM x k j)/\f 7=au (j:Int)/\aQ z c 54 (rv .i64 x) 82/\Below w.heap.size w z) (fun f _=>(6-(intOf (f 7)).toNat)) ⟨0,by omega,(by rfl),Fx.ic,Fx.ic,Fx.ic,F,t⟩ ?_;rintro R m ⟨j,V,p,q,y,g,r,u⟩;have T:=A j (by omega);have N:uM x k (j+1)=uM x k j+x (6*j+k+18)-x (j+6*k+18):=by rw[Qc,show 18+j*6+k=6*j+k+18 by omega,show 18+k*6+j=j+6*k+18 by omega]
 have s:=d (6*j+k+18);have t:=d (j+6*k+18);refine Ws<|ay<|aY g ?_;by_cases v:(j:Int)<6
 ·refine Lv aG (iL v)<|aD<|aO<|Wk<|sN<|Ws<|Wb ?_;refine yS<|eB y<|eB g<|eB q<|Qv (pf c 18) (fun b a=>jB p 18)<|Qv (pf c (6*j+18)) (fun b a=>jm 6 6)<|Qv (pf c (6*j+k+18)) (fun b a=>jm 6 1)<|Qv (au (x (6*j+k+18))) (fun b a=>aM (r.aH.dr a) (6*j+k+18))<|Qv (au ((uM x k j)+(x (6*j+k+18)))) (fun b a=>fE)<|eB q<|eB g<|Qv (pf c 18) (fun b a=>jB p 18)<|Qv (pf c (6*k+18)) (fun b a=>jm 6 6)<|Qv (pf c (j+6*k+18)) (fun b a=>jm 6 1)<|Qv (au (x (j+6*k+18))) (fun b a=>aM (r.aH.dr a) (j+6*k+18))<|Qv (au (((uM x k j)+(x (6*j+k+18)))-(x (j+6*k+18)))) (fun b a=>fQ)<|aX (au (((uM x k j)+(x (6*j+k+18)))-(x (j+6*k+18))))<|Qn ?_;rintro _ ⟨i,rfl⟩;obtain⟨M,o⟩ : ∃ b,b=World.drewN m i:=⟨_,rfl⟩;rw[<- o];have J:Stp m.heap.size m M:=by rw[o]; exact Sb (jD m i)
  have⟨G,C⟩:=eU J.old r u;clear o;refine bT<|sN<|Wl<|aY g<|Lv (au ((j:Int)+1)) fE<|av (au ((j:Int)+1))<|Ln<|iB ⟨j+1,by omega,p,(q.trans Fx.ic),Fx.ic,Fx.ic,G,C⟩ ?_;show(6-(intOf (au ((j:Int)+1))).toNat)<_;simp only[g,intOf]; omega
 refine Lv aF (iM v)<|aD<|aL<|Wx<|cK<|gU<|cO<|sN<|ay<|aY y<|av (au (uM x k j))<|aD<|Wr<|aJ (au (uM x k j)) ?_;exact⟨oV (by rw[<- B]; exact K_ _ (by omega)),u⟩
namespace Rt
def TW(x:Nat->Int)(i:Nat):Prop:=zI (x i)=true/\zI (x (i+6))=true/\zI (x (i+12))=true/\x (i+12)<=x (i+6)/\x (7*i+18)=0
def EP(x:Nat->Int)(i j:Nat):Prop := ∀ q,q<j->zI (x (6*i+q+18))=true
def KD(x:Nat->Int)(i:Nat):Prop := ∀ k,k<i->TW x k/\EP x k 6
def zf(x:Nat->Int):Nat->Int
 | 0=>0
 | i+1=>zf x i+x i
theorem Qe(x:Nat->Int):KD x 0:=fun _ h=>L_ h (by omega)
theorem MG(x:Nat->Int)(i:Nat):EP x i 0:=fun _ h=>L_ h (by omega)
theorem MH{x:Nat->Int}{i j:Nat}(h:EP x i j)(a:zI (x (6*i+j+18))=true):EP x i (j+1):=fun q b=>by
 by_cases e:q=j
 ·subst e; exact a
 ·exact h q (by omega)
theorem Qf{x:Nat->Int}{i:Nat}(h:KD x i)(hr:TW x i)(a:EP x i 6):KD x (i+1):=fun k b=>by
 by_cases e:k=i
 ·subst e; exact⟨hr,a⟩
 ·exact h k (by omega)
theorem KE{x:Nat->Int}(h:KD x 6):PX x:=fun p d=>by
 by_cases a:p<6
 ·exact zN (h p a).1.1
 ·by_cases b:p<12
  ·have:=zN (h (p-6) (by omega)).1.2.1; rwa [show p-6+6=p by omega]at this
  ·by_cases c:p<18
   ·have:=zN (h (p-12) (by omega)).1.2.2.1; rwa [show p-12+12=p by omega]at this
   ·have:=zN ((h ((p-18) / 6) (by omega)).2 ((p-18) % 6) (by omega)); rwa [show 6*((p-18) / 6)+(p-18) % 6+18=p by omega]at this
theorem Oo{x:Nat->Int} : ∀ {i:Nat},KD x i->0<=zf x i/\zf x i<=1125899906842624*(i:Int)
 | 0,_=>by simp[zf]
 | i+1,h=>by
   have a:=Oo (i:=i) (fun k c=>h k (by omega));have b:=zN (h i (by omega)).1.1;simp only[zf]; omega
theorem I9{x:Nat->Int}{p:Nat}(a:p<54)(h:zI (x p)=false):may x=false:=by
 cases hm:may x
 ·rfl
 have:=(jK x).1 hm |>.1 p a;unfold zI at h; simp at h; omega
theorem afk{x:Nat->Int}{i:Nat}(hi:i<6)(h:x (i+6)<x (i+12)):may x=false:=by
 cases hm:may x
 ·rfl
 have:=((jK x).1 hm |>.2.1 i hi).2.1;unfold F C at this; rw[Nat.add_comm 12 i,Nat.add_comm 6 i]at this; omega
theorem afl{x:Nat->Int}{i:Nat}(hi:i<6)(h : ¬ x (7*i+18)=0):may x=false:=by
 cases hm:may x
 ·rfl
 have:=((jK x).1 hm |>.2.1 i hi).2.2;unfold R at this; rw[show 18+i*6+i=7*i+18 by omega]at this; exact L_ this h
theorem abh{x:Nat->Int}{i:Nat}(hi:i<6)(h:L x i<0):may x=false:=by
 cases hm:may x
 ·rfl
 have:=((jK x).1 hm |>.2.1 i hi).1;omega
theorem TY{x:Nat->Int}{m:Nat}(h : ∀ k,k<m->0<=L x k)(a:0<=L x m) : ∀ k,k<m+1->0<=L x k:=fun k b=>by
 by_cases e:k=m
 ·rw[e]; exact a
 ·exact h k (by omega)
theorem Oq{x:Nat->Int}(ha:KD x 6)(b : ∀ k,k<6->0<=L x k):may x=decide (zf x 6<=1125899906842624):=by
 have c:zf x 6=su x:=by simp only[zf,su,G]; omega
 rw[c,Bool.eq_iff_iff,jK,O_];refine⟨fun h=>h.2.2,fun h=>⟨KE ha,fun k a=>⟨b k a,?_,?_⟩,h⟩⟩
 ·have:=(ha k a).1.2.2.2.1; unfold F C; rwa [Nat.add_comm 12 k,Nat.add_comm 6 k]
 have:=(ha k a).1.2.2.2.2; unfold R; rwa [show 18+k*6+k=7*k+18 by omega]
end Rt
set_option maxRecDepth 10000 in
set_option maxHeartbeats 1000000 in
theorem T9(x:Nat->Int)(w:World) :
 Calls Tryd.prog 107 #[.agg (aA 54 (rv .i64 x))] w fun e w'=>e = .returned (.bool (may x))/\Below w.heap.size w w':=by
 refine Kent Tryd.func107 81 ?_;refine ay<|pQ fun c w1 mR m1 s1 z1 => ?_;have b1:=bE s1.old (Below.refl w.heap.size w);have sO:=gL mR;have uo:=m1.lt;refine av aF<|aD<|ay<|av (au 0)<|aD<|Ws<|ay<|av (au 0)<|aD<|Wb<|Wo (fun f q => ∃ i:Nat,i<=6/\KD x i/\f 1=(pt c)/\f 3=au (zf x i)/\f 4=au (i:Int)/\aQ q c 54 (rv .i64 x) 82/\Below w.heap.size w q) (fun f _=>(6-(intOf (f 4)).toNat)) ⟨0,by omega,Qe x,(by rfl),Fx.ic,Fx.ic,m1,b1⟩ ?_;rintro f1 d ⟨i,hi,B,n,h2,l,o,r⟩;have hG:=Oo B;have HG:zf x (i+1)=zf x i+x i:=rfl;refine Ws<|ay<|aY l ?_;by_cases Z:(i:Int)<6
 ·refine Lv aG (iL Z)<|aD<|aO<|Wk<|sN<|Ws<|Wb<|Ws<|Ws ?_;refine yS<|eB l<|Qv (pt c) (fun a b=>jB n 0)<|Qv (pf c i) (fun a b=>jm 6 1)<|Qv (au (x i)) (fun a b=>aM (o.aH.dr b) i) ?_;by_cases s:(zI (x i))=true
  ·refine pO (fun _ _=>mU (x i) _) aG (by rw[s])<|aX aF<|aX aF<|eB l<|Qv (pf c 6) (fun a b=>jB n 6)<|Qv (pf c (i+6)) (fun a b=>jm 6 1)<|Qv (au (x (i+6))) (fun a b=>aM (o.aH.dr b) (i+6)) ?_;by_cases v:(zI (x (i+6)))=true
   ·refine pO (fun _ _=>mU (x (i+6)) _) aG (by rw[v])<|aX aF<|aX aF<|aX aF<|eB l<|Qv (pf c 12) (fun a b=>jB n 12)<|Qv (pf c (i+12)) (fun a b=>jm 6 1)<|Qv (au (x (i+12))) (fun a b=>aM (o.aH.dr b) (i+12)) ?_;by_cases y:(zI (x (i+12)))=true
    ·refine pO (fun _ _=>mU (x (i+12)) _) aG (by rw[y])<|aX aF<|aX aF<|aX aF<|eB l<|Qv (pf c 12) (fun a b=>jB n 12)<|Qv (pf c (i+12)) (fun a b=>jm 6 1)<|Qv (au (x (i+12))) (fun a b=>aM (o.aH.dr b) (i+12))<|eB l<|Qv (pf c 6) (fun a b=>jB n 6)<|Qv (pf c (i+6)) (fun a b=>jm 6 1)<|Qv (au (x (i+6))) (fun a b=>aM (o.aH.dr b) (i+6)) ?_;by_cases H:(x (i+6))<(x (i+12))
     ·refine Qv aG (fun a b=>nu H)<|aX aG<|aX aG<|aP<|aP<|aP<|aP<|aP<|aP<|aP<|aX aG<|Qn ?_;rintro _ ⟨g,rfl⟩;obtain⟨Dn,K⟩ : ∃ a,a=World.drewN d g:=⟨_,rfl⟩;rw[<- K];have s2:Stp d.heap.size d Dn:=(by rw[K]; exact Sb (jD d g));have b3:=bE s2.old r;clear K;refine sN (aO (ay (av aF (aD (Wr (sR (bI (sR (qo (bI (sR (aJ aF (⟨gY (Eq.symm ?_),b3⟩)))))))))))));exact afk (i:=i) (by omega) H
     refine Qv aF (fun a b=>ny H)<|aX aF<|aX aF<|eB l<|eB l<|Qv (pf c 18) (fun a b=>jB n 18)<|Qv (pf c (6*i+18)) (fun a b=>jm 6 6)<|Qv (pf c (7*i+18)) (fun a b=>jm 6 1)<|Qv (au (x (7*i+18))) (fun a b=>aM (o.aH.dr b) (7*i+18)) ?_;by_cases C:(x (7*i+18))=0
     ·refine Qv aF (fun a b=>jH C)<|aX aF<|Qn ?_;rintro _ ⟨g,rfl⟩;obtain⟨wq2,M⟩ : ∃ a,a=World.drewN d g:=⟨_,rfl⟩;rw[<- M];have s3:Stp d.heap.size d wq2:=(by rw[M]; exact Sb (jD d g));have⟨m4,b4⟩:=eU s3.old o r;clear M;refine sN<|aL<|Wk<|sN<|Ws ?_;have hR:TW x i:=⟨s,v,y,by omega,C⟩;have b15:=zN s;refine Wl<|aY h2<|aY l<|Lv (pt c) (jB n 0)<|Lv (pf c i) (jm 6 1)<|Lv (au (x i)) (aM m4.aH i)<|Lv (au ((zf x i)+(x i))) fE<|av (au ((zf x i)+(x i)))<|aD<|ay<|av (au 0)<|aD<|Wb<|Wo (fun f q => ∃ j:Nat,j<=6/\EP x i j/\f 1=(pt c)/\f 3=au (zf x (i+1))/\f 4=au (i:Int)/\f 5=au (j:Int)/\aQ q c 54 (rv .i64 x) 82/\Below w.heap.size w q) (fun f _=>(6-(intOf (f 5)).toNat)) ⟨0,by omega,MG x i,n,Fx.ic,(l.trans Fx.ic),Fx.ic,m4,b4⟩ ?_;rintro f2 w3 ⟨j,hj,T,R,h5,S,E,U,G⟩;refine Ws<|ay<|aY E ?_;by_cases X:(j:Int)<6
      ·refine Lv aG (iL X)<|aD<|aO<|Wk<|sN<|Ws<|Wb<|ay<|aY S<|aY E<|Lv (pf c 18) (jB R 18)<|Lv (pf c (6*i+18)) (jm 6 6)<|Lv (pf c (6*i+j+18)) (jm 6 1)<|Lv (au (x (6*i+j+18))) (aM U.aH (6*i+j+18)) ?_;by_cases z:(zI (x (6*i+j+18)))=true
       ·refine oC (mU (x (6*i+j+18)) _) aG (by rw[z])<|av aF<|aD<|aL<|Wk<|bT<|sN<|Wl<|aY E<|Lv (au ((j:Int)+1)) fE<|av (au ((j:Int)+1))<|Ln<|iB ⟨j+1,by omega,MH T z,R,(h5.trans Fx.ic),(S.trans Fx.ic),Fx.ic,U,G⟩ ?_;show(6-(intOf (au ((j:Int)+1))).toNat)<_;simp only[E,intOf]; omega
       rw[S_]at z;refine oC (mU (x (6*i+j+18)) _) aF (by rw[z]) (av aG (aD (aO (ay (av aF (aD (Wr (bI (sR (qo (bI (bI (sR (qo (bI (sR (aJ aF (⟨gY (Eq.symm ?_),G⟩))))))))))))))))));exact I9 (p:=6*i+j+18) (by omega) z
      refine Lv aF (iM X)<|aD<|aL<|Wx<|cK<|gU<|cO<|bT<|sN<|Wl<|aY S<|Lv (au ((i:Int)+1)) fE<|av (au ((i:Int)+1))<|Ln ?_;have A:j=6:=(by omega);have hT6:EP x i 6:=(by rw[A]at T; exact T);refine iB ⟨i+1,by omega,Qf B hR hT6,R,(h5.trans Fx.ic),Fx.ic,U,G⟩ ?_;show(6-(intOf (au ((i:Int)+1))).toNat)<_;simp only[l,intOf]; omega
     refine Qv aG (fun a b=>mX C)<|aX aG<|Qn ?_;rintro _ ⟨g,rfl⟩;obtain⟨Zf,N⟩ : ∃ a,a=World.drewN d g:=⟨_,rfl⟩;rw[<- N];have s4:Stp d.heap.size d Zf:=(by rw[N]; exact Sb (jD d g));have b6:=bE s4.old r;clear N;refine sN (aO (ay (av aF (aD (Wr (sR (bI (sR (qo (bI (sR (aJ aF (⟨gY (Eq.symm ?_),b6⟩)))))))))))));exact afl (i:=i) (by omega) C
    rw[S_]at y;refine pO (fun _ _=>mU (x (i+12)) _) aF (by rw[y])<|aX aG<|aX aG<|aX aG<|aP<|aP<|aP<|aP<|aP<|aP<|aP<|aP<|aP<|aX aG<|aX aG<|aP<|aP<|aP<|aP<|aP<|aP<|aP<|aX aG<|Qn ?_;rintro _ ⟨g,rfl⟩;obtain⟨wq4,O⟩ : ∃ a,a=World.drewN d g:=⟨_,rfl⟩;rw[<- O];have s5:Stp d.heap.size d wq4:=(by rw[O]; exact Sb (jD d g));have b7:=bE s5.old r;clear O;refine sN (aO (ay (av aF (aD (Wr (sR (bI (sR (qo (bI (sR (aJ aF (⟨gY (Eq.symm ?_),b7⟩)))))))))))));exact I9 (p:=i+12) (by omega) y
   rw[S_]at v;refine pO (fun _ _=>mU (x (i+6)) _) aF (by rw[v])<|aX aG<|aX aG<|aX aG<|aP<|aP<|aP<|aP<|aP<|aP<|aX aG<|aX aG<|aP<|aP<|aP<|aP<|aP<|aP<|aP<|aP<|aP<|aX aG<|aX aG<|aP<|aP ?_;refine aP<|aP<|aP<|aP<|aP<|aX aG<|Qn ?_;rintro _ ⟨g,rfl⟩;obtain⟨wq5,P⟩ : ∃ a,a=World.drewN d g:=⟨_,rfl⟩;rw[<- P];have s6:Stp d.heap.size d wq5:=(by rw[P]; exact Sb (jD d g));have b8:=bE s6.old r;clear P;refine sN (aO (ay (av aF (aD (Wr (sR (bI (sR (qo (bI (sR (aJ aF (⟨gY (Eq.symm ?_),b8⟩)))))))))))));exact I9 (p:=i+6) (by omega) v
  rw[S_]at s;refine pO (fun _ _=>mU (x i) _) aF (by rw[s])<|aX aG<|aX aG<|aP<|aP<|aP<|aP<|aP<|aP<|aX aG<|aX aG<|aP<|aP<|aP<|aP<|aP<|aP<|aX aG<|aX aG<|aP<|aP<|aP<|aP<|aP<|aP ?_;refine aP<|aP<|aP<|aX aG<|aX aG<|aP<|aP<|aP<|aP<|aP<|aP<|aP<|aX aG<|Qn ?_;rintro _ ⟨g,rfl⟩;obtain⟨wq6,Q⟩ : ∃ a,a=World.drewN d g:=⟨_,rfl⟩;rw[<- Q];have s7:Stp d.heap.size d wq6:=by rw[Q]; exact Sb (jD d g)
  have b9:=bE s7.old r;clear Q;refine sN (aO (ay (av aF (aD (Wr (sR (bI (sR (qo (bI (sR (aJ aF (⟨gY (Eq.symm ?_),b9⟩)))))))))))));exact I9 (p:=i) (by omega) s
 refine Lv aF (iM Z)<|aD<|aL<|Wx<|cK<|gU<|cO<|sN<|Ws<|ay<|av (au 1)<|aD<|Wb ?_;have A:i=6:=by omega
 rw[A]at B;have HE:=KE B;have V:KD x 6:=B;refine Wo (fun f q => ∃ m:Nat,m<=6/\(∀ k,k<m->0<=L x k)/\f 1=(pt c)/\f 3=au (zf x i)/\f 6=au ((m:Int)+1)/\aQ q c 54 (rv .i64 x) 82/\Below w.heap.size w q) (fun f _=>(7-(intOf (f 6)).toNat)) ⟨0,by omega,(fun _ h=>L_ h (by omega)),n,(h2.trans Fx.ic),Fx.ic,o,r⟩ ?_;rintro f3 w4 ⟨m,hm,u,h8,h9,D,m10,F⟩;refine Ws<|ay<|aY D ?_;by_cases Y:((m:Int)+1)<=6
 ·refine Lv aG (mW Y)<|aD<|aO<|Wk<|sN<|Ws<|Wb<|ay<|Lv (.agg (aA 54 (rv .i64 x))) (fJ m10.aH 0 (ha:=h8))<|aY D<|dL (EO x m _ (by omega) HE) _ rfl ?_;intro w5 hb1;have⟨m11,W⟩:=eU hb1 m10 F;by_cases I:(L x m)<0
  ·refine Lv aG (iL I) (aD (aO (ay (av aF (aD (Wr (bI (sR (qo (bI (sR (aJ aF (⟨gY (Eq.symm ?_),W⟩)))))))))))));exact abh (i:=m) (by omega) I
  refine Lv aF (iM I)<|aD<|aL<|Wk<|bT<|sN<|Wl<|aY D<|Lv (au ((m:Int)+2)) fE<|av (au ((m:Int)+2))<|Ln<|iB ⟨m+1,by omega,TY u (by omega),h8,(h9.trans Fx.ic),Fx.ic,m11,W⟩ ?_;show(7-(intOf (au ((m:Int)+2))).toNat)<_;simp only[D,intOf]; omega
 refine Lv aF (nk Y)<|aD<|aL<|Wx<|cK<|gU<|cO<|sN<|ay<|aY h9 ?_;by_cases t:(zf x i)<=1125899906842624
 ·refine Lv aG (mW t) (av aG (aD (Wr (aJ aG (⟨gY (Eq.symm ?_),F⟩)))));have J:m=6:=by omega
  rw[J]at u;rw[A]at t;rw[Oq V u]; exact f_ t
 refine Lv aF (nk t) (av aF (aD (Wr (aJ aF (⟨gY (Eq.symm ?_),F⟩)))));have J:m=6:=by omega
 rw[J]at u;rw[A]at t;rw[Oq V u]; exact g_ t
namespace Rt
def eH(x:Nat->Int)(i n:Int):Int:=if may x&&decide (1<=n)&&decide (n<=1125899906842624)then(if gD i then 0 else 10)else 1
end Rt
theorem ER(x:Nat->Int)(i n:Int)(w:World) :
 Calls Tryd.prog 91 #[.agg (aA 54 (rv .i64 x)),au i,au n] w fun e w'=>e = .returned (au (eH x i n))/\Below w.heap.size w w':=by
 refine Kent Tryd.func91 21 ?_;refine ay<|pQ fun p s k h o v => ?_;have d:=bE o.old (Below.refl w.heap.size w);have q:=gL k;have r:=h.lt;refine av (au 0)<|aD<|Ws<|ay<|Lv (.agg (aA 54 (rv .i64 x))) (fJ h.aH 0) ?_;by_cases a:(may x)=true
 ·refine dL (T9 x _) aG (by rw[a]) ?_;intro t l;have c:=bE l d;refine av aF<|av aF<|av (au n) ?_;by_cases f:n<1
  ·refine Lv aG (iL f) (av aG (av aG (dB (dB (av aG (aD (aO (ay (av (au 1) (aD (Wr (sR (aJ (au 1) (⟨oV ?_,c⟩))))))))))))));unfold eH; rw[a,g_ (show ¬ 1<=n by omega)]; simp
  refine Lv aF (iM f)<|av aF<|av aF<|av (au n) ?_;by_cases g:1125899906842624<n
  ·refine Lv aG (nu g) (av aG (aD (aO (ay (av (au 1) (aD (Wr (sR (aJ (au 1) (⟨oV ?_,c⟩))))))))));unfold eH; rw[a,f_ (show 1<=n by omega),g_ (show ¬ n<=1125899906842624 by omega)]; simp
  refine Lv aF (ny g)<|av aF<|aD<|aL<|Wk<|sN<|Ws<|ay<|av (au i) ?_;by_cases b:(gD i)=true
  ·refine oC (yF i _) aG (by rw[b]) (av aF (aD (aL (Wk (sN (ay (av (au 0) (aD (Wr (aJ (au 0) (⟨oV ?_,c⟩)))))))))));unfold eH; rw[a,f_ (show 1<=n by omega),f_ (show n<=1125899906842624 by omega),b]; simp
  rw[S_]at b;refine oC (yF i _) aF (by rw[b]) (av aG (aD (aO (ay (av (au 10) (aD (Wr (sR (aJ (au 10) (⟨oV ?_,c⟩))))))))));unfold eH; rw[a,f_ (show 1<=n by omega),f_ (show n<=1125899906842624 by omega),b]; simp
 rw[S_]at a;refine dL (T9 x _) aF (by rw[a]) ?_;intro u m;have j:=bE m d;refine av aG (av aG (dB (dB (av aG (av aG (dB (dB (av aG (aD (aO (ay (av (au 1) (aD (Wr (sR (aJ (au 1) (⟨oV ?_,j⟩)))))))))))))))));unfold eH; rw[a]; simp
namespace Rt
theorem ES{x:Nat->Int}{i n:Int}(h:eH x i n=0):may x=true/\1<=n/\n<=1125899906842624/\gD i=true:=by
 unfold eH at h;by_cases a:may x=true
 ·by_cases b:1<=n
  ·by_cases c:n<=1125899906842624
   ·rw[a,f_ b,f_ c]at h
    cases h4:gD i
    ·rw[h4]at h; simp at h
    exact⟨a,b,c,rfl⟩
   rw[g_ c]at h; simp at h
  rw[g_ b]at h; simp at h
 rw[show may x=false by simpa using a]at h; simp at h
theorem KF{x:Nat->Int}{i n b:Int}{off:Nat}(h : ¬ eH x i n=0):bQ x n (gD i) b off=(zero,eH x i n):=by
 unfold eH at *;unfold bQ;by_cases a:(may x&&decide (1<=n)&&decide (n<=1125899906842624))=true
 ·simp only[d_ a]at *
  cases h4:gD i
  ·simp
  simp[h4]at h
 simp only[b_ a]at *
theorem BM{x:Nat->Int}{n a:Int}{is:Bool}{off:Nat}(h1:may x=true)(b:1<=n)(c:n<=1125899906842624)(d:is=true) :
 bQ x n is a off=if a=0 then(if x off+n<=1125899906842624 then(upd x off (x off+n),0)else(zero,6))else(zero,a):=by
 unfold bQ; rw[h1,f_ b,f_ c,d]; simp
theorem zS{x:Nat->Int}{n a:Int}{is:Bool}{off:Nat}(h1:may x=true)(b:1<=n)(c:n<=1125899906842624)(d:is=true)(e:a=0)(f:x off+n<=1125899906842624):bQ x n is a off=(upd x off (x off+n),0):=by
 rw[BM h1 b c d,d_ e,d_ f]
theorem CJ{x:Nat->Int}{n a:Int}{is:Bool}{off:Nat}(h1:may x=true)(b:1<=n)(c:n<=1125899906842624)(d:is=true)(e:a=0)(f : ¬ x off+n<=1125899906842624):bQ x n is a off=(zero,6):=by
 rw[BM h1 b c d,d_ e,b_ f]
theorem vV{x:Nat->Int}{n a e:Int}{is:Bool}{off:Nat}(h1:may x=true)(b:1<=n)(c:n<=1125899906842624)(d:is=true)(f:a=e)(g:e≠0):bQ x n is a off=(zero,e):=by
 rw[BM h1 b c d,f,b_ g]
theorem Qg{x:Nat->Int}{n a:Int}{off:Nat}(h1:may x=true)(b:1<=n)(c:n<=1125899906842624):bQ x n false a off=(zero,10):=by
 unfold bQ; rw[h1,f_ b,f_ c]; simp
theorem pl(k:Nat):((k:Int)+1).toNat-1=k:=by omega
theorem Qh{x:Nat->Int}{i j n:Int}(h : ¬ eH x i n=0):cB x i j n=(zero,eH x i n):=by
 unfold cB;unfold eH at *;unfold bQ;by_cases a:(may x&&decide (1<=n)&&decide (n<=1125899906842624))=true
 ·simp only[d_ a]at *
  cases h4:gD i
  ·simp
  simp[h4]at h
 simp only[b_ a]at *
theorem KG(k q:Nat):kI ((k:Int)+1) ((q:Int)+1)=6*k+q+18:=by unfold kI; omega
theorem Ua{x:Nat->Int}{k:Nat}(a:may x=true)(b:k<6):x (k+6)<=1125899906842624:=(lu a (k+6) (by omega)).2
end Rt
set_option maxRecDepth 10000 in
theorem Xt(x:Nat->Int)(i n:Int)(w:World) :
 Calls Tryd.prog 88 #[.agg (aA 54 (rv .i64 x)),au i,au n] w fun e w'=>e = .returned (.tuple #[.agg (aA 54 (rv .i64 (bC x i n).1)),au (bC x i n).2])/\Below w.heap.size w w':=by
 refine Kent Tryd.func88 42 ?_;refine ay<|pQ fun b w1 Q p s1 z1 => ?_;have u:=bE s1.old (Below.refl w.heap.size w);have sO:=gL Q;have uo:=p.lt;refine qC 54 (rv .i64 (fun _=>0)) fun l w2 z B s2 z2 => ?_;have⟨C,K⟩:=eU s2.old p u;have qN:=jc z u.size;have N7:=cu z p.lt;have zL:=B.lt;refine av (au 0)<|aD<|ay<|Lv (.agg (aA 54 (rv .i64 x))) (fJ C.aH 0)<|av (au i)<|av (au n)<|dL (ER x i n _) _ rfl ?_;intro w3 S;have⟨q,D,m⟩:=jh S C B K;refine av (au (eH x i n))<|aD<|Ws<|ay<|av (au (eH x i n)) ?_;by_cases j:(eH x i n)=0
 ·refine Lv aF (jH j)<|aD<|aL<|Wk<|sN<|Ws<|Ws ?_;obtain⟨a,s,t,h⟩:=ES j;have J:=lu a;obtain⟨k,o,R,_⟩:=oP h;subst R;refine Wl<|av (au n)<|Lv (.agg (aA 54 (rv .i64 x))) (fJ q.aH 0)<|av (au ((k:Int)+1))<|dL (EO x k _ (by omega) (lu a)) _ rfl ?_;intro w4 T;have⟨g,r,d⟩:=jh T q D m;by_cases f:(L x k)<n
  ·refine Lv aG (nu f)<|aD<|aO<|ay<|av (.agg (aA 54 (rv .i64 (fun _=>0))))<|dZ r 0 fun w5 m8 E z3 => ?_;have m9:aQ w5 l 54 (rv .i64 (fun _=>0)) 82:=aR m8;have m10:=g.bY E (by omega);have M:=E.below d d.size (by omega);refine av (au 11) (aD (Wr (sR (⟨.tuple #[.agg (aA 54 (rv .i64 (fun _=>0))),au 11],gu Tryd.results88 ⟨_,rfl,aU m9.aH (by kernel_rfl) (by kernel_rfl)⟩ (by exact rfl),?_⟩))));refine⟨?_,M⟩;have c:bC x ((k:Int)+1) n=(zero,11):=by
    unfold bC qx;rw[nI a k o,f_ f];exact vV a s t h rfl (by decide)
   rw[c]
   all_goals rfl
  refine Lv aF (ny f)<|aD<|aL<|Wk<|sN<|Ws<|Ws ?_;have q1:=J (k+6);refine Wl<|av (au ((k:Int)+1))<|Lv (au k) fQ<|av (pf b 6)<|Lv (pf b (k+6)) (jm 6 1)<|Lv (au (x (k+6))) (aM g.aH (k+6))<|av (au n)<|Lv (au ((x (k+6))+n)) fE ?_;by_cases y:1125899906842624<((x (k+6))+n)
  ·refine Lv aG (nu y)<|aD<|aO<|ay<|av (.agg (aA 54 (rv .i64 (fun _=>0))))<|dZ r 0 fun w6 U F z4 => ?_;have V:aQ w6 l 54 (rv .i64 (fun _=>0)) 82:=aR U;have m13:=g.bY F (by omega);have N:=F.below d d.size (by omega);refine av (au 6) (aD (Wr (sR (⟨.tuple #[.agg (aA 54 (rv .i64 (fun _=>0))),au 6],gu Tryd.results88 ⟨_,rfl,aU V.aH (by kernel_rfl) (by kernel_rfl)⟩ (by exact rfl),?_⟩))));refine⟨?_,N⟩;have c:bC x ((k:Int)+1) n=(zero,6):=by
    unfold bC qx;rw[nI a k o,g_ f,pl,Nat.add_comm 6 k];exact CJ a s t h rfl (by omega)
   rw[c]
   all_goals rfl
  refine Lv aF (ny y)<|aD<|aL<|Wk<|sN<|ay<|av (au ((k:Int)+1))<|Lv (au k) fQ<|av (pf b 6)<|Lv (pf b (k+6)) (jm 6 1)<|Lv (au (x (k+6))) (aM g.aH (k+6))<|av (au n)<|Lv (au ((x (k+6))+n)) fE<|av (pf b 6)<|Lv (pf b (k+6)) (jm 6 1)<|iX g (k+6) (au ((x (k+6))+n)) fun w7 W G z5 => ?_;have A:aQ w7 b 54 (rv .i64 (upd x (k+6) ((x (k+6))+n))) 82:=W.to (Fx.xW _ _ _ _);have X:=r.bY G (by omega);have v:=G.below d d.size (by omega);refine aD<|ay<|Lv (.agg (aA 54 (rv .i64 (upd x (k+6) ((x (k+6))+n))))) (fJ A.aH 0)<|dZ X 0 fun w8 Y H z6 => ?_;have Z:aQ w8 l 54 (rv .i64 (upd x (k+6) ((x (k+6))+n))) 82:=aR Y;have m19:=A.bY H (by omega);have O:=H.below v v.size (by omega);refine av (au 0) (aD (Wr (⟨.tuple #[.agg (aA 54 (rv .i64 (upd x (k+6) ((x (k+6))+n)))),au 0],gu Tryd.results88 ⟨_,rfl,aU Z.aH (by kernel_rfl) (by kernel_rfl)⟩ (by exact rfl),?_⟩)));refine⟨?_,O⟩;have c:bC x ((k:Int)+1) n=(upd x (k+6) (x (k+6)+n),0):=by
   unfold bC qx;rw[nI a k o,g_ f,pl,Nat.add_comm 6 k];exact zS a s t h rfl (by omega)
  rw[c]
  all_goals rfl
 refine Lv aG (mX j)<|aD<|aO<|ay<|av (.agg (aA 54 (rv .i64 (fun _=>0))))<|av (au (eH x i n))<|dZ D 0 fun w9 aa I z7 => ?_;have ab:aQ w9 l 54 (rv .i64 (fun _=>0)) 82:=aR aa;have m22:=q.bY I (by omega);have P:=I.below m m.size (by omega);refine av (au (eH x i n)) (aD (Wr (sR (⟨.tuple #[.agg (aA 54 (rv .i64 (fun _=>0))),au (eH x i n)],gu Tryd.results88 ⟨_,rfl,aU ab.aH (by kernel_rfl) (by kernel_rfl)⟩ (by exact rfl),?_⟩))));refine⟨?_,P⟩;have c:bC x i n=(zero,eH x i n):=by
  exact KF j
 rw[c]
 all_goals rfl
set_option maxRecDepth 10000 in
theorem Xu(x:Nat->Int)(i n:Int)(w:World) :
 Calls Tryd.prog 90 #[.agg (aA 54 (rv .i64 x)),au i,au n] w fun e w'=>e = .returned (.tuple #[.agg (aA 54 (rv .i64 (bD x i n).1)),au (bD x i n).2])/\Below w.heap.size w w':=by
 refine Kent Tryd.func90 41 ?_;refine ay<|pQ fun c w1 T t s1 z1 => ?_;have y:=bE s1.old (Below.refl w.heap.size w);have sO:=gL T;have uo:=t.lt;refine qC 54 (rv .i64 (fun _=>0)) fun s w2 D H s2 z2 => ?_;have⟨I,P⟩:=eU s2.old t y;have qN:=jc D y.size;have N7:=cu D t.lt;have zL:=H.lt;refine av (au 0)<|aD<|ay<|Lv (.agg (aA 54 (rv .i64 x))) (fJ I.aH 0)<|av (au i)<|av (au n)<|dL (ER x i n _) _ rfl ?_;intro d V;have⟨g,u,l⟩:=jh V I H P;refine av (au (eH x i n))<|aD<|Ws<|ay<|av (au (eH x i n)) ?_;by_cases m:(eH x i n)=0
 ·refine Lv aF (jH m)<|aD<|aL<|Wk<|sN<|Ws<|Ws ?_;obtain⟨j,J,K,p⟩:=ES m;have v:=lu j;obtain⟨k,W,U,_⟩:=oP p;subst U;have q1:=v (k+6);have q2:=v (k+12);refine yS<|aX (au n)<|aX (au ((k:Int)+1))<|Qv (au k) (fun a b=>fQ)<|aX (pf c 6)<|Qv (pf c (k+6)) (fun a b=>jm 6 1)<|Qv (au (x (k+6))) (fun a b=>aM (g.aH.dr b) (k+6))<|aX (au ((k:Int)+1))<|Qv (au k) (fun a b=>fQ)<|aX (pf c 12)<|Qv (pf c (k+12)) (fun a b=>jm 6 1)<|Qv (au (x (k+12))) (fun a b=>aM (g.aH.dr b) (k+12))<|Qv (au ((x (k+6))-(x (k+12)))) (fun a b=>fQ) ?_;by_cases o:((x (k+6))-(x (k+12)))<n
  ·refine Qv aG (fun a b=>nu o)<|Qn ?_;rintro _ ⟨h,rfl⟩;obtain⟨Dn,q⟩ : ∃ a,a=World.drewN d h:=⟨_,rfl⟩;rw[<- q];have s4:Stp d.heap.size d Dn:=(by rw[q]; exact Sb (jD d h));have⟨m6,m7,z⟩:=jh s4.old g u l;clear q;refine sN<|aO<|ay<|av (.agg (aA 54 (rv .i64 (fun _=>0))))<|dZ m7 0 fun w4 m8 L z3 => ?_;have m9:aQ w4 s 54 (rv .i64 (fun _=>0)) 82:=aR m8;have m10:=m6.bY L (by omega);have Q:=L.below z z.size (by omega);refine av (au 12) (aD (Wr (sR (⟨.tuple #[.agg (aA 54 (rv .i64 (fun _=>0))),au 12],gu Tryd.results90 ⟨_,rfl,aU m9.aH (by kernel_rfl) (by kernel_rfl)⟩ (by exact rfl),?_⟩))));refine⟨?_,Q⟩;have f:bD x ((k:Int)+1) n=(zero,12):=by
    unfold bD qy C F;rw[pl,Nat.add_comm 6 k,Nat.add_comm 12 k,f_ o];exact vV j J K p rfl (by decide)
   rw[f]
   all_goals rfl
  refine Qv aF (fun a b=>ny o)<|Qn ?_;rintro _ ⟨h,rfl⟩;obtain⟨wq2,r⟩ : ∃ a,a=World.drewN d h:=⟨_,rfl⟩;rw[<- r];have s6:Stp d.heap.size d wq2:=by rw[r]; exact Sb (jD d h)
  have⟨E,X,A⟩:=jh s6.old g u l;clear r;refine sN<|aL<|Wk<|sN<|ay<|av (au ((k:Int)+1))<|Lv (au k) fQ<|av (pf c 12)<|Lv (pf c (k+12)) (jm 6 1)<|Lv (au (x (k+12))) (aM E.aH (k+12))<|av (au n)<|Lv (au ((x (k+12))+n)) fE<|av (pf c 12)<|Lv (pf c (k+12)) (jm 6 1)<|iX E (k+12) (au ((x (k+12))+n)) fun w5 Y M z4 => ?_;have G:aQ w5 c 54 (rv .i64 (upd x (k+12) ((x (k+12))+n))) 82:=Y.to (Fx.xW _ _ _ _);have Z:=X.bY M (by omega);have B:=M.below A A.size (by omega);refine aD<|ay<|Lv (.agg (aA 54 (rv .i64 (upd x (k+12) ((x (k+12))+n))))) (fJ G.aH 0)<|dZ Z 0 fun w6 aa N z5 => ?_;have ab:aQ w6 s 54 (rv .i64 (upd x (k+12) ((x (k+12))+n))) 82:=aR aa;have m18:=G.bY N (by omega);have R:=N.below B B.size (by omega);refine av (au 0) (aD (Wr (⟨.tuple #[.agg (aA 54 (rv .i64 (upd x (k+12) ((x (k+12))+n)))),au 0],gu Tryd.results90 ⟨_,rfl,aU ab.aH (by kernel_rfl) (by kernel_rfl)⟩ (by exact rfl),?_⟩)));refine⟨?_,R⟩;have f:bD x ((k:Int)+1) n=(upd x (k+12) (x (k+12)+n),0):=by
   unfold bD qy C F;rw[pl,Nat.add_comm 6 k,Nat.add_comm 12 k,g_ o];exact zS j J K p rfl (by have:=Ua j W; omega)
  rw[f]
  all_goals rfl
 refine Lv aG (mX m)<|aD<|aO<|ay<|av (.agg (aA 54 (rv .i64 (fun _=>0))))<|av (au (eH x i n))<|dZ u 0 fun w7 ac O z6 => ?_;have ad:aQ w7 s 54 (rv .i64 (fun _=>0)) 82:=aR ac;have m21:=g.bY O (by omega);have S:=O.below l l.size (by omega);refine av (au (eH x i n)) (aD (Wr (sR (⟨.tuple #[.agg (aA 54 (rv .i64 (fun _=>0))),au (eH x i n)],gu Tryd.results90 ⟨_,rfl,aU ad.aH (by kernel_rfl) (by kernel_rfl)⟩ (by exact rfl),?_⟩))));refine⟨?_,S⟩;have f:bD x i n=(zero,eH x i n):=by
  exact KF m
 rw[f]
 all_goals rfl
set_option maxRecDepth 10000 in
theorem Xv(x:Nat->Int)(i j n:Int)(w:World) :
 Calls Tryd.prog 64 #[.agg (aA 54 (rv .i64 x)),au i,au j,au n] w fun e w'=>e = .returned (.tuple #[.agg (aA 54 (rv .i64 (cB x i j n).1)),au (cB x i j n).2])/\Below w.heap.size w w':=by
 refine Kent Tryd.func64 59 ?_;refine ay<|pQ fun c w1 aa z s1 z1 => ?_;have B:=bE s1.old (Below.refl w.heap.size w);have sO:=gL aa;have uo:=z.lt;refine qC 54 (rv .i64 (fun _=>0)) fun h w2 F H s2 z2 => ?_;have⟨J,W⟩:=eU s2.old z B;have qN:=jc F B.size;have N7:=cu F z.lt;have zL:=H.lt;refine av (au 0)<|aD<|ay<|Lv (.agg (aA 54 (rv .i64 x))) (fJ J.aH 0)<|av (au i)<|av (au n)<|dL (ER x i n _) _ rfl ?_;intro w3 hb1;have⟨p,u,f⟩:=jh hb1 J H W;refine av (au (eH x i n))<|aD<|Ws<|ay<|av (au (eH x i n)) ?_;by_cases t:(eH x i n)=0
 ·refine Lv aF (jH t)<|aD<|aL<|Wk<|sN<|Ws<|Ws ?_;obtain⟨b,r,s,l⟩:=ES t;have S:=lu b;obtain⟨k,y,ei,_⟩:=oP l;subst ei;refine Wl<|av (au j) ?_;by_cases d:(gD j)=true
  ·refine oC (yF j _) aG (by rw[d])<|av aF<|aD<|aL<|Wk<|sN<|Ws<|Ws ?_;obtain⟨q,hq,ej,_⟩:=oP d;subst ej;refine Wl<|av (au ((k:Int)+1))<|av (au ((q:Int)+1)) ?_;by_cases g:((k:Int)+1)=((q:Int)+1)
   ·refine Lv aG (eY g)<|aD<|aO<|ay<|av (.agg (aA 54 (rv .i64 (fun _=>0))))<|dZ u 0 fun w4 m6 O z3 => ?_;have m7:aQ w4 h 54 (rv .i64 (fun _=>0)) 82:=aR m6;have m8:=p.bY O (by omega);have X:=O.below f f.size (by omega);refine av (au 1) (aD (Wr (sR (⟨.tuple #[.agg (aA 54 (rv .i64 (fun _=>0))),au 1],gu Tryd.results64 ⟨_,rfl,aU m7.aH (by kernel_rfl) (by kernel_rfl)⟩ (by exact rfl),?_⟩))));refine⟨?_,X⟩;have a:cB x ((k:Int)+1) ((q:Int)+1) n=(zero,1):=by
     unfold cB nH;rw[d_ g];exact vV b r s (by rw[l,d]; rfl) rfl (by decide)
    rw[a]
    all_goals rfl
   refine Lv aF (fU g)<|aD<|aL<|Wk<|sN<|Ws<|ay<|av (au n)<|Lv (.agg (aA 54 (rv .i64 x))) (fJ p.aH 0)<|av (au ((k:Int)+1))<|dL (EO x k _ (by omega) (lu b)) _ rfl ?_;intro w5 hb2;have⟨v,A,m⟩:=jh hb2 p u f;by_cases o:(L x k)<n
   ·refine Lv aG (nu o)<|aD<|aO<|ay<|av (.agg (aA 54 (rv .i64 (fun _=>0))))<|dZ A 0 fun w6 m11 P z4 => ?_;have m12:aQ w6 h 54 (rv .i64 (fun _=>0)) 82:=aR m11;have m13:=v.bY P (by omega);have Y:=P.below m m.size (by omega);refine av (au 11) (aD (Wr (sR (⟨.tuple #[.agg (aA 54 (rv .i64 (fun _=>0))),au 11],gu Tryd.results64 ⟨_,rfl,aU m12.aH (by kernel_rfl) (by kernel_rfl)⟩ (by exact rfl),?_⟩))));refine⟨?_,Y⟩;have a:cB x ((k:Int)+1) ((q:Int)+1) n=(zero,11):=by
     unfold cB nH;rw[b_ g,nI b k y,f_ o];exact vV b r s (by rw[l,d]; rfl) rfl (by decide)
    rw[a]
    all_goals rfl
   refine Lv aF (ny o)<|aD<|aL<|Wk<|sN<|Ws<|Ws ?_;have q1:=S (6*k+q+18);refine Wl<|av (au ((k:Int)+1))<|Lv (au k) fQ<|av (au ((q:Int)+1))<|Lv (au q) fQ<|av (pf c 18)<|Lv (pf c (6*k+18)) (jm 6 6)<|Lv (pf c (6*k+q+18)) (jm 6 1)<|Lv (au (x (6*k+q+18))) (aM v.aH (6*k+q+18))<|av (au n)<|Lv (au ((x (6*k+q+18))+n)) fE ?_;by_cases E:1125899906842624<((x (6*k+q+18))+n)
   ·refine Lv aG (nu E)<|aD<|aO<|ay<|av (.agg (aA 54 (rv .i64 (fun _=>0))))<|dZ A 0 fun w7 m14 Q z5 => ?_;have m15:aQ w7 h 54 (rv .i64 (fun _=>0)) 82:=aR m14;have m16:=v.bY Q (by omega);have Z:=Q.below m m.size (by omega);refine av (au 6) (aD (Wr (sR (⟨.tuple #[.agg (aA 54 (rv .i64 (fun _=>0))),au 6],gu Tryd.results64 ⟨_,rfl,aU m15.aH (by kernel_rfl) (by kernel_rfl)⟩ (by exact rfl),?_⟩))));refine⟨?_,Z⟩;have a:cB x ((k:Int)+1) ((q:Int)+1) n=(zero,6):=by
     unfold cB nH;rw[b_ g,nI b k y,g_ o,KG];exact CJ b r s (by rw[l,d]; rfl) rfl (by omega)
    rw[a]
    all_goals rfl
   refine Lv aF (ny E)<|aD<|aL<|Wk<|sN<|Ws ?_;refine Wt 13 (by kernel_rfl) (by kernel_rfl) fun qE dU iC => ?_;have⟨G,m18,C⟩:=jh dU v A m;refine Po (au ((k:Int)+1))<|rM (au k) fQ<|Po (au ((q:Int)+1))<|rM (au q) fQ<|Po (pf c 18)<|rM (pf c (6*k+18)) (jm 6 6)<|rM (pf c (6*k+q+18)) (jm 6 1)<|rM (au (x (6*k+q+18))) (aM G.aH (6*k+q+18))<|Po (au n)<|rM (au ((x (6*k+q+18))+n)) fE<|Po (pf c 18)<|rM (pf c (6*k+18)) (jm 6 6)<|rM (pf c (6*k+q+18)) (jm 6 1)<|Fx.St.nil ?_;refine iX G (6*k+q+18) (au ((x (6*k+q+18))+n)) fun w8 m19 R z6 => ?_;have I:aQ w8 c 54 (rv .i64 (upd x (6*k+q+18) ((x (6*k+q+18))+n))) 82:=m19.to (Fx.xW _ _ _ _);have m21:=m18.bY R (by omega);have D:=R.below C C.size (by omega);refine aD<|ay<|Lv (.agg (aA 54 (rv .i64 (upd x (6*k+q+18) ((x (6*k+q+18))+n))))) (fJ I.aH 0)<|dZ m21 0 fun w9 m22 K z7 => ?_;have m23:aQ w9 h 54 (rv .i64 (upd x (6*k+q+18) ((x (6*k+q+18))+n))) 82:=aR m22;have m24:=I.bY K (by omega);have T:=K.below D D.size (by omega);refine av (au 0) (aD (Wr (⟨.tuple #[.agg (aA 54 (rv .i64 (upd x (6*k+q+18) ((x (6*k+q+18))+n)))),au 0],gu Tryd.results64 ⟨_,rfl,aU m23.aH (by kernel_rfl) (by kernel_rfl)⟩ (by exact rfl),?_⟩)));refine⟨?_,T⟩;have a:cB x ((k:Int)+1) ((q:Int)+1) n=(upd x (6*k+q+18) (x (6*k+q+18)+n),0):=by
    unfold cB nH;rw[b_ g,nI b k y,g_ o,KG];exact zS b r s (by rw[l,d]; rfl) rfl (by omega)
   rw[a]
   all_goals rfl
  rw[S_]at d;refine oC (yF j _) aF (by rw[d])<|av aG<|aD<|aO<|ay<|av (.agg (aA 54 (rv .i64 (fun _=>0))))<|dZ u 0 fun rO mZ M z8 => ?_;have nT:aQ rO h 54 (rv .i64 (fun _=>0)) 82:=aR mZ;have oM:=p.bY M (by omega);have U:=M.below f f.size (by omega);refine av (au 10) (aD (Wr (sR (⟨.tuple #[.agg (aA 54 (rv .i64 (fun _=>0))),au 10],gu Tryd.results64 ⟨_,rfl,aU nT.aH (by kernel_rfl) (by kernel_rfl)⟩ (by exact rfl),?_⟩))));refine⟨?_,U⟩;have a:cB x ((k:Int)+1) j n=(zero,10):=by
   unfold cB;rw[d,H_];exact Qg b r s
  rw[a]
  all_goals rfl
 refine Lv aG (mX t)<|aD<|aO<|ay<|av (.agg (aA 54 (rv .i64 (fun _=>0))))<|av (au (eH x i n))<|dZ u 0 fun F7 oN N z9 => ?_;have oZ:aQ F7 h 54 (rv .i64 (fun _=>0)) 82:=aR oN;have qc:=p.bY N (by omega);have V:=N.below f f.size (by omega);refine av (au (eH x i n)) (aD (Wr (sR (⟨.tuple #[.agg (aA 54 (rv .i64 (fun _=>0))),au (eH x i n)],gu Tryd.results64 ⟨_,rfl,aU oZ.aH (by kernel_rfl) (by kernel_rfl)⟩ (by exact rfl),?_⟩))));refine⟨?_,V⟩;have a:cB x i j n=(zero,eH x i n):=by
  exact Qh t
 rw[a]
 all_goals rfl
namespace Rt
theorem DY{m:lH}{x:Int}(h:0<=m.node x) : ∃ q:Nat,q<m.s.nn/\gI (fun i=>decide (m.id i=x)) m.s.nn=(q:Int)/\m.id q=x:=by
 rcases jC (fun i=>decide (m.id i=x)) m.s.nn with ⟨q,b,e,a⟩|⟨e,_⟩
 ·exact⟨q,b,e,h_ a⟩
 unfold lH.node at h; omega
theorem Ot{n:Nat}{x:Nat->Int}{r:Int} : ∀ j,j<(n+1)*1->iK (rv .u64 x) (n*1) (bR (fun j=>rv .u64 (fun _=>0) (j % 1)) (0*1) 1 (fun _=>aC r)) j=rv .u64 (aI x n r) j:=by
 intro j a;unfold iK rv aI;by_cases h:j<n*1
 ·rw[d_ h,b_ (by omega)]
 rw[b_ h,d_ (by omega)];unfold bR;rw[d_ (by omega)]
theorem KH{P:Nat->Bool}{n k j:Nat}(e:k=j+1)(h : ∀ i,k<=i->i<n->P i=true)(c:P j=true) : ∀ i,j<=i->i<n->P i=true:=fun i d b=>by
 by_cases a:i=j
 ·subst a; exact c
 ·exact h i (by omega) b
end Rt
theorem AZ(m:lH)(p a:Nat)(o r:Int)(w:World)(h:Cy w p m)(ha:a<6)(b:o=(a:Int)+1) :
 Calls Tryd.prog 86 #[(pt p),au o,aC r] w fun e w'=>e = .returned (.bool (decide (0<=m.kM a r)))/\Below w.heap.size w w':=by
 subst b; exact Xh m p a r w h ha
set_option maxRecDepth 20000 in
set_option maxHeartbeats 2000000 in
theorem Xw(m:lH)(B p a D:Nat)(v:EvM)(w:World)(O:uZ w B p m)(G:B<=w.heap.size)(ha:a<6)(ho:v.o=(a:Int)+1)(bgg:m.s.gn<=900000)(Zg : ∀ i,i<6->m.rn i<=900000)(hTN : ∀ x,m.node x=bB m.t m.tn x)(hD:bB m.t m.tn (aW m.t m.tn D v.node)<0)(hD2:D<=1000) :
 Calls Tryd.prog 62 #[(pt p),.agg (aA 14 (bH v))] w fun e w'=>e = .returned (au (iN m.core v))/\Below B w w'/\(iN m.core v=0 -> ∃ m',m'.core=lN m.core v/\uZ w' B p m'):=by
 have TL:=O.c;have hLn:=O.n;have hLg:=O.g;have P8:=O.tc;have TM:=O.t;have hLr:=O.r;have TN:=O.pB;have Du:=O.tB;have bn:=O.bn;have bg:=O.bg;have bt:=O.bt;have lpp:p<w.heap.size:=TL.lt;have QZ:m.tb<w.heap.size:=P8.lt;refine Kent Tryd.func62 188 ?_;refine ay<|pQ fun I w1 mR m1 s1 z1 => ?_;have⟨m2,m3,m4,m5,m6,m7⟩:=rX s1.old TL hLn hLg P8 TM hLr;have b1:=eP s1.old (Below.refl B w) G;have sO:=jc mR (Below.refl B w).size;have⟨nC,xI⟩:=yT mR TL.lt P8.lt;have uo:=m1.lt;refine av (au 0)<|aD<|Ws<|ay<|av (pt p)<|av (pt I)<|Lv (au v.o) (aM m1.aH 0)<|av (pf I 12)<|Lv (aC v.req) (aM m1.aH 12) ?_;have MI:Cy w1 p m := { c:=m2.aH,an:=m3.arr,ag:=m4.arr,tc:=m5.aH,at2:=m6.arr,ar:=fun i N=>(m7.1 i N).arr,bn:=(by show m.s.nn<=1000000; omega),bg:=bg,bt:=(by show m.tn<=1000000; omega),br:=O.br };by_cases c17:(decide (0<=m.kM a v.req))=true
 ·refine dL (AZ m p a v.o v.req _ MI ha ho) aG (by rw[c17]) ?_;intro w2 hb1;have b2:=eP hb1 b1 G;refine aD<|aO<|ay<|av (au 14)<|aD<|Wr<|sR<|aJ (au 14) ?_;have eN:aK v=a:=by unfold aK; omega
  have Y:iN m.core v=14:=by unfold iN; rw[eN]; exact d_ (h_ c17)
  exact⟨oV Y.symm,b2,fun h0=>by rw[Y]at h0; cases h0⟩
 rw[S_]at c17;refine dL (AZ m p a v.o v.req _ MI ha ho) aF (by rw[c17]) ?_;intro w3 hb2;have⟨m15,m16,m17,m18,m19,m20,m21⟩:=jw hb2 m2 m3 m4 m5 m6 m7 m1;have b3:=eP hb2 b1 G;refine aD<|aL<|Wk<|sN<|Ws ?_;refine jS [0,1,2,4,3,5,6,7] [0,0,0,4,0,4,3,0] [(6,3,[3]),(6,5,[5]),(7,6,[6])] fun qE dU iC => ?_;have⟨m22,m23,m24,mZ,nT,oM,oN⟩:=jw dU m15 m16 m17 m18 m19 m20 m21;have b4:=eP dU b3 G;refine aZ (pt p)<|aZ (pt p)<|aZ (pf p 20)<|aZ (pf I 9)<|Rs (pt m.tb) (aM m22.aH 20) ?_;refine Rs (aC v.node) (aM oN.aH 9) ?_;refine gG<|lS (IY m.tb m.ta m.tn m.tc m.t v.node D _ (tF mZ nT bt) hD hD2) ?_;rintro e w4 ⟨K,vv,he,hown,uD,hK1,hb3⟩;obtain⟨a1,C,rfl⟩:=hown.val;refine⟨.slice a1 K C,he,?_⟩;clear he;have Wi:K=dR m.t m.tn v.node:=uL uD hK1 hD hD2;have hKD:K<=1000:=by rw[Wi]; exact I8 _ _
 have⟨oZ,qc,lU,m32,qw,og,qG⟩:=jw hb3 m22 m23 m24 mZ nT oM oN;have b5:=eP hb3 b4 G;refine Ln<|aZ (.slice a1 (K) (C))<|bO<|Ws<|ay<|av (.slice a1 (K) (C))<|av (au K) ?_;by_cases c27:(K:Int)=0
 ·refine Lv aG (eY c27)<|aD<|aO<|ay<|av (au 9)<|aD<|Wr<|sR<|aJ (au 9) ?_;have eN:aK v=a:=by unfold aK; omega
  have ne1 : ¬ 0<=m.core.kM (aK v) v.req:=by rw[eN]; exact j_ c17
  have Y:iN m.core v=9:=by unfold iN; rw[b_ ne1]; exact d_ (Wi.symm.trans (by omega))
  exact⟨oV Y.symm,b5,fun h0=>by rw[Y]at h0; cases h0⟩
 refine Lv aF (fU c27)<|aD<|aL<|Wk<|sN<|Ws<|ay<|av (au 0)<|aD<|Wb<|Wo (fun f H => ∃ k:Nat,∃ Rk:Nat->Nat->Int,k<=K/\cZ (fun x=>bC x v.o v.aT) (nV m.core v.node) m.R k=(Rk,0)/\f 0=(pt p)/\f 3=(pt I)/\f 5 = .slice a1 (K) (C)/\f 6=au (k:Int)/\aQ H p 27 (mD m) 56/\Fx.Own H B 99 5 (.slice m.s.ga (m.s.gn) (m.s.gc)) m.s.gn (IW m)/\aQ H m.tb 1 (fun _ => .slice m.ta m.tn m.tc) 111/\Fx.Own H B 172 2 (.slice m.ta (m.tn) (m.tc)) m.tn (PY m.t)/\vP H B 6 m/\aQ H I 14 (bH v) 28/\Fx.Own H qE.heap.size 22 1 (.slice a1 (K) (C)) K (rv .u64 (fun i=>aW m.t m.tn i v.node))/\Fx.Own H B 84 56 (.slice m.s.na (m.s.nn) (m.s.nc)) m.s.nn (flat 56 (fun l=>mO (m.id l) (m.par l) (Rk l)))/\Below B w H) (fun f _=>(K-(intOf (f 6)).toNat)) ⟨0,m.R,by omega,rfl,(by rfl),(by rfl),(by rfl),Fx.ic,oZ,lU,m32,qw,og,qG,hown,qc,b5⟩ ?_;rintro f1 w5 ⟨k,Rk,hk,hRk,h1,Q,h3,h4,pV,uf,rP,qM,uq,nU,nD,nE,b6⟩;refine Ws<|ay<|aY h4<|aY h3<|av (au K) ?_;by_cases c31:(k:Int)<(K:Int)
 ·refine Lv aG (iL c31)<|aD<|aO<|Wk<|sN<|Ws<|Wb<|Ws ?_;obtain⟨q,hq,eq0,_⟩:=DY (m:=m) (x:=aW m.t m.tn k v.node) (by rw[hTN]; exact uD k (by omega));have ex1:nV m.core v.node k=q:=by show(gI (fun i=>decide (m.id i=aW m.t m.tn k v.node)) m.s.nn).toNat=q; rw[eq0]; rfl
  refine Wl<|aY h1<|aY h3<|aY h4 ?_;obtain⟨GN,eq1⟩:=nD.addr (by omega);have rY:Fx.Own w5 qE.heap.size 22 1 (bK GN K C) K (rv .u64 (fun i=>aW m.t m.tn i v.node)):=nD.fH (K_ (fun q=>Value.slice q K C) eq1);refine Lv (pf GN k) (dh 1 (hx:=(rfl.trans (K_ (fun q=>Value.slice q (K) (C)) eq1))))<|Lv (aC (aW m.t m.tn k v.node)) (aM rY.aH k) ?_;have rQ:Fx.Own w5 qE.heap.size 22 1 (.slice a1 (K) (C)) K (rv .u64 (fun i=>aW m.t m.tn i v.node)):=rY.fH (K_ (fun q=>Value.slice q K C) eq1.symm);have Ub:Cy w5 p { m with R:=Rk } := { c:=pV.aH,an:=nE.arr,ag:=uf.arr,tc:=rP.aH,at2:=qM.arr,ar:=fun i N=>(uq.1 i N).arr,bn:=(by show m.s.nn<=1000000; omega),bg:=bg,bt:=(by show m.tn<=1000000; omega),br:=O.br };refine dL ((IX { m with R:=Rk } p (aW m.t m.tn k v.node) _ Ub).mono (fun e w2 Q=>(⟨Q.1.trans (oV eq0),Q.2⟩:e = .returned (au (q:Int))/\_))) _ rfl ?_;intro w6 hb4;have⟨pz,rZ,xB,tK,sQ,uw,uU,uV⟩:=lK hb4 pV uf rP qM uq nU nE rQ;have b7:=eP hb4 b6 G;refine av (au q)<|aD<|Ws ?_;obtain⟨V,Ja⟩:=uU.addr (by omega);have uy:Fx.Own w6 B 84 56 (bK V m.s.nn m.s.nc) m.s.nn (flat 56 (fun l=>mO (m.id l) (m.par l) (Rk l))):=uU.fH (K_ (fun q=>Value.slice q m.s.nn m.s.nc) Ja);refine rT (T:=82) (T':=82) (a := .tmp 8) (v := .tmp 55) (m:=54) (z:=rv .i64 (fun _=>0)) (y:=rv .i64 ((bC (Rk q) v.o v.aT).1)) (u := .agg (aA 54 (rv .i64 ((bC (Rk q) v.o v.aT).1)))) 17 18 (List.replicate 20 (0,2,[],[])) #[(pt p),(pt p),(pt p),(pf p 18),.slice m.s.na (m.s.nn) (m.s.nc),au (q:Int),(pf V (56*q)),(pf V (56*q+2)),.agg (aA 54 (rv .i64 (Rk q))),(pt I),au v.o,(pf I 11),au v.aT,.tuple #[.agg (aA 54 (rv .i64 ((bC (Rk q) v.o v.aT).1))),au ((bC (Rk q) v.o v.aT).2)],.tuple #[.agg (aA 54 (rv .i64 ((bC (Rk q) v.o v.aT).1))),au ((bC (Rk q) v.o v.aT).2)],.agg (aA 54 (rv .i64 ((bC (Rk q) v.o v.aT).1))),au ((bC (Rk q) v.o v.aT).2),undef,undef,au ((bC (Rk q) v.o v.aT).2)] (by kernel_rfl) (by kernel_rfl) (by kernel_rfl) (by kernel_rfl) (by kernel_rfl) (by kernel_rfl) rfl (by kernel_rfl) rfl rfl (by kernel_rfl) (fun Z=>(show ev _ (.tmp 8)=(pt Z)from by kernel_rfl)) (fun Z=>(show ev _ (.tmp 55) = .agg (aA 54 (rv .i64 ((bC (Rk q) v.o v.aT).1)))from by kernel_rfl)) (bL _ _) (fun _ _=>rfl) (by kernel_rfl) (fun Z => ?_) ?_
  ·refine⟨?_,?_,?_,?_,?_,?_,?_,?_,?_,?_,?_,?_,?_,?_,?_,?_,?_,?_,?_,?_,trivial⟩
   ·exact .inr (.inr (rW (pt p) fun d b=>fI rfl ((bX (by kernel_rfl)).trans h1)))
   ·exact .inr (.inr pU)
   ·exact .inr (.inr pU)
   ·exact .inr (.inr pU)
   ·exact .inr (.inr (rW (.slice m.s.na (m.s.nn) (m.s.nc)) fun d b=>bF (x:=mD m) rfl (show ev _ (.tmp 44)=(pf p 18)from by kernel_rfl) (by kernel_rfl) (pz.aH.below b (by have:=pz.lt; omega)) (i:=18) (by omega) (by omega) rfl))
   ·exact .inr (.inr pU)
   ·exact .inr (.inr (rW (pf V (56*q)) fun d b=>dY rfl ((show ev _ (.tmp 45) = .slice m.s.na (m.s.nn) (m.s.nc)from by kernel_rfl).trans (K_ (fun q=>Value.slice q (m.s.nn) (m.s.nc)) Ja)) (show ev _ (.tmp 46)=au (q:Int)from by kernel_rfl) Tryd.underlying48 (s:=56) (by kernel_rfl) (by omega) (by omega) (by omega)))
   ·exact .inr (.inr pU)
   ·exact .inr (.inr (rW (.agg (aA 54 (rv .i64 (Rk q)))) fun d b=>eZ (x:=flat 56 (fun l=>mO (m.id l) (m.par l) (Rk l))) (y:=rv .i64 (Rk q)) rfl (show ev _ (.tmp 48)=(pf V (56*q+2))from by kernel_rfl) (by kernel_rfl) (by kernel_rfl) (uy.aH.below b (by have:=uy.lt; omega)) (i:=56*q+2) (by omega) (by omega) (fun jq hjq=>(Fx.mo (k:=q) (j:=2+jq) (by omega) (by omega)).trans ((fun jq _=>IV _ _ _ jq) jq hjq))))
   ·exact .inr (.inr (rW (pt I) fun d b=>fP rfl ((bX (by kernel_rfl)).trans Q) Tryd.underlying28 rfl (s:=1) (by kernel_rfl) rfl rfl))
   ·exact .inr (.inr (rW (au v.o) fun d b=>bF (x:=bH v) rfl (show ev _ (.tmp 50)=(pt I)from by kernel_rfl) (by kernel_rfl) (uw.aH.below b (by have:=uw.lt; omega)) (i:=0) (by omega) (by omega) rfl))
   ·exact .inr (.inr (rW (pf I 11) fun d b=>fP rfl ((bX (by kernel_rfl)).trans Q) Tryd.underlying28 rfl (s:=1) (by kernel_rfl) rfl (by show _+11=_; omega)))
   ·exact .inr (.inr (rW (au v.aT) fun d b=>bF (x:=bH v) rfl (show ev _ (.tmp 52)=(pf I 11)from by kernel_rfl) (by kernel_rfl) (uw.aH.below b (by have:=uw.lt; omega)) (i:=11) (by omega) (by omega) rfl))
   ·exact .inr (.inr (Fx.Il (v := .tuple #[.agg (aA 54 (rv .i64 ((bC (Rk q) v.o v.aT).1))),au ((bC (Rk q) v.o v.aT).2)]) (by kernel_rfl) (by kernel_rfl) (Fx.qbC (fun d b=>rC (args := [.agg (aA 54 (rv .i64 (Rk q))),au v.o,au v.aT]) rfl (Fx.NC (show ev _ (.tmp 49) = .agg (aA 54 (rv .i64 (Rk q)))from by kernel_rfl) (show ev _ (.tmp 51)=au v.o from by kernel_rfl) (show ev _ (.tmp 53)=au v.aT from by kernel_rfl)) Tryd.func88 rfl rfl) (fun d b=>(Xt (Rk q) v.o v.aT _).mono fun e v2 h=>⟨h.1,h.2⟩))))
   ·exact .inr (.inr pU)
   ·exact .inr (.inr pU)
   ·exact .inr (.inr pU)
   ·exact .inl rfl
   ·exact .inr (.inl rfl)
   exact .inr (.inr pU)
  rintro Z w7 E A qN wD hb5;have EG:p≠Z:=t_ (n_ (pz.lt) qN);have akj:m.tb≠Z:=t_ (n_ (xB.lt) qN);have aaU:I≠Z:=t_ (n_ (uw.lt) qN);have akk:V≠Z:=t_ (n_ (uy.lt) qN);have⟨sS,sj,sU,xC,ru,uW,oh,tL⟩:=lK hb5 pz rZ xB tK sQ uw uV uy;have b8:=eP hb5 b7 G;have qN:w.heap.size<=Z:=m_ b7.size qN;have zL:=wD.lt;have q1:E 0=(pt p):=by rw[A]; exact(bX (by kernel_rfl)).trans h1
  have q2:E 3=(pt I):=by rw[A]; exact(bX (by kernel_rfl)).trans Q
  have q3:E 5 = .slice a1 (K) (C):=by rw[A]; exact(bX (by kernel_rfl)).trans h3
  have q4:E 6=au (k:Int):=by rw[A]; exact(bX (by kernel_rfl)).trans h4
  have q5:E 28=au (k:Int):=by rw[A]; kernel_rfl
  have q6:E 29 = .slice a1 (K) (C):=by rw[A]; kernel_rfl
  have q7:E 30=au (K:Int):=by rw[A]; kernel_rfl
  have q8:E 31 = .bool true:=by rw[A]; kernel_rfl
  have q9:E 34=(pt p):=by rw[A]; kernel_rfl
  have q10:E 35 = .slice a1 (K) (C):=by rw[A]; kernel_rfl
  have q11:E 36=au (k:Int):=by rw[A]; kernel_rfl
  have q12:E 37=(pf GN k):=by rw[A]; kernel_rfl
  have q13:E 38=aC (aW m.t m.tn k v.node):=by rw[A]; kernel_rfl
  have q14:E 39=au (q:Int):=by rw[A]; kernel_rfl
  have q15:E 7=au (q:Int):=by rw[A]; kernel_rfl
  have q16:E 41=(pt p):=by rw[A]; kernel_rfl
  have q17:E 42=(pt p):=by rw[A]; kernel_rfl
  have q18:E 43=(pt p):=by rw[A]; kernel_rfl
  have q19:E 44=(pf p 18):=by rw[A]; kernel_rfl
  have q20:E 45 = .slice m.s.na (m.s.nn) (m.s.nc):=by rw[A]; kernel_rfl
  have q21:E 46=au (q:Int):=by rw[A]; kernel_rfl
  have q22:E 47=(pf V (56*q)):=by rw[A]; kernel_rfl
  have q23:E 48=(pf V (56*q+2)):=by rw[A]; kernel_rfl
  have q24:E 49 = .agg (aA 54 (rv .i64 (Rk q))):=by rw[A]; kernel_rfl
  have q25:E 50=(pt I):=by rw[A]; kernel_rfl
  have q26:E 51=au v.o:=by rw[A]; kernel_rfl
  have q27:E 52=(pf I 11):=by rw[A]; kernel_rfl
  have q28:E 53=au v.aT:=by rw[A]; kernel_rfl
  have q29:E 54 = .tuple #[.agg (aA 54 (rv .i64 ((bC (Rk q) v.o v.aT).1))),au ((bC (Rk q) v.o v.aT).2)]:=by rw[A]; kernel_rfl
  have q30:E 40 = .tuple #[.agg (aA 54 (rv .i64 ((bC (Rk q) v.o v.aT).1))),au ((bC (Rk q) v.o v.aT).2)]:=by rw[A]; kernel_rfl
  have q31:E 55 = .agg (aA 54 (rv .i64 ((bC (Rk q) v.o v.aT).1))):=by rw[A]; kernel_rfl
  have q32:E 56=au ((bC (Rk q) v.o v.aT).2):=by rw[A]; kernel_rfl
  have q33:E 8=(pt Z):=by rw[A]; kernel_rfl
  have q34:E 9=au ((bC (Rk q) v.o v.aT).2):=by rw[A]; kernel_rfl
  clear A;refine sN<|Ws<|ay<|aY q34 ?_;by_cases c58:((bC (Rk q) v.o v.aT).2)=0
  ·refine Lv aF (jH c58)<|aD<|aL<|Wk<|sN ?_;refine jS [0,1,2,3,5,4,6,7,8,9] [0,0,0,0,4,0,4,0,0,3] [(9,4,[4]),(9,6,[6])] fun Dl gH nZ => ?_;have⟨m64,yY,wE,wR,wK,sV,uX,uz,vI⟩:=Bt gH sS sj sU xC ru uW oh tL wD;have b9:=eP gH b8 G;refine bU q1<|aZ (pt p)<|aZ (pt p)<|aZ (pf p 18)<|bU q15<|Rs (.slice m.s.na (m.s.nn) (m.s.nc)) (aM m64.aH 18) ?_;refine Rs (.agg (aA 54 (rv .i64 ((bC (Rk q) v.o v.aT).1)))) (fJ vI.aH 0 (ha:=q33)) ?_;refine Rp (pf V (56*q)) (fun _=>dh 56 (hx:=(rfl.trans (K_ (fun q=>Value.slice q (m.s.nn) (m.s.nc)) Ja))))<|aZ (pf V (56*q+2))<|gG<|zH uz (56*q+2) fun w8 tN s9 z2 => ?_;have gM:=gK s9 uz.JL;have⟨Ah,vJ,yt,yu,wS,wT,sZ⟩:=RH gM m64 yY wE wR wK sV uX;have b10:=s9.below b9 (m_ G b9.size) uz.blk.1;have xD:Fx.Own w8 B 84 56 (bK V m.s.nn m.s.nc) m.s.nn (flat 56 (fun l=>mO (m.id l) (m.par l) (aI Rk q ((bC (Rk q) v.o v.aT).1) l))):=tN.congr (fun X W=>(Fx.Br (k:=q) (j:=2) (by omega) (by omega) X W).trans (bP (fun i N j hj=>BL i N j hj) X W));refine Ln<|Rn<|bT<|sN<|Wl<|aY q4<|Lv (au ((k:Int)+1)) fE<|av (au ((k:Int)+1))<|Ln ?_;have yw:Fx.Own w8 B 84 56 (.slice m.s.na (m.s.nn) (m.s.nc)) m.s.nn (flat 56 (fun l=>mO (m.id l) (m.par l) (aI Rk q ((bC (Rk q) v.o v.aT).1) l))):=xD.fH (K_ (fun q=>Value.slice q m.s.nn m.s.nc) Ja.symm);refine iB ⟨k+1,(aI Rk q (bC (Rk q) v.o v.aT).1),by omega,(EM hRk ex1 (by first|exact c58|exact Classical.not_not.1 c58)),q1,q2,q3,Fx.ic,Ah,vJ,yt,yu,wS,wT,sZ,yw,b10⟩ ?_
   show(K-(intOf (au ((k:Int)+1))).toNat)<_;simp only[h4,intOf]; omega
  refine Lv aG (mX c58)<|aD<|aO<|ay<|aY q34<|av (au ((bC (Rk q) v.o v.aT).2))<|aD<|Wr<|sR<|bI<|sR<|qo<|bI<|sR<|aJ (au ((bC (Rk q) v.o v.aT).2)) ?_;have eN:aK v=a:=by unfold aK; omega
  have ne1 : ¬ 0<=m.core.kM (aK v) v.req:=by rw[eN]; exact j_ c17
  have ne2 : ¬ dR m.core.t m.core.tn v.node=0:=fun e=>c27 (by rw[show K=0 from Wi.trans e]; rfl);have ew:mP m.core v=cZ (fun x=>bC x v.o v.aT) (nV m.core v.node) m.R K:=by unfold mP; rw[show dR m.core.t m.core.tn v.node=K from Wi.symm]; rfl
  have Y:iN m.core v=(bC (Rk q) v.o v.aT).2:=by
   unfold iN; rw[b_ ne1,b_ ne2,ew];have e1:=GQ hRk ex1 c58;rw[zR (k:=k+1) (by rw[e1]; exact c58) K (by omega)]; exact e1
  exact⟨oV Y.symm,b8,fun h0=>L_ (Y.symm.trans h0) c58⟩
 refine Lv aF (iM c31)<|aD<|aL<|Wx<|cK<|gU<|cO<|sN<|Ws ?_;have hRK:cZ (fun x=>bC x v.o v.aT) (nV m.core v.node) m.R K=(Rk,0):=by rw[show K=k by omega]; exact hRk
 refine Wl<|Lv (pt I) (jB Q 0)<|Lv (au v.o) (aM nU.aH 0)<|Lv (pf I 12) (jB Q 12)<|Lv (aC v.req) (aM nU.aH 12)<|Lv (pf I 9) (jB Q 9)<|Lv (aC v.node) (aM nU.aH 9)<|Lv (pf I 11) (jB Q 11)<|Lv (au v.aT) (aM nU.aH 11)<|av (.agg (aA 5 (bR (bR (bR (bR (fun J=>if J<1 then au 0 else if J<3 then aC 0 else if J<4 then au 0 else aC 0) 0 1 (fun _=>au v.o)) 1 1 (fun _=>aC v.req)) 2 1 (fun _=>aC v.node)) 3 1 (fun _=>au v.aT))))<|qC 5 (fun J=>if J<1 then au 0 else if J<3 then aC 0 else if J<4 then au 0 else aC 0) fun U w9 xE wF s10 z3 => ?_;have⟨zw,yx,zJ,yA,yB,Ai,Dt⟩:=jw s10.old pV uf rP qM uq nU nE;have b11:=eP s10.old b6 G;have Bz:=jc xE b6.size;have aaV:=cu xE pV.lt;have I4:(.slice m.s.ga (m.s.gn) (m.s.gc):Value).ownBlock≠some U:=by rw[xE]; exact uf.mH (z_ _)
 have⟨aaW,akm⟩:=yT xE rP.lt nU.lt;have IK:=wF.lt;refine dZ wF 0 (h1:=(bS (bS (bS (bS (fun jq _=>by show((fun J=>if J<1 then au 0 else if J<3 then aC 0 else if J<4 then au 0 else aC 0:Nat->Value) jq).oneCell'=true; simp only[]; repeat (first|rfl|split)) (fun _ _=>rfl)) (fun _ _=>rfl)) (fun _ _=>rfl)) (fun _ _=>rfl))) fun rO CF s11 z4 => ?_
 have CG:aQ rO U 5 (bR (bR (bR (bR (fun J=>if J<1 then au 0 else if J<3 then aC 0 else if J<4 then au 0 else aC 0) 0 1 (fun _=>au v.o)) 1 1 (fun _=>aC v.req)) 2 1 (fun _=>aC v.node)) 3 1 (fun _=>au v.aT)) 99:=aR CF;have kr:=gK s11 wF.ty;have Aj:=jO kr zw;have FT:=yx.bY s11 I4;have⟨EF,FU,F9,vR,uK⟩:=qb kr zJ yA yB Ai Dt;have b12:=s11.below b11 (m_ G b11.size) (by omega);refine aD<|Ws ?_;have sD:aQ rO U 5 (ng (pW v)) 99:=CG.congr (fun j hj=>by rcases j with _|_|_|_|_|j <;> first|rfl|omega)
 refine Wl<|aY h1<|av (pt p)<|av (pt p)<|av (pf p 19)<|Lv (.slice m.s.ga (m.s.gn) (m.s.gc)) (aM Aj.aH 19)<|av (au m.s.gn)<|av (au m.s.gn)<|aD<|Ws ?_;refine Au [0,1,2,3,4,5,6,7,8,9,10,11,12] [0,0,0,0,0,1,4,2,2,0,0,0,3] (jl [99]) wX Fx.jl.trans (fT := [(12,5,[5]),(7,6,[6]),(8,6,[7,6]),(12,6,[6]),(8,7,[7]),(9,7,[7]),(10,7,[7]),(11,7,[7]),(12,7,[7]),(9,8,[8]),(10,8,[8]),(11,8,[8]),(12,8,[8])]) (by kernel_rfl) (by kernel_rfl) (by kernel_rfl) (by kernel_rfl) (by kernel_rfl) fun Q0 lJ AB => ?_;have⟨nL,nM,qh,qH,qI,sF,vS,sG⟩:=lK lJ Aj FT EF FU F9 vR uK sD;have b13:=eP lJ b12 G;refine bU h1<|bU h1<|aZ (pt p)<|aZ (pt p)<|aZ (pf p 19)<|Rd (v := .slice m.s.ga (m.s.gn) (m.s.gc)) (by rfl) (by rfl) (wX _) (fun d b=>bF (x:=mD m) rfl rfl (by kernel_rfl) (nL.kg b (by decide)).aH (i:=19) (by omega) (by omega) rfl) ?_;refine Rs (.agg (aA 5 (ng (pW v)))) (fJ sG.aH 0) ?_;refine Dc<|Af (vs := [(0,.agg (aA 5 (ng (pW v))))]) (s:=5) (zc:=fun J=>if J<1 then au 0 else if J<3 then aC 0 else if J<4 then au 0 else aC 0) (y:=bR (fun j=>(fun J=>if J<1 then au 0 else if J<3 then aC 0 else if J<4 then au 0 else aC 0) (j % 5)) (0*5) 5 (ng (pW v))) (by rfl) rfl rfl Tryd.underlying49 (by kernel_rfl) (by rfl) (by rfl) (by kernel_rfl) (by rw[bJ (off:=0*5) (s:=5) (y:=ng (pW v)) rfl (bL _ _) (by rfl)]; rfl) rfl fun g4 F7 JZ tO s13 z5 => ?_;have⟨xJ,tQ,za,zP,wM,tT,qj,vT⟩:=lK s13.old nL nM qh qH qI sF vS sG;have b14:=eP s13.old b13 G;have Q7:=jc JZ b13.size;have Xx:=cu JZ nL.lt;have Xy:(.slice m.s.ga (m.s.gn) (m.s.gc):Value).ownBlock≠some g4:=by rw[JZ]; exact nM.mH (z_ _)
 have⟨ahH,Xz,ahI⟩:=Dh JZ qh.lt sF.lt sG.lt;have Qi:=tO.lt;refine Ln ⟨Fx.jl.of_below s13.old,?_⟩;refine Dc<|Ar (B:=B) (s:=5) (bytes:=40) (k:=m.s.gn) (m:=1) (v := .slice m.s.ga (m.s.gn) (m.s.gc)) (x:=IW m) (by rfl) rfl rfl rfl Tryd.underlying49 (by kernel_rfl) (by kernel_rfl) rfl rfl tQ tO.aH (yE (AQ _)) (by omega) (by omega) (by omega) (m_ G b14.size) fun F C Cx ho1 hg1 wJ hlt1 => ?_;have qZ:=Av hg1 tQ;have⟨vU,Dv,EH,EI,BI,Dw⟩:=WE qZ xJ za zP wM tT qj;have Ga:=vT.grown hg1 I4;have ahJ:U≠F:=fun e=>wJ.elim (fun e2=>I4 (by rw[e]; exact e2)) (fun e2=>by have:=vT.lt; omega);have wN:Fx.Own Cx B 99 5 (bK F (m.s.gn+1) C) (m.s.gn+1) (flat 5 (Fx.JM (fun l=>ng (m.g l)) (ng (pW v)) m.s.gn m.s.gn)):=(ho1.congr (fun j hj=>(Fx.Eo j hj).trans (bP (fun i N q _=>Fx.wY i N q) j hj)));have b15:Below B w Cx:=Aq b14 hg1 (m_ G b14.size) (fun q hq=>(tQ.ge hq).1);refine Ln ⟨qZ,?_⟩;refine aZ (pt p)<|aZ (pt p)<|aZ (pf p 19)<|gG<|iX vU 19 (bK F (m.s.gn+1) C) fun F8 wO Dm z6 => ?_;have yX:=gK Dm vU.ty;have⟨BJ,Jb,Kz,EJ,Dx,Dy,Gb⟩:=RH yX Dv EH EI BI Dw Ga wN;have b16:=Dm.below b15 (m_ G b15.size) (by omega);refine Ln<|bO<|DL (fun f H => ∃ k:Nat,k<=m.s.gn/\k=down (fun i=>EN v (m.g i)) m.s.gn/\f 0=(pt p)/\f 3=(pt I)/\f 10=(pt U)/\f 11=au (k:Int)/\aQ H m.tb 1 (fun _ => .slice m.ta m.tn m.tc) 111/\Fx.Own H B 172 2 (.slice m.ta (m.tn) (m.tc)) m.tn (PY m.t)/\vP H B 6 m/\aQ H I 14 (bH v) 28/\Fx.Own H B 84 56 (.slice m.s.na (m.s.nn) (m.s.nc)) m.s.nn (flat 56 (fun l=>mO (m.id l) (m.par l) (Rk l)))/\aQ H U 5 (ng (pW v)) 99/\aQ H p 27 (dD (mD m) 19 (bK F (m.s.gn+1) C)) 56/\Fx.Own H B 99 5 (bK F (m.s.gn+1) C) (m.s.gn+1) (flat 5 (Fx.JM (fun l=>ng (m.g l)) (ng (pW v)) m.s.gn k))/\Below B w H) ?_ ?_
 ·refine Wb<|Wo (fun f H => ∃ k:Nat,k<=m.s.gn/\(∀ i,k<=i->i<m.s.gn->EN v (m.g i)=true)/\f 0=(pt p)/\f 3=(pt I)/\f 10=(pt U)/\f 11=au (k:Int)/\aQ H m.tb 1 (fun _ => .slice m.ta m.tn m.tc) 111/\Fx.Own H B 172 2 (.slice m.ta (m.tn) (m.tc)) m.tn (PY m.t)/\vP H B 6 m/\aQ H I 14 (bH v) 28/\Fx.Own H B 84 56 (.slice m.s.na (m.s.nn) (m.s.nc)) m.s.nn (flat 56 (fun l=>mO (m.id l) (m.par l) (Rk l)))/\aQ H U 5 (ng (pW v)) 99/\aQ H p 27 (dD (mD m) 19 (bK F (m.s.gn+1) C)) 56/\Fx.Own H B 99 5 (bK F (m.s.gn+1) C) (m.s.gn+1) (flat 5 (Fx.JM (fun l=>ng (m.g l)) (ng (pW v)) m.s.gn k))/\Below B w H) (fun f _=>(intOf (f 11)).toNat) ⟨m.s.gn,by omega,(fun i h1 Q=>L_ h1 (by omega)),h1,Q,(by rfl),Fx.ic,BJ,Jb,Kz,EJ,Dx,Dy,wO,Gb,b16⟩ ?_;rintro f3 L ⟨k,hk,hgt,S,h6,h7,M,AU,AV,AX,BN,EK,zQ,BK,ze,b17⟩;refine Ws<|Ws ?_;refine yS<|eB M ?_;by_cases c97:0<(k:Int)
  ·obtain⟨j,ej⟩ : ∃ j,k=j+1:=⟨k-1,by omega⟩;refine Qv aG (fun d b=>nu c97)<|aX aG<|eB S<|aX (pt p)<|aX (pt p)<|aX (pf p 19)<|Qv (bK F (m.s.gn+1) C) (fun d b=>aM (BK.aH.dr b) 19 (Fx.kY (by omega)))<|eB M<|Qv (au j) (fun d b=>fQ)<|Qv (pf F (5*j)) (fun d b=>dh 5)<|aX (pf F (5*j))<|Qv (au ((m.g j) 0)) (fun d b=>aM (ze.aH.dr b) (5*j) (Fx.iw (k:=j) (j:=0) (by omega) (by omega) ((congrFun (Fx.zm (by omega) (by omega)) 0).trans rfl)))<|Qv (pt U) (fun d b=>jB h7 0)<|Qv (au v.o) (fun d b=>aM (zQ.aH.dr b) 0) ?_;by_cases Uc:v.o<((m.g j) 0)
   ·refine Qv aG (fun d b=>nu Uc)<|aX aG<|aP<|aP<|aP<|aP<|aP<|aP<|aP<|aP<|aP<|aP<|aP<|aP<|aP<|aP<|aP<|aP<|aP<|aP<|aP<|aP<|aP<|aP<|aP ?_;refine aP<|aP<|aP<|aP<|aP<|aX aG<|aX aG<|Qn ?_;rintro _ ⟨P,rfl⟩;obtain⟨Dn,oG⟩ : ∃ d,d=World.drewN L P:=⟨_,rfl⟩;rw[<- oG];have s15:Stp L.heap.size L Dn:=(by rw[oG]; exact Sb (jD L P));have⟨I5,P9,Ud,TP,TQ,abm,TR,aaX⟩:=lK s15.old AU AV AX BN EK zQ BK ze;have b18:=eP s15.old b17 G;clear oG;refine sN<|aO<|Wk<|sN<|Wb<|Ws ?_;refine jS [0,1,2,3,5,6,7,8,9,11,12,4,10,13,14,15,16] [0,0,0,0,4,0,0,0,0,0,4,0,0,0,4,0,3] [(16,4,[4]),(16,10,[10]),(16,14,[14])] fun wt4 qp Gy => ?_;have⟨TS,Qa,TT,TU,aaY,aaZ,abn,Qb⟩:=lK qp I5 P9 Ud TP TQ abm TR aaX;have b19:=eP qp b18 G;refine bU S<|aZ (pt p)<|aZ (pt p)<|aZ (pf p 19)<|bU M<|bU S<|aZ (pt p)<|aZ (pt p)<|aZ (pf p 19)<|bU M<|Rp (au j) (fun _=>fQ)<|Rs (bK F (m.s.gn+1) C) (aM abn.aH 19 (Fx.kY (by omega))) ?_;refine Rs (bK F (m.s.gn+1) C) (aM abn.aH 19 (Fx.kY (by omega))) ?_;refine Rp (pf F (5*j)) (fun _=>dh 5)<|Rs (.agg (aA 5 (ng (m.g j)))) (fJ Qb.aH (5*j) (fun jq hjq=>(Fx.mo (k:=j) (by omega) hjq).trans (congrFun (Fx.zm (by omega) (by omega)) jq))) ?_;refine Rp (pf F (5*k)) (fun _=>dh 5)<|gG<|zH Qb (5*k) (h1:=(fun j _=>AQ _ j)) fun LK abb Gx z7 => ?_;have xA:=gK Gx Qb.JL;have⟨afg,abd,abe,abf,akn⟩:=qb xA TS Qa TT TU aaY;have ako:=aaZ.bY Gx (by omega);have akp:=jO xA abn;have b20:=Gx.below b19 (m_ G b19.size) Qb.blk.1;have akq:Fx.Own LK B 99 5 (bK F (m.s.gn+1) C) (m.s.gn+1) (flat 5 (Fx.JM (fun l=>ng (m.g l)) (ng (pW v)) m.s.gn j)):=abb.congr (fun X W=>(Fx.ug (k:=k) (by omega) X W).trans (bP (fun i N q _=>Fx.xZ ej (by omega) i N q) X W));refine Ln<|bO<|Wl<|aY M<|Lv (au j) fQ<|av (au j)<|Ln<|bT<|iB ⟨j,by omega,(KH ej hgt (by unfold EN; rw[f_ Uc]; rfl)),S,h6,h7,Fx.ic,afg,abd,abe,abf,akn,ako,akp,akq,b20⟩ ?_;show(intOf (au j)).toNat<_;simp only[M,intOf]; omega
   refine Qv aF (fun d b=>ny Uc)<|aX aF<|eB S<|aX (pt p)<|aX (pt p)<|aX (pf p 19)<|Qv (bK F (m.s.gn+1) C) (fun d b=>aM (BK.aH.dr b) 19 (Fx.kY (by omega)))<|eB M<|Qv (au j) (fun d b=>fQ)<|Qv (pf F (5*j)) (fun d b=>dh 5)<|aX (pf F (5*j))<|Qv (au ((m.g j) 0)) (fun d b=>aM (ze.aH.dr b) (5*j) (Fx.iw (k:=j) (j:=0) (by omega) (by omega) ((congrFun (Fx.zm (by omega) (by omega)) 0).trans rfl)))<|Qv (pt U) (fun d b=>jB h7 0)<|Qv (au v.o) (fun d b=>aM (zQ.aH.dr b) 0) ?_;by_cases XA:((m.g j) 0)=v.o
   ·refine Qv aG (fun d b=>eY XA)<|aX aG<|eB S<|aX (pt p)<|aX (pt p)<|aX (pf p 19)<|Qv (bK F (m.s.gn+1) C) (fun d b=>aM (BK.aH.dr b) 19 (Fx.kY (by omega)))<|eB M<|Qv (au j) (fun d b=>fQ)<|Qv (pf F (5*j)) (fun d b=>dh 5)<|aX (pf F (5*j+1))<|Qv (aC ((m.g j) 1)) (fun d b=>aM (ze.aH.dr b) (5*j+1) (Fx.iw (k:=j) (j:=1) (by omega) (by omega) ((congrFun (Fx.zm (by omega) (by omega)) 1).trans rfl)))<|Qv (pf U 1) (fun d b=>jB h7 1)<|Qv (aC v.req) (fun d b=>aM (zQ.aH.dr b) 1) ?_;by_cases c139:v.req<((m.g j) 1)
    ·refine Qv aG (fun d b=>nu c139)<|aX aG<|aX aG<|aX aG<|Qn ?_;rintro _ ⟨P,rfl⟩;obtain⟨wq2,vQ⟩ : ∃ d,d=World.drewN L P:=⟨_,rfl⟩;rw[<- vQ];have LP:Stp L.heap.size L wq2:=(by rw[vQ]; exact Sb (jD L P));have⟨akr,aks,akt,aku,akv,akw,akx,aky⟩:=lK LP.old AU AV AX BN EK zQ BK ze;have LJ:=eP LP.old b17 G;clear vQ;refine sN<|aO<|Wk<|sN<|Wb<|Ws ?_;refine jS [0,1,2,3,5,6,7,8,9,11,12,4,10,13,14,15,16] [0,0,0,0,4,0,0,0,0,0,4,0,0,0,4,0,3] [(16,4,[4]),(16,10,[10]),(16,14,[14])] fun wt5 zu Sk => ?_;have⟨akz,akA,akB,akC,akD,akE,abo,XB⟩:=lK zu akr aks akt aku akv akw akx aky;have Ju:=eP zu LJ G;refine bU S<|aZ (pt p)<|aZ (pt p)<|aZ (pf p 19)<|bU M<|bU S<|aZ (pt p)<|aZ (pt p)<|aZ (pf p 19)<|bU M<|Rp (au j) (fun _=>fQ)<|Rs (bK F (m.s.gn+1) C) (aM abo.aH 19 (Fx.kY (by omega))) ?_;refine Rs (bK F (m.s.gn+1) C) (aM abo.aH 19 (Fx.kY (by omega))) ?_;refine Rp (pf F (5*j)) (fun _=>dh 5)<|Rs (.agg (aA 5 (ng (m.g j)))) (fJ XB.aH (5*j) (fun jq hjq=>(Fx.mo (k:=j) (by omega) hjq).trans (congrFun (Fx.zm (by omega) (by omega)) jq))) ?_;refine Rp (pf F (5*k)) (fun _=>dh 5)<|gG<|zH XB (5*k) (h1:=(fun j _=>AQ _ j)) fun w16 akF s20 z8 => ?_;have BD:=gK s20 XB.JL;have⟨akG,akH,akI,akJ,akK⟩:=qb BD akz akA akB akC akD;have akL:=akE.bY s20 (by omega);have akM:=jO BD abo;have Q5:=s20.below Ju (m_ G Ju.size) XB.blk.1;have akN:Fx.Own w16 B 99 5 (bK F (m.s.gn+1) C) (m.s.gn+1) (flat 5 (Fx.JM (fun l=>ng (m.g l)) (ng (pW v)) m.s.gn j)):=akF.congr (fun X W=>(Fx.ug (k:=k) (by omega) X W).trans (bP (fun i N q _=>Fx.xZ ej (by omega) i N q) X W));refine Ln<|bO<|Wl<|aY M<|Lv (au j) fQ<|av (au j)<|Ln<|bT<|iB ⟨j,by omega,(KH ej hgt (by unfold EN; rw[f_ XA,f_ c139]; cases decide (v.o<m.g j 0) <;> rfl)),S,h6,h7,Fx.ic,akG,akH,akI,akJ,akK,akL,akM,akN,Q5⟩ ?_
     show(intOf (au j)).toNat<_;simp only[M,intOf]; omega
    refine Qv aF (fun d b=>ny c139)<|aX aF<|aX aF<|aX aF<|Qn ?_;rintro _ ⟨P,rfl⟩;obtain⟨Zf,ET⟩ : ∃ d,d=World.drewN L P:=⟨_,rfl⟩;rw[<- ET];have s21:Stp L.heap.size L Zf:=(by rw[ET]; exact Sb (jD L P));have⟨akO,akP,akQ,akR,akS,akT,akU,akV⟩:=lK s21.old AU AV AX BN EK zQ BK ze;have Q6:=eP s21.old b17 G;clear ET;refine sN<|aL<|Wx<|cK<|gU<|cO ?_;exact wQ ⟨k,hk,(Fx.oK hk hgt (.inr (fun j2 e=>by rw[show j2=j by omega]; unfold EN; rw[g_ Uc,g_ c139,H_]; rfl))),S,h6,h7,(M.trans Fx.ic),akO,akP,akQ,akR,akS,akT,akU,akV,Q6⟩
   refine Qv aF (fun d b=>fU XA)<|aX aF<|aP<|aP<|aP<|aP<|aP<|aP<|aP<|aP<|aP<|aP<|aP<|aP<|aP<|aX aF<|aX aF<|aX aF<|Qn ?_;rintro _ ⟨P,rfl⟩;obtain⟨wq4,EU⟩ : ∃ d,d=World.drewN L P:=⟨_,rfl⟩;rw[<- EU];have s22:Stp L.heap.size L wq4:=(by rw[EU]; exact Sb (jD L P));have⟨akW,akX,akY,akZ,ala,alb,alc,ald⟩:=lK s22.old AU AV AX BN EK zQ BK ze;have WS:=eP s22.old b17 G;clear EU;refine sN<|aL<|Wx<|cK<|gU<|cO ?_;exact wQ ⟨k,hk,(Fx.oK hk hgt (.inr (fun j2 e=>by rw[show j2=j by omega]; unfold EN; rw[g_ Uc,g_ XA]; rfl))),S,h6,h7,(M.trans Fx.ic),akW,akX,akY,akZ,ala,alb,alc,ald,WS⟩
  refine Qv aF (fun d b=>ny c97)<|aX aF<|aP<|aP<|aP<|aP<|aP<|aP<|aP<|aP<|aP<|aP<|aP<|aP<|aP<|aP<|aP<|aP<|aP<|aP<|aP<|aP<|aP<|aP<|aP ?_;refine aP<|aP<|aP<|aP<|aP<|aP<|aP<|aP<|aP<|aP<|aP<|aP<|aP<|aP<|aP<|aP<|aP<|aP<|aP<|aP<|aX aF<|Qn ?_;rintro _ ⟨P,rfl⟩;obtain⟨wq5,MJ⟩ : ∃ d,d=World.drewN L P:=⟨_,rfl⟩;rw[<- MJ];have s23:Stp L.heap.size L wq5:=by rw[MJ]; exact Sb (jD L P)
  have⟨ale,alf,alg,alh,ali,alj,alk,alm⟩:=lK s23.old AU AV AX BN EK zQ BK ze;have WT:=eP s23.old b17 G;clear MJ;refine sN<|aL<|Wx<|cK<|gU<|cO ?_;exact wQ ⟨k,hk,(Fx.oK hk hgt (.inl (by omega))),S,h6,h7,(M.trans Fx.ic),ale,alf,alg,alh,ali,alj,alk,alm,WT⟩
 rintro f4 WV ⟨k,hk,ek,h9,h10,h11,h12,aln,alo,alp,alq,alr,als,alu,alv,WU⟩;refine Ws ?_;refine jS [0,1,2,3,5,4,6,7,8] [0,0,0,0,4,0,4,0,3] [(8,4,[4]),(8,6,[6])] fun wt6 Ka aeD => ?_;have⟨alx,aly,alz,alA,alB,afq,afr,abp⟩:=lK Ka aln alo alp alq alr als alu alv;have Y2:=eP Ka WU G;refine bU h9<|aZ (pt p)<|aZ (pt p)<|aZ (pf p 19)<|bU h12<|Rs (bK F (m.s.gn+1) C) (aM afr.aH 19 (Fx.kY (by omega))) ?_;refine Rs (.agg (aA 5 (ng (pW v)))) (fJ afq.aH 0 (ha:=h11)) ?_;refine Rp (pf F (5*k)) (fun _=>dh 5)<|gG<|zH abp (5*k) (h1:=(fun j _=>AQ _ j)) fun Sq alC Y3 z9 => ?_;have Dr:=gK Y3 abp.JL;have⟨alD,alE,afs,alF,alG⟩:=qb Dr alx aly alz alA alB;have alH:=afq.bY Y3 (by omega);have alI:=jO Dr afr;have b29:=Y3.below Y2 (m_ G Y2.size) abp.blk.1;have alJ:Fx.Own Sq B 99 5 (bK F (m.s.gn+1) C) (m.s.gn+1) (flat 5 (Fx.Ir (fun l=>ng (m.g l)) k (ng (pW v)))):=alC.congr (fun X W=>(Fx.ug (k:=k) (by omega) X W).trans (bP (fun i N q _=>Fx.sJ (by omega) i N q) X W));refine Ln<|bO<|Ws ?_;have alK:Fx.Own Sq B 22 1 (.slice (m.ra a) (m.rn a) (m.rc a)) (m.rn a) (rv .u64 (m.rq a)):=afs.1 a ha;have bra:=O.br a ha;refine Au [0,1,4,5,8,9,12,16,17,2,3,6,7,10,11,13,14,15,18,19] [0,0,1,0,0,0,1,0,0,0,0,1,0,4,2,2,0,0,0,3] (jl [22]) wX Fx.jl.trans (fT := [(19,2,[2]),(19,6,[6]),(19,11,[11]),(14,13,[13]),(15,13,[14,13]),(19,13,[13]),(15,14,[14]),(18,14,[14]),(19,14,[14]),(18,15,[15]),(19,15,[15])]) (by kernel_rfl) (by kernel_rfl) (by kernel_rfl) (by kernel_rfl) (by kernel_rfl) fun wt7 Kc aeF => ?_;have⟨aft,alL,alM,XC,alN,alO,abq,afu,afv⟩:=Bt Kc alD alE afs alF alG alH alI alJ alK;have b30:=eP Kc b29 G;refine bU h9<|Rp (pt I) (fun _=>jB h10 0)<|bU h9<|Rp (pt I) (fun _=>jB h10 0)<|aZ (pt p)<|aZ (pf p 21)<|Rp (pf I 12) (fun _=>jB h10 12)<|aZ (pt p)<|aZ (pf p 21)<|Rd (v:=au v.o) (by rfl) (by rfl) (wX _) (fun d b=>bF (x:=bH v) rfl rfl (by kernel_rfl) (XC.kg b (by decide)).aH (i:=0) (by omega) (by omega) rfl) ?_;refine Rp (au a) (fun _=>fQ)<|Rd (v:=au v.o) (by rfl) (by rfl) (wX _) (fun d b=>bF (x:=bH v) rfl rfl (by kernel_rfl) (XC.kg b (by decide)).aH (i:=0) (by omega) (by omega) rfl) ?_;refine Rp (au a) (fun _=>fQ)<|Rp (pf p (a+21)) (fun _=>jm 6 1)<|Rd (v := .slice (m.ra a) (m.rn a) (m.rc a)) (by rfl) (by rfl) (wX _) (fun d b=>bF (x:=dD (mD m) 19 (bK F (m.s.gn+1) C)) rfl rfl (by kernel_rfl) (abq.kg b (by decide)).aH (i:=a+21) (by omega) (by omega) (Fx.Am (by omega) (vO _ (by omega)))) ?_;refine Rs (aC v.req) (aM XC.aH 12) ?_;refine Dc<|Af (vs := [(0,aC v.req)]) (s:=1) (zc:=rv .u64 (fun _=>0)) (y:=bR (fun j=>(rv .u64 (fun _=>0)) (j % 1)) (0*1) 1 (fun _=>aC v.req)) (by rfl) rfl rfl Tryd.underlying53 (by kernel_rfl) (by rfl) (by rfl) (by kernel_rfl) (by rw[bJ (off:=0*1) (s:=1) (y:=fun _=>aC v.req) rfl (cells_one (by rfl)) (by rfl)]; rfl) rfl fun g6 Y4 eg6 afw s27 z10 => ?_;have⟨alP,alQ,alR,alS,alT,alU,abt⟩:=jw s27.old aft alL alM alN abq afu afv;have b31:=eP s27.old b30 G;have lg6:=jc eg6 b30.size;have⟨ahK,ahL,ahM,ahN,ahO⟩:=Aw eg6 aft.lt XC.lt alO.lt abq.lt afu.lt;have ahP:(.slice (m.ra a) (m.rn a) (m.rc a):Value).ownBlock≠some g6:=by rw[eg6]; exact afv.mH (z_ _)
 have tg6:=afw.lt;refine Ln ⟨Fx.jl.of_below s27.old,?_⟩;refine Dc<|Ar (B:=B) (s:=1) (bytes:=8) (k:=(m.rn a)) (m:=1) (v := .slice (m.ra a) (m.rn a) (m.rc a)) (x:=rv .u64 (m.rq a)) (by rfl) rfl rfl rfl Tryd.underlying53 (by kernel_rfl) (by kernel_rfl) rfl rfl abt afw.aH (yE (fun _=>rfl)) (by omega) (by omega) (by omega) (m_ G b31.size) fun g7 cap2 Sw ho2 hg2 TD hlt2 => ?_;have IZ:=Av hg2 abt;have⟨alV,alW,alX,afx,alY⟩:=qb IZ alP alQ alS alT alU;have alZ:Fx.Own Sw B 22 1 (.slice (some ⟨g7,0,none⟩) ((m.rn a)+1) cap2) ((m.rn a)+1) (rv .u64 (aI (m.rq a) (m.rn a) v.req)):=(ho2.congr (fun j hj=>Ot j hj));have b32:Below B w Sw:=Aq b31 hg2 (m_ G b31.size) (fun q hq=>(abt.ge hq).1);have ama:vP Sw B 6 { m with ra:=aI m.ra a (some ⟨g7,0,none⟩),rn:=aI m.rn a (m.rn a+1),rc:=aI m.rc a cap2,rq:=aI m.rq a (aI (m.rq a) (m.rn a) v.req) }:=vP.app alR ha rfl rfl rfl rfl alZ hg2 TD;refine Ln ⟨IZ,?_⟩;refine Rp (pf p (a+21)) (fun _=>jm 6 1)<|gG<|iX afx (a+21) (.slice (some ⟨g7,0,none⟩) ((m.rn a)+1) (cap2)) fun PD amb s28 z11 => ?_;have abu:=gK s28 afx.ty;have⟨amc,amd,ame,amf,amg⟩:=qb abu alV alW alX alY ama;have b33:=s28.below b32 (m_ G b32.size) (by omega);refine Ln<|bO<|ay<|av (au 0)<|aD<|Wr<|aJ (au 0) ?_;have eN:aK v=a:=by unfold aK; omega
 have ne1 : ¬ 0<=m.core.kM (aK v) v.req:=by rw[eN]; exact j_ c17
 have ne2 : ¬ dR m.core.t m.core.tn v.node=0:=fun e=>c27 (by rw[show K=0 from Wi.trans e]; rfl);have ew:mP m.core v=cZ (fun x=>bC x v.o v.aT) (nV m.core v.node) m.R K:=by unfold mP; rw[show dR m.core.t m.core.tn v.node=K from Wi.symm]; rfl
 have Y:iN m.core v=0:=by unfold iN; rw[b_ ne1,b_ ne2,ew,hRK]
 have eW:mP m.core v=(Rk,0):=ew.trans hRK;have amh:Fx.Own PD B 99 5 (bK F (m.s.gn+1) C) (m.s.gn+1) (flat 5 fun l=>ng (bZ m.g k (pW v) l)):=by rw[<- Xr]; exact amf
 refine⟨oV Y.symm,b33,fun _=>⟨{ m with s := { m.s with ga:=some ⟨F,0,none⟩,gn:=m.s.gn+1,gc:=C },R:=Rk,g:=bZ m.g k (pW v),ra:=aI m.ra a (some ⟨g7,0,none⟩),rn:=aI m.rn a (m.rn a+1),rc:=aI m.rc a cap2,rq:=aI m.rq a (aI (m.rq a) (m.rn a) v.req) },?_,?_⟩⟩
 ·unfold lN ql; rw[eW,eN]; rw[show down (fun i=>EN v (m.core.g i)) m.core.gn=k from ek.symm]; rfl
 exact { c:=amb.to ((K_ (fun z=>dD z (a+21) _) (MF m _ _ _)).trans (KC _ rfl _ _ _)),n:=ame,g:=amh,tc:=amc,t:=amd,r:=amg,pB:=TN,tB:=Du,bn:=bn,bg:=(by show m.s.gn+1<=1000000; omega),bt:=bt,br:=(fun i N=>by show aI m.rn a (m.rn a+1) i<=1000000; have:=Zg i N; have:=Zg a ha; unfold aI; split <;> omega) }
namespace Rt
def zy(L:fB)(v:EvM):Nat:=(L.grant v.o v.of).toNat
def lQ(L:fB)(v:EvM):(Nat->Nat->Int) × Int:=cZ (fun x=>bD x v.o (L.g (zy L v) 3)) (nV L (L.g (zy L v) 2)) L.R (dR L.t L.tn (L.g (zy L v) 2))
def iE(L:fB)(v:EvM):Int:=if 0<=L.kM (aK v) v.req then 14 else if L.grant v.o v.of<0\/L.g (zy L v) 4≠0 then 12 else(lQ L v).2
def jW(L:fB)(v:EvM):fB:=ql { L with R:=(lQ L v).1,g:=aI L.g (zy L v) (aI (L.g (zy L v)) 4 v.req) } (aK v) v.req
theorem Ue{m:lH}{o r:Int}(h : ¬ m.grant o r<0) : ∃ q:Nat,q<m.s.gn/\m.grant o r=(q:Int)/\m.g q 0=o/\m.g q 1=r:=by
 rcases jC (fun i=>decide (m.g i 0=o)&&decide (m.g i 1=r)) m.s.gn with ⟨q,b,e,a⟩|⟨e,_⟩
 ·rw[R_]at a;exact⟨q,b,e,h_ a.1,h_ a.2⟩
 unfold lH.grant at h; omega
theorem Qj{n q:Nat}{g:Nat->Nat->Int}{r:Int} : ∀ i,i<n -> ∀ j,j<5->Fx.rU (fun a=>ng (g a)) q (dD (ng (g q)) 4 (aC r)) i j=ng (aI g q (aI (g q) 4 r) i) j:=fun i _ j b=>by
 unfold Fx.rU;by_cases h:i=q
 ·subst h;rw[d_ rfl];unfold aI dD ng;rw[d_ rfl]
  rcases j with _|_|_|_|_|j <;> first|rfl|omega
 ·rw[b_ h]; unfold aI; rw[b_ h]
end Rt
set_option maxRecDepth 20000 in
set_option maxHeartbeats 2000000 in
theorem XD(m:lH)(B p a:Nat)(v:EvM)(w:World)(H:uZ w B p m)(F:B<=w.heap.size)(ha:a<6)(ho:v.o=(a:Int)+1)(bgg:m.s.gn<=900000)(Zg : ∀ i,i<6->m.rn i<=900000)(hTN : ∀ x,m.node x=bB m.t m.tn x)(hDx : ∀ x,∃ D,D<=1000/\bB m.t m.tn (aW m.t m.tn D x)<0) :
 Calls Tryd.prog 63 #[(pt p),.agg (aA 14 (bH v))] w fun e w'=>e = .returned (au (iE m.core v))/\Below B w w'/\(iE m.core v=0 -> ∃ m',m'.core=jW m.core v/\uZ w' B p m'):=by
 have TL:=H.c;have hLn:=H.n;have hLg:=H.g;have P8:=H.tc;have TM:=H.t;have hLr:=H.r;have TN:=H.pB;have Du:=H.tB;have bn:=H.bn;have bg:=H.bg;have bt:=H.bt;have lpp:p<w.heap.size:=TL.lt;have QZ:m.tb<w.heap.size:=P8.lt;refine Kent Tryd.func63 128 ?_;refine ay<|pQ fun G w1 mR m1 s1 z1 => ?_;have⟨m2,m3,m4,m5,m6,m7⟩:=rX s1.old TL hLn hLg P8 TM hLr;have b1:=eP s1.old (Below.refl B w) F;have sO:=jc mR (Below.refl B w).size;have⟨nC,xI⟩:=yT mR TL.lt P8.lt;have uo:=m1.lt;refine av (au 0)<|aD<|Ws<|ay<|av (pt p)<|av (pt G)<|Lv (au v.o) (aM m1.aH 0)<|av (pf G 12)<|Lv (aC v.req) (aM m1.aH 12) ?_;have MI:Cy w1 p m := { c:=m2.aH,an:=m3.arr,ag:=m4.arr,tc:=m5.aH,at2:=m6.arr,ar:=fun i N=>(m7.1 i N).arr,bn:=(by show m.s.nn<=1000000; omega),bg:=bg,bt:=(by show m.tn<=1000000; omega),br:=H.br };by_cases V:(decide (0<=m.kM a v.req))=true
 ·refine dL (AZ m p a v.o v.req _ MI ha ho) aG (by rw[V]) ?_;intro w2 hb1;have b2:=eP hb1 b1 F;refine aD<|aO<|ay<|av (au 14)<|aD<|Wr<|sR<|aJ (au 14) ?_;have O:aK v=a:=by unfold aK; omega
  have J:iE m.core v=14:=by unfold iE; rw[O]; exact d_ (h_ V)
  exact⟨oV J.symm,b2,fun P=>by rw[J]at P; cases P⟩
 rw[S_]at V;refine dL (AZ m p a v.o v.req _ MI ha ho) aF (by rw[V]) ?_;intro w3 hb2;have⟨m15,m16,m17,m18,m19,m20,m21⟩:=jw hb2 m2 m3 m4 m5 m6 m7 m1;have b3:=eP hb2 b1 F;refine aD<|aL<|Wk<|sN<|ay<|av (pt p)<|av (pt G)<|Lv (au v.o) (aM m21.aH 0)<|av (pf G 13)<|Lv (aC v.of) (aM m21.aH 13) ?_;have Ub:Cy w3 p m := { c:=m15.aH,an:=m16.arr,ag:=m17.arr,tc:=m18.aH,at2:=m19.arr,ar:=fun i N=>(m20.1 i N).arr,bn:=(by show m.s.nn<=1000000; omega),bg:=bg,bt:=(by show m.tn<=1000000; omega),br:=H.br };refine dL (Xg m p v.o v.of _ Ub) _ rfl ?_;intro w4 hb3;have⟨m22,m23,m24,mZ,nT,oM,oN⟩:=jw hb3 m15 m16 m17 m18 m19 m20 m21;have b4:=eP hb3 b3 F;refine av (au (m.grant v.o v.of))<|aD<|Ws<|ay<|av (au (m.grant v.o v.of)) ?_;by_cases ab:(m.grant v.o v.of)<0
 ·refine Lv aG (iL ab)<|av aG<|dB<|dB<|dB<|dB<|dB<|dB<|dB<|dB<|dB<|dB<|av aG<|aD<|aO<|ay<|av (au 12)<|aD<|Wr<|sR<|aJ (au 12) ?_;have O:aK v=a:=by unfold aK; omega
  have aa : ¬ 0<=m.core.kM (aK v) v.req:=by rw[O]; exact j_ V
  have J:iE m.core v=12:=by unfold iE; rw[b_ aa]; exact d_ (.inl ab)
  exact⟨oV J.symm,b4,fun P=>by rw[J]at P; cases P⟩
 obtain⟨b,hkg,ekg,_,_⟩:=Ue ab;have ac:zy m.core v=b:=by show(m.grant v.o v.of).toNat=b; rw[ekg]; rfl
 refine Lv aF (iM ab)<|av aF<|av (pt p)<|av (pt p)<|av (pt p)<|av (pf p 19)<|Lv (.slice m.s.ga (m.s.gn) (m.s.gc)) (aM m22.aH 19)<|aY (K_ (Value.int .i64) ekg) ?_;obtain⟨af,eq1⟩:=m24.addr (by omega);have oZ:Fx.Own w4 B 99 5 (bK af m.s.gn m.s.gc) m.s.gn (IW m):=m24.fH (K_ (fun q=>Value.slice q m.s.gn m.s.gc) eq1);refine Lv (pf af (5*b)) (dh 5 (hx:=(rfl.trans (K_ (fun q=>Value.slice q (m.s.gn) (m.s.gc)) eq1))))<|av (pf af (5*b+4))<|Lv (aC ((m.g b) 4)) (aM oZ.aH (5*b+4) (Fx.iw (k:=b) (j:=4) (by omega) (by omega) rfl)) ?_;by_cases ae:((m.g b) 4)=0
 ·refine Lv aF (jH ae)<|av aF<|aD<|aL<|Wk<|sN<|Ws ?_;obtain⟨D,hD2,hD⟩:=hDx (m.g b 2);refine jS [0,1,2,4,5,6,7,9,3,8,10,11,12,13,14] [0,0,0,4,0,0,0,0,4,0,0,0,4,3,0] [(13,3,[3]),(13,8,[12,11,10,8]),(13,12,[12]),(14,13,[13])] fun qE dU iC => ?_;have⟨qc,lU,m32,qw,og,qG,pV⟩:=jw dU m22 m23 mZ nT oM oN oZ;have b5:=eP dU b4 F;refine aZ (pt p)<|aZ (pt p)<|aZ (pf p 20)<|aZ (pt p)<|aZ (pt p)<|aZ (pt p)<|aZ (pf p 19)<|bU (K_ (Value.int .i64) ekg)<|Rs (pt m.tb) (aM qc.aH 20) ?_;refine Rs (.slice m.s.ga (m.s.gn) (m.s.gc)) (aM qc.aH 19) ?_;refine Rp (pf af (5*b)) (fun _=>dh 5 (hx:=(rfl.trans (K_ (fun q=>Value.slice q (m.s.gn) (m.s.gc)) eq1))))<|aZ (pf af (5*b+2))<|Rs (aC ((m.g b) 2)) (aM pV.aH (5*b+2) (Fx.iw (k:=b) (j:=2) (by omega) (by omega) rfl)) ?_;refine gG<|lS (IY m.tb m.ta m.tn m.tc m.t (m.g b 2) D _ (tF m32 qw bt) hD hD2) ?_;rintro e w5 ⟨K,vv,he,hown,uD,hK1,hb4⟩;obtain⟨U,E,rfl⟩:=hown.val;refine⟨.slice U K E,he,?_⟩;clear he;have Wi:K=dR m.t m.tn (m.g b 2):=uL uD hK1 hD hD2;have hKD:K<=1000:=by rw[Wi]; exact I8 _ _
  have⟨uf,rP,qM,uq,nU,nD,nE⟩:=jw hb4 qc lU m32 qw og qG pV;have b6:=eP hb4 b5 F;refine Ln<|aZ (.slice U (K) (E))<|bO<|Ws<|ay<|av (au 0)<|aD<|Wb ?_;have rY:Fx.Own w5 B 99 5 (.slice m.s.ga (m.s.gn) (m.s.gc)) m.s.gn (IW m):=nE.fH (K_ (fun q=>Value.slice q m.s.gn m.s.gc) eq1.symm);refine Wo (fun f S => ∃ k:Nat,∃ Rk:Nat->Nat->Int,k<=K/\cZ (fun x=>bD x v.o (m.g b 3)) (nV m.core (m.g b 2)) m.R k=(Rk,0)/\f 0=(pt p)/\f 3=(pt G)/\f 6 = .slice U (K) (E)/\f 7=au (k:Int)/\f 5=au (b:Int)/\aQ S p 27 (mD m) 56/\aQ S m.tb 1 (fun _ => .slice m.ta m.tn m.tc) 111/\Fx.Own S B 172 2 (.slice m.ta (m.tn) (m.tc)) m.tn (PY m.t)/\vP S B 6 m/\aQ S G 14 (bH v) 28/\Fx.Own S B 99 5 (.slice m.s.ga (m.s.gn) (m.s.gc)) m.s.gn (IW m)/\Fx.Own S qE.heap.size 22 1 (.slice U (K) (E)) K (rv .u64 (fun i=>aW m.t m.tn i (m.g b 2)))/\Fx.Own S B 84 56 (.slice m.s.na (m.s.nn) (m.s.nc)) m.s.nn (flat 56 (fun C=>mO (m.id C) (m.par C) (Rk C)))/\Below B w S) (fun f _=>(K-(intOf (f 7)).toNat)) ⟨0,m.R,by omega,rfl,(by rfl),(by rfl),(by rfl),Fx.ic,((K_ (Value.int .i64) ekg).trans Fx.ic),uf,qM,uq,nU,nD,rY,hown,rP,b6⟩ ?_;rintro f1 w6 ⟨k,Rk,hk,hRk,Y,Q,h3,h4,h5,rQ,pz,rZ,xB,tK,sQ,uw,uU,b7⟩;refine Ws<|ay<|aY h4<|aY h3<|av (au K) ?_;by_cases c54:(k:Int)<(K:Int)
  ·refine Lv aG (iL c54)<|aD<|aO<|Wk<|sN<|Ws<|Wb<|Ws ?_;obtain⟨q,hq,eq0,_⟩:=DY (m:=m) (x:=aW m.t m.tn k (m.g b 2)) (by rw[hTN]; exact uD k (by omega));have ex1:nV m.core (m.g b 2) k=q:=(by show(gI (fun i=>decide (m.id i=aW m.t m.tn k (m.g b 2))) m.s.nn).toNat=q; rw[eq0]; rfl);refine Wl<|aY Y<|aY h3<|aY h4 ?_;obtain⟨Q8,Ja⟩:=uw.addr (by omega);have uV:Fx.Own w6 qE.heap.size 22 1 (bK Q8 K E) K (rv .u64 (fun i=>aW m.t m.tn i (m.g b 2))):=uw.fH (K_ (fun q=>Value.slice q K E) Ja);refine Lv (pf Q8 k) (dh 1 (hx:=(rfl.trans (K_ (fun q=>Value.slice q (K) (E)) Ja))))<|Lv (aC ((fun i=>aW m.t m.tn i (m.g b 2)) k)) (aM uV.aH k) ?_;have uy:Fx.Own w6 qE.heap.size 22 1 (.slice U (K) (E)) K (rv .u64 (fun i=>aW m.t m.tn i (m.g b 2))):=uV.fH (K_ (fun q=>Value.slice q K E) Ja.symm);have ami:Cy w6 p { m with R:=Rk } := { c:=rQ.aH,an:=uU.arr,ag:=sQ.arr,tc:=pz.aH,at2:=rZ.arr,ar:=fun i N=>(xB.1 i N).arr,bn:=(by show m.s.nn<=1000000; omega),bg:=bg,bt:=(by show m.tn<=1000000; omega),br:=H.br };refine dL ((IX { m with R:=Rk } p (aW m.t m.tn k (m.g b 2)) _ ami).mono (fun e w2 Q=>(⟨Q.1.trans (oV eq0),Q.2⟩:e = .returned (au (q:Int))/\_))) _ rfl ?_;intro w7 hb5;have⟨ad,sS,sj,sU,xC,ru,uW,oh⟩:=lK hb5 rQ pz rZ xB tK sQ uU uy;have b8:=eP hb5 b7 F;refine av (au q)<|aD<|Ws ?_;obtain⟨M,eq3⟩:=uW.addr (by omega);have tL:Fx.Own w7 B 84 56 (bK M m.s.nn m.s.nc) m.s.nn (flat 56 (fun C=>mO (m.id C) (m.par C) (Rk C))):=uW.fH (K_ (fun q=>Value.slice q m.s.nn m.s.nc) eq3);obtain⟨W,eq4⟩:=ru.addr (by omega);have m64:Fx.Own w7 B 99 5 (bK W m.s.gn m.s.gc) m.s.gn (IW m):=ru.fH (K_ (fun q=>Value.slice q m.s.gn m.s.gc) eq4);refine rT (T:=82) (T':=82) (a := .tmp 9) (v := .tmp 85) (m:=54) (z:=rv .i64 (fun _=>0)) (y:=rv .i64 ((bD (Rk q) v.o ((m.g b) 3)).1)) (u := .agg (aA 54 (rv .i64 ((bD (Rk q) v.o ((m.g b) 3)).1)))) 24 25 (List.replicate 27 (0,2,[],[])) #[(pt p),(pt p),(pt p),(pf p 18),.slice m.s.na (m.s.nn) (m.s.nc),au (q:Int),(pf M (56*q)),(pf M (56*q+2)),.agg (aA 54 (rv .i64 (Rk q))),(pt G),au v.o,(pt p),(pt p),(pt p),(pf p 19),.slice m.s.ga (m.s.gn) (m.s.gc),au (b:Int),(pf W (5*b)),(pf W (5*b+3)),au ((m.g b) 3),.tuple #[.agg (aA 54 (rv .i64 ((bD (Rk q) v.o ((m.g b) 3)).1))),au ((bD (Rk q) v.o ((m.g b) 3)).2)],.tuple #[.agg (aA 54 (rv .i64 ((bD (Rk q) v.o ((m.g b) 3)).1))),au ((bD (Rk q) v.o ((m.g b) 3)).2)],.agg (aA 54 (rv .i64 ((bD (Rk q) v.o ((m.g b) 3)).1))),au ((bD (Rk q) v.o ((m.g b) 3)).2),undef,undef,au ((bD (Rk q) v.o ((m.g b) 3)).2)] (by kernel_rfl) (by kernel_rfl) (by kernel_rfl) (by kernel_rfl) (by kernel_rfl) (by kernel_rfl) rfl (by kernel_rfl) rfl rfl (by kernel_rfl) (fun L=>(show ev _ (.tmp 9)=(pt L)from by kernel_rfl)) (fun L=>(show ev _ (.tmp 85) = .agg (aA 54 (rv .i64 ((bD (Rk q) v.o ((m.g b) 3)).1)))from by kernel_rfl)) (bL _ _) (fun _ _=>rfl) (by kernel_rfl) (fun L => ?_) ?_
   ·refine⟨?_,?_,?_,?_,?_,?_,?_,?_,?_,?_,?_,?_,?_,?_,?_,?_,?_,?_,?_,?_,?_,?_,?_,?_,?_,?_,?_,trivial⟩
    ·exact .inr (.inr (rW (pt p) fun I A=>fI rfl ((bX (by kernel_rfl)).trans Y)))
    ·exact .inr (.inr pU)
    ·exact .inr (.inr pU)
    ·exact .inr (.inr pU)
    ·exact .inr (.inr (rW (.slice m.s.na (m.s.nn) (m.s.nc)) fun I A=>bF (x:=mD m) rfl (show ev _ (.tmp 67)=(pf p 18)from by kernel_rfl) (by kernel_rfl) (ad.aH.below A (by have:=ad.lt; omega)) (i:=18) (by omega) (by omega) rfl))
    ·exact .inr (.inr pU)
    ·exact .inr (.inr (rW (pf M (56*q)) fun I A=>dY rfl ((show ev _ (.tmp 68) = .slice m.s.na (m.s.nn) (m.s.nc)from by kernel_rfl).trans (K_ (fun q=>Value.slice q (m.s.nn) (m.s.nc)) eq3)) (show ev _ (.tmp 69)=au (q:Int)from by kernel_rfl) Tryd.underlying48 (s:=56) (by kernel_rfl) (by omega) (by omega) (by omega)))
    ·exact .inr (.inr pU)
    ·exact .inr (.inr (rW (.agg (aA 54 (rv .i64 (Rk q)))) fun I A=>eZ (x:=flat 56 (fun C=>mO (m.id C) (m.par C) (Rk C))) (y:=rv .i64 (Rk q)) rfl (show ev _ (.tmp 71)=(pf M (56*q+2))from by kernel_rfl) (by kernel_rfl) (by kernel_rfl) (tL.aH.below A (by have:=tL.lt; omega)) (i:=56*q+2) (by omega) (by omega) (fun jq hjq=>(Fx.mo (k:=q) (j:=2+jq) (by omega) (by omega)).trans ((fun jq _=>IV _ _ _ jq) jq hjq))))
    ·exact .inr (.inr (rW (pt G) fun I A=>fP rfl ((bX (by kernel_rfl)).trans Q) Tryd.underlying28 rfl (s:=1) (by kernel_rfl) rfl rfl))
    ·exact .inr (.inr (rW (au v.o) fun I A=>bF (x:=bH v) rfl (show ev _ (.tmp 73)=(pt G)from by kernel_rfl) (by kernel_rfl) (xC.aH.below A (by have:=xC.lt; omega)) (i:=0) (by omega) (by omega) rfl))
    ·exact .inr (.inr (rW (pt p) fun I A=>fI rfl ((bX (by kernel_rfl)).trans Y)))
    ·exact .inr (.inr pU)
    ·exact .inr (.inr pU)
    ·exact .inr (.inr pU)
    ·exact .inr (.inr (rW (.slice m.s.ga (m.s.gn) (m.s.gc)) fun I A=>bF (x:=mD m) rfl (show ev _ (.tmp 78)=(pf p 19)from by kernel_rfl) (by kernel_rfl) (ad.aH.below A (by have:=ad.lt; omega)) (i:=19) (by omega) (by omega) rfl))
    ·exact .inr (.inr (rW (au b) fun I A=>fI rfl ((bX (by kernel_rfl)).trans h5)))
    ·exact .inr (.inr (rW (pf W (5*b)) fun I A=>dY rfl ((show ev _ (.tmp 79) = .slice m.s.ga (m.s.gn) (m.s.gc)from by kernel_rfl).trans (K_ (fun q=>Value.slice q (m.s.gn) (m.s.gc)) eq4)) (show ev _ (.tmp 80)=au (b:Int)from by kernel_rfl) Tryd.underlying49 (s:=5) (by kernel_rfl) (by omega) (by omega) (by omega)))
    ·exact .inr (.inr pU)
    ·exact .inr (.inr (rW (au ((m.g b) 3)) fun I A=>bF (x:=IW m) rfl (show ev _ (.tmp 82)=(pf W (5*b+3))from by kernel_rfl) (by kernel_rfl) (m64.aH.below A (by have:=m64.lt; omega)) (i:=5*b+3) (by omega) (by omega) (Fx.iw (k:=b) (j:=3) (by omega) (by omega) rfl)))
    ·exact .inr (.inr (Fx.Il (v := .tuple #[.agg (aA 54 (rv .i64 ((bD (Rk q) v.o ((m.g b) 3)).1))),au ((bD (Rk q) v.o ((m.g b) 3)).2)]) (by kernel_rfl) (by kernel_rfl) (Fx.qbC (fun I A=>rC (args := [.agg (aA 54 (rv .i64 (Rk q))),au v.o,au ((m.g b) 3)]) rfl (Fx.NC (show ev _ (.tmp 72) = .agg (aA 54 (rv .i64 (Rk q)))from by kernel_rfl) (show ev _ (.tmp 74)=au v.o from by kernel_rfl) (show ev _ (.tmp 83)=au ((m.g b) 3)from by kernel_rfl)) Tryd.func90 rfl rfl) (fun I A=>(Xu (Rk q) v.o ((m.g b) 3) _).mono fun e v2 h=>⟨h.1,h.2⟩))))
    ·exact .inr (.inr pU)
    ·exact .inr (.inr pU)
    ·exact .inr (.inr pU)
    ·exact .inl rfl
    ·exact .inr (.inl rfl)
    exact .inr (.inr pU)
   rintro L w8 l d Z yY hb6;have amk:p≠L:=t_ (n_ (ad.lt) Z);have aml:m.tb≠L:=t_ (n_ (sS.lt) Z);have amm:G≠L:=t_ (n_ (xC.lt) Z);have abv:M≠L:=t_ (n_ (tL.lt) Z);have amn:W≠L:=t_ (n_ (m64.lt) Z);have⟨wE,wR,wK,sV,uX,uz,vI,tN⟩:=lK hb6 ad sS sj sU xC oh tL m64;have b9:=eP hb6 b8 F;have Z:w.heap.size<=L:=m_ b8.size Z;have zL:=yY.lt;have q1:l 0=(pt p):=(by rw[d]; exact(bX (by kernel_rfl)).trans Y);have q2:l 3=(pt G):=(by rw[d]; exact(bX (by kernel_rfl)).trans Q);have q3:l 6 = .slice U (K) (E):=(by rw[d]; exact(bX (by kernel_rfl)).trans h3);have q4:l 7=au (k:Int):=(by rw[d]; exact(bX (by kernel_rfl)).trans h4);have q5:l 5=au (b:Int):=(by rw[d]; exact(bX (by kernel_rfl)).trans h5);have q6:l 51=au (k:Int):=(by rw[d]; kernel_rfl);have q7:l 52 = .slice U (K) (E):=(by rw[d]; kernel_rfl);have q8:l 53=au (K:Int):=(by rw[d]; kernel_rfl);have q9:l 54 = .bool true:=(by rw[d]; kernel_rfl);have q10:l 57=(pt p):=(by rw[d]; kernel_rfl);have q11:l 58 = .slice U (K) (E):=(by rw[d]; kernel_rfl);have q12:l 59=au (k:Int):=(by rw[d]; kernel_rfl);have q13:l 60=(pf Q8 k):=(by rw[d]; kernel_rfl);have q14:l 61=aC ((fun i=>aW m.t m.tn i (m.g b 2)) k):=(by rw[d]; kernel_rfl);have q15:l 62=au (q:Int):=(by rw[d]; kernel_rfl);have q16:l 8=au (q:Int):=(by rw[d]; kernel_rfl);have q17:l 64=(pt p):=(by rw[d]; kernel_rfl);have q18:l 65=(pt p):=(by rw[d]; kernel_rfl);have q19:l 66=(pt p):=(by rw[d]; kernel_rfl);have q20:l 67=(pf p 18):=(by rw[d]; kernel_rfl);have q21:l 68 = .slice m.s.na (m.s.nn) (m.s.nc):=(by rw[d]; kernel_rfl);have q22:l 69=au (q:Int):=(by rw[d]; kernel_rfl);have q23:l 70=(pf M (56*q)):=(by rw[d]; kernel_rfl);have q24:l 71=(pf M (56*q+2)):=(by rw[d]; kernel_rfl);have q25:l 72 = .agg (aA 54 (rv .i64 (Rk q))):=(by rw[d]; kernel_rfl);have q26:l 73=(pt G):=(by rw[d]; kernel_rfl);have q27:l 74=au v.o:=(by rw[d]; kernel_rfl);have q28:l 75=(pt p):=(by rw[d]; kernel_rfl);have q29:l 76=(pt p):=(by rw[d]; kernel_rfl);have q30:l 77=(pt p):=(by rw[d]; kernel_rfl);have q31:l 78=(pf p 19):=(by rw[d]; kernel_rfl);have q32:l 79 = .slice m.s.ga (m.s.gn) (m.s.gc):=(by rw[d]; kernel_rfl);have q33:l 80=au (b:Int):=(by rw[d]; kernel_rfl);have q34:l 81=(pf W (5*b)):=(by rw[d]; kernel_rfl);have q35:l 82=(pf W (5*b+3)):=(by rw[d]; kernel_rfl);have q36:l 83=au ((m.g b) 3):=(by rw[d]; kernel_rfl);have q37:l 84 = .tuple #[.agg (aA 54 (rv .i64 ((bD (Rk q) v.o ((m.g b) 3)).1))),au ((bD (Rk q) v.o ((m.g b) 3)).2)]:=(by rw[d]; kernel_rfl);have q38:l 63 = .tuple #[.agg (aA 54 (rv .i64 ((bD (Rk q) v.o ((m.g b) 3)).1))),au ((bD (Rk q) v.o ((m.g b) 3)).2)]:=(by rw[d]; kernel_rfl);have q39:l 85 = .agg (aA 54 (rv .i64 ((bD (Rk q) v.o ((m.g b) 3)).1))):=(by rw[d]; kernel_rfl);have q40:l 86=au ((bD (Rk q) v.o ((m.g b) 3)).2):=(by rw[d]; kernel_rfl);have q41:l 9=(pt L):=(by rw[d]; kernel_rfl);have q42:l 10=au ((bD (Rk q) v.o ((m.g b) 3)).2):=(by rw[d]; kernel_rfl);clear d;refine sN<|Ws<|ay<|aY q42 ?_;by_cases X:((bD (Rk q) v.o ((m.g b) 3)).2)=0
   ·refine Lv aF (jH X)<|aD<|aL<|Wk<|sN ?_;refine jS [0,1,2,3,5,4,6,7,8,9] [0,0,0,0,4,0,4,0,0,3] [(9,4,[4]),(9,6,[6])] fun Dl gH nZ => ?_;have⟨Ah,vJ,yt,yu,wS,wT,sZ,uY,xD⟩:=Bt gH wE wR wK sV uX uz vI tN yY;have b10:=eP gH b9 F;refine bU q1<|aZ (pt p)<|aZ (pt p)<|aZ (pf p 18)<|bU q16<|Rs (.slice m.s.na (m.s.nn) (m.s.nc)) (aM Ah.aH 18) ?_;refine Rs (.agg (aA 54 (rv .i64 ((bD (Rk q) v.o ((m.g b) 3)).1)))) (fJ xD.aH 0 (ha:=q41)) ?_;refine Rp (pf M (56*q)) (fun _=>dh 56 (hx:=(rfl.trans (K_ (fun q=>Value.slice q (m.s.nn) (m.s.nc)) eq3))))<|aZ (pf M (56*q+2))<|gG<|zH sZ (56*q+2) fun w9 yw s10 z2 => ?_;have gM:=gK s10 sZ.JL;have⟨wF,zw,yx,zJ,yA,yB,Ai⟩:=RH gM Ah vJ yt yu wS wT uY;have b11:=s10.below b10 (m_ F b10.size) sZ.blk.1;have Dt:Fx.Own w9 B 84 56 (bK M m.s.nn m.s.nc) m.s.nn (flat 56 (fun C=>mO (m.id C) (m.par C) (aI Rk q ((bD (Rk q) v.o ((m.g b) 3)).1) C))):=yw.congr (fun pq hp=>(Fx.Br (k:=q) (j:=2) (by omega) (by omega) pq hp).trans (bP (fun i N j hj=>BL i N j hj) pq hp));refine Ln<|Rn<|bT<|sN<|Wl<|aY q4<|Lv (au ((k:Int)+1)) fE<|av (au ((k:Int)+1))<|Ln ?_;have CF:Fx.Own w9 B 99 5 (.slice m.s.ga (m.s.gn) (m.s.gc)) m.s.gn (IW m):=Ai.fH (K_ (fun q=>Value.slice q m.s.gn m.s.gc) eq4.symm);have CG:Fx.Own w9 B 84 56 (.slice m.s.na (m.s.nn) (m.s.nc)) m.s.nn (flat 56 (fun C=>mO (m.id C) (m.par C) (aI Rk q ((bD (Rk q) v.o ((m.g b) 3)).1) C))):=Dt.fH (K_ (fun q=>Value.slice q m.s.nn m.s.nc) eq3.symm);refine iB ⟨k+1,(aI Rk q (bD (Rk q) v.o (m.g b 3)).1),by omega,(EM hRk ex1 (by first|exact X|exact Classical.not_not.1 X)),q1,q2,q3,Fx.ic,(q5.trans Fx.ic),wF,zw,yx,zJ,yA,CF,yB,CG,b11⟩ ?_
    show(K-(intOf (au ((k:Int)+1))).toNat)<_;simp only[h4,intOf]; omega
   refine Lv aG (mX X)<|aD<|aO<|ay<|aY q42<|av (au ((bD (Rk q) v.o ((m.g b) 3)).2))<|aD<|Wr<|sR<|bI<|sR<|qo<|bI<|sR<|aJ (au ((bD (Rk q) v.o ((m.g b) 3)).2)) ?_;have O:aK v=a:=(by unfold aK; omega);have aa : ¬ 0<=m.core.kM (aK v) v.req:=(by rw[O]; exact j_ V);have ne2 : ¬ (m.core.grant v.o v.of<0\/m.core.g (zy m.core v) 4≠0):=(by rw[ac]; exact fun h=>h.elim ab (fun h=>h ae));have ew:lQ m.core v=cZ (fun x=>bD x v.o (m.g b 3)) (nV m.core (m.g b 2)) m.R K:=(by unfold lQ; rw[ac,show dR m.core.t m.core.tn (m.core.g b 2)=K from Wi.symm]; rfl);have J:iE m.core v=(bD (Rk q) v.o (m.g b 3)).2:=by
    unfold iE; rw[b_ aa,b_ ne2,ew];have e1:=GQ hRk ex1 X;rw[zR (k:=k+1) (by rw[e1]; exact X) K (by omega)]; exact e1
   exact⟨oV J.symm,b9,fun P=>L_ (J.symm.trans P) X⟩
  refine Lv aF (iM c54)<|aD<|aL<|Wx<|cK<|gU<|cO<|sN<|Ws ?_;have hRK:cZ (fun x=>bD x v.o (m.g b 3)) (nV m.core (m.g b 2)) m.R K=(Rk,0):=by rw[show K=k by omega]; exact hRk
  refine jS [0,1,2,3,5,6,4,7,8,9,10] [0,0,0,0,4,0,0,4,0,0,3] [(10,4,[4]),(10,7,[7])] fun Q0 lJ AB => ?_;have⟨Aj,FT,EF,FU,F9,vR,uK⟩:=jw lJ rQ pz rZ xB tK sQ uU;have b12:=eP lJ b7 F;refine bU Y<|aZ (pt p)<|aZ (pt p)<|aZ (pf p 19)<|bU h5<|Rp (pf G 12) (fun _=>jB Q 12)<|Rs (.slice m.s.ga (m.s.gn) (m.s.gc)) (aM Aj.aH 19) ?_;refine Rs (aC v.req) (aM F9.aH 12) ?_;obtain⟨gq5,eq5⟩:=vR.addr (by omega);have sD:Fx.Own Q0 B 99 5 (bK gq5 m.s.gn m.s.gc) m.s.gn (IW m):=vR.fH (K_ (fun q=>Value.slice q m.s.gn m.s.gc) eq5);refine Rp (pf gq5 (5*b)) (fun _=>dh 5 (hx:=(rfl.trans (K_ (fun q=>Value.slice q (m.s.gn) (m.s.gc)) eq5))))<|aZ (pf gq5 (5*b+4))<|gG<|pR sD (5*b+4) (aC v.req) fun rO nL s12 z3 => ?_;have kr:=gK s12 sD.JL;have⟨nM,qh,qH,qI,sF,sG⟩:=WE kr Aj FT EF FU F9 uK;have b13:=s12.below b12 (m_ F b12.size) sD.blk.1;have tO:Fx.Own rO B 99 5 (bK gq5 m.s.gn m.s.gc) m.s.gn (flat 5 (fun C=>ng (aI m.g b (aI (m.g b) 4 v.req) C))):=nL.congr (fun pq hp=>(Fx.Gm (k:=b) (j:=4) (by omega) (by omega) pq hp).trans (bP (fun i N j hj=>Qj i N j hj) pq hp));refine Ln<|bO<|Ws ?_;have xJ:Fx.Own rO B 99 5 (.slice m.s.ga (m.s.gn) (m.s.gc)) m.s.gn (flat 5 (fun C=>ng (aI m.g b (aI (m.g b) 4 v.req) C))):=tO.fH (K_ (fun q=>Value.slice q m.s.gn m.s.gc) eq5.symm);have tQ:Fx.Own rO B 22 1 (.slice (m.ra a) (m.rn a) (m.rc a)) (m.rn a) (rv .u64 (m.rq a)):=qI.1 a ha;have bra:=H.br a ha;refine Au [0,1,4,5,8,9,12,16,17,2,3,6,7,10,11,13,14,15,18,19] [0,0,1,0,0,0,1,0,0,0,0,1,0,4,2,2,0,0,0,3] (jl [22]) wX Fx.jl.trans (fT := [(19,2,[2]),(19,6,[6]),(19,11,[11]),(14,13,[13]),(15,13,[14,13]),(19,13,[13]),(15,14,[14]),(18,14,[14]),(19,14,[14]),(18,15,[15]),(19,15,[15])]) (by kernel_rfl) (by kernel_rfl) (by kernel_rfl) (by kernel_rfl) (by kernel_rfl) fun wt4 qp Gy => ?_;have⟨za,zP,wM,tT,qj,vT,wN,vU⟩:=lK qp nM qh qH qI sF sG xJ tQ;have b14:=eP qp b13 F;refine bU Y<|Rp (pt G) (fun _=>jB Q 0)<|bU Y<|Rp (pt G) (fun _=>jB Q 0)<|aZ (pt p)<|aZ (pf p 21)<|Rp (pf G 12) (fun _=>jB Q 12)<|aZ (pt p)<|aZ (pf p 21)<|Rd (v:=au v.o) (by rfl) (by rfl) (wX _) (fun I A=>bF (x:=bH v) rfl rfl (by kernel_rfl) (qj.kg A (by decide)).aH (i:=0) (by omega) (by omega) rfl) ?_;refine Rp (au a) (fun _=>fQ)<|Rd (v:=au v.o) (by rfl) (by rfl) (wX _) (fun I A=>bF (x:=bH v) rfl rfl (by kernel_rfl) (qj.kg A (by decide)).aH (i:=0) (by omega) (by omega) rfl) ?_;refine Rp (au a) (fun _=>fQ)<|Rp (pf p (a+21)) (fun _=>jm 6 1)<|Rd (v := .slice (m.ra a) (m.rn a) (m.rc a)) (by rfl) (by rfl) (wX _) (fun I A=>bF (x:=mD m) rfl rfl (by kernel_rfl) (za.kg A (by decide)).aH (i:=a+21) (by omega) (by omega) (vO _ (by omega))) ?_;refine Rs (aC v.req) (aM qj.aH 12) ?_;refine Dc<|Af (vs := [(0,aC v.req)]) (s:=1) (zc:=rv .u64 (fun _=>0)) (y:=bR (fun j=>(rv .u64 (fun _=>0)) (j % 1)) (0*1) 1 (fun _=>aC v.req)) (by rfl) rfl rfl Tryd.underlying53 (by kernel_rfl) (by rfl) (by rfl) (by kernel_rfl) (by rw[bJ (off:=0*1) (s:=1) (y:=fun _=>aC v.req) rfl (cells_one (by rfl)) (by rfl)]; rfl) rfl fun g3 F7 xE Dv Dm z4 => ?_;have⟨EH,EI,BI,Dw,wO,BJ,Jb⟩:=jw Dm.old za zP wM tT vT wN vU;have b15:=eP Dm.old b14 F;have Bz:=jc xE b14.size;have⟨ahT,ahU,ahV⟩:=Dh xE za.lt zP.lt qj.lt;have ahW:(.slice (m.ra a) (m.rn a) (m.rc a):Value).ownBlock≠some g3:=by rw[xE]; exact vU.mH (z_ _)
  have IK:=Dv.lt;refine Ln ⟨Fx.jl.of_below Dm.old,?_⟩;refine Dc<|Ar (B:=B) (s:=1) (bytes:=8) (k:=(m.rn a)) (m:=1) (v := .slice (m.ra a) (m.rn a) (m.rc a)) (x:=rv .u64 (m.rq a)) (by rfl) rfl rfl rfl Tryd.underlying53 (by kernel_rfl) (by kernel_rfl) rfl rfl Jb Dv.aH (yE (fun _=>rfl)) (by omega) (by omega) (by omega) (m_ F b15.size) fun g4 E Cx ho1 hg1 wJ hlt1 => ?_;have qZ:=Av hg1 Jb;have⟨EJ,Dx,Dy,AU,AV⟩:=qb qZ EH EI BI wO BJ;have Kz:Fx.Own Cx B 22 1 (.slice (some ⟨g4,0,none⟩) ((m.rn a)+1) E) ((m.rn a)+1) (rv .u64 (aI (m.rq a) (m.rn a) v.req)):=(ho1.congr (fun j hj=>Ot j hj));have b16:Below B w Cx:=Aq b15 hg1 (m_ F b15.size) (fun q hq=>(Jb.ge hq).1);have AX:vP Cx B 6 { m with ra:=aI m.ra a (some ⟨g4,0,none⟩),rn:=aI m.rn a (m.rn a+1),rc:=aI m.rc a E,rq:=aI m.rq a (aI (m.rq a) (m.rn a) v.req) }:=vP.app Dw ha rfl rfl rfl rfl Kz hg1 wJ;refine Ln ⟨qZ,?_⟩;refine Rp (pf p (a+21)) (fun _=>jm 6 1)<|gG<|iX EJ (a+21) (.slice (some ⟨g4,0,none⟩) ((m.rn a)+1) (E)) fun F8 BN s15 z5 => ?_;have yX:=gK s15 EJ.ty;have⟨EK,zQ,ze,I5,Ud⟩:=qb yX Dx Dy AU AV AX;have b17:=s15.below b16 (m_ F b16.size) (by omega);refine Ln<|bO<|ay<|av (au 0)<|aD<|Wr<|aJ (au 0) ?_;have O:aK v=a:=by unfold aK; omega
  have aa : ¬ 0<=m.core.kM (aK v) v.req:=by rw[O]; exact j_ V
  have ne2 : ¬ (m.core.grant v.o v.of<0\/m.core.g (zy m.core v) 4≠0):=by rw[ac]; exact fun h=>h.elim ab (fun h=>h ae)
  have ew:lQ m.core v=cZ (fun x=>bD x v.o (m.g b 3)) (nV m.core (m.g b 2)) m.R K:=by unfold lQ; rw[ac,show dR m.core.t m.core.tn (m.core.g b 2)=K from Wi.symm]; rfl
  have J:iE m.core v=0:=by unfold iE; rw[b_ aa,b_ ne2,ew,hRK]
  have eW:lQ m.core v=(Rk,0):=ew.trans hRK;refine⟨oV J.symm,b17,fun _=>⟨{ m with s := { m.s with ga:=m.s.ga,gn:=m.s.gn,gc:=m.s.gc },R:=Rk,g:=aI m.g b (aI (m.g b) 4 v.req),ra:=aI m.ra a (some ⟨g4,0,none⟩),rn:=aI m.rn a (m.rn a+1),rc:=aI m.rc a E,rq:=aI m.rq a (aI (m.rq a) (m.rn a) v.req) },?_,?_⟩⟩
  ·unfold jW ql; rw[eW,O]; rw[ac]; rfl
  exact { c:=BN.to (KC _ rfl _ _ _),n:=ze,g:=I5,tc:=EK,t:=zQ,r:=Ud,pB:=TN,tB:=Du,bn:=bn,bg:=(by show m.s.gn<=1000000; omega),bt:=bt,br:=(fun i N=>by show aI m.rn a (m.rn a+1) i<=1000000; have:=Zg i N; have:=Zg a ha; unfold aI; split <;> omega) }
 refine Lv aG (mX ae)<|av aG<|aD<|aO<|ay<|av (au 12)<|aD<|Wr<|sR<|aJ (au 12) ?_;have O:aK v=a:=by unfold aK; omega
 have aa : ¬ 0<=m.core.kM (aK v) v.req:=by rw[O]; exact j_ V
 have J:iE m.core v=12:=by unfold iE; rw[b_ aa,ac]; exact d_ (.inr ae)
 exact⟨oV J.symm,b4,fun P=>by rw[J]at P; cases P⟩
namespace Rt
def vW(L:fB)(v:EvM):Int:=if L.node v.node<0 then 9 else if 140737488355328<L.R (L.node v.node).toNat (aK v)+v.aT then 6 else 0
def EW(L:fB)(v:EvM):fB := { L with R:=aI L.R (L.node v.node).toNat (upd (L.R (L.node v.node).toNat) (aK v) (L.R (L.node v.node).toNat (aK v)+v.aT)) }
def xK(L:fB)(v:EvM):(Nat->Int) × Int:=cB (L.R (L.node v.node).toNat) v.o v.dst v.aT
def oH(L:fB)(v:EvM):Int:=if L.node v.node<0 then 9 else if v.dst<1\/6<v.dst\/L.inn (v.dst-1).toNat=false then 10 else(xK L v).2
def EX(L:fB)(v:EvM):fB := { L with R:=aI L.R (L.node v.node).toNat (xK L v).1 }
noncomputable def dP(L:fB)(v:EvM):Int :=
 if v.kind=1 then jV L v else if v.kind=2 then vW L v else if v.kind=3 then iN L v else if v.kind=4 then iE L v else if v.kind=5 then oH L v else 0
def iF(L:fB)(v:EvM):fB :=
 if v.kind=1 then qg L v else if v.kind=2 then EW L v else if v.kind=3 then lN L v else if v.kind=4 then jW L v else if v.kind=5 then EX L v
 else if v.kind=6 then { L with inn:=aI L.inn (v.dst-1).toNat true } else { L with left:=aI L.left (aK v) true }
theorem MK{n q a:Nat}{id par:Nat->Int}{R:Nat->Nat->Int}{x:Int} : ∀ i,i<n -> ∀ j,j<56->Fx.rU (fun b=>mO (id b) (par b) (R b)) q (dD (mO (id q) (par q) (R q)) (a+2) (au x)) i j=mO (id i) (par i) (aI R q (upd (R q) a x) i) j:=fun i _ j _=>by
 unfold Fx.rU;by_cases h:i=q
 ·subst h; rw[d_ rfl,Oi rfl]; unfold aI; rw[d_ rfl]
 ·rw[b_ h]; unfold aI; rw[b_ h]
theorem XE(m:lH){i:Nat}(hi:i<6):dD (mD m) i (.bool true)=mD { m with s := { m.s with inn:=aI m.s.inn i true } }:=by
 funext p
 unfold dD mD;by_cases h:p=i
 ·subst h; rw[d_ rfl,d_ (by omega)]; unfold Dq; rw[d_ hi]; simp[aI]
 rw[b_ h];by_cases a:p<20
 ·rw[d_ a,d_ a]; unfold Dq;by_cases b:p<6
  ·rw[d_ b,d_ b]; simp[aI,h]
  rw[b_ b,b_ b]
 rw[b_ a,b_ a]
theorem Uf(m:lH){i q:Nat}(hi:i<6)(d:q=i+6):dD (mD m) q (.bool true)=mD { m with s := { m.s with left:=aI m.s.left i true } }:=by
 subst d
 funext p
 unfold dD mD;by_cases h:p=i+6
 ·subst h; rw[d_ rfl,d_ (by omega)]; unfold Dq; rw[b_ (by omega),d_ (by omega)]; simp[aI]
 rw[b_ h];by_cases a:p<20
 ·rw[d_ a,d_ a]; unfold Dq;by_cases b:p<6
  ·rw[d_ b,d_ b]
  rw[b_ b,b_ b];by_cases c:p<12
  ·rw[d_ c,d_ c]; simp[aI,show ¬ p-6=i by omega]
  rw[b_ c,b_ c]
 rw[b_ a,b_ a]
theorem Qk(m:lH){i q:Nat}(hi:i<6)(e:q=i+12)(x:Int):dD (mD m) q (aC x)=mD { m with s := { m.s with known:=aI m.s.known i x } }:=by
 subst e
 funext p
 unfold dD mD;by_cases h:p=i+12
 ·subst h; rw[d_ rfl,d_ (by omega)]; unfold Dq; rw[b_ (by omega),b_ (by omega),d_ (by omega)]; simp[aI]
 rw[b_ h];by_cases a:p<20
 ·rw[d_ a,d_ a]; unfold Dq;by_cases b:p<6
  ·rw[d_ b,d_ b]
  rw[b_ b,b_ b];by_cases c:p<12
  ·rw[d_ c,d_ c]
  rw[b_ c,b_ c];by_cases d:p<18
  ·rw[d_ d,d_ d]; simp[aI,show ¬ p-12=i by omega]
  rw[b_ d,b_ d]
 rw[b_ a,b_ a]
theorem iV{v:EvM}(h:bM v=true):1<=v.kind/\v.kind<=7:=by
 unfold bM at h;simp only[R_]at h;have a:=h.2;unfold dI at a;split at a; · omega
 split at a; · omega
 split at a; · omega
 split at a; · omega
 split at a; · omega
 split at a; · omega
 have:=h_ a; omega
theorem kP{v:EvM}(h:bM v=true)(c:v.kind=2\/v.kind=3\/v.kind=5):1<=v.aT/\v.aT<=1125899906842624:=by
 unfold bM at h;simp only[R_]at h;have a:=h.2;unfold dI at a;rw[b_ (by omega)]at a;have b:someE v=true->1<=v.aT/\v.aT<=1125899906842624:=fun h=>by unfold someE at h; simpa using h
 split at a; · exact b a
 split at a; · rw[R_]at a; exact b a.1
 rw[b_ (by omega)]at a;split at a; · rw[R_]at a; exact b a.1
 omega
theorem GU{v:EvM}(h:bM v=true)(c:v.kind=6) : ∃ b:Nat,b<6/\v.dst=(b:Int)+1:=by
 unfold bM at h;simp only[R_]at h;have a:=h.2;unfold dI at a;rw[b_ (by omega),b_ (by omega),b_ (by omega),b_ (by omega),b_ (by omega),d_ c]at a;unfold lM at a;rw[R_]at a;exact eG a.1
end Rt
set_option maxRecDepth 20000 in
set_option maxHeartbeats 2000000 in
theorem abw(m:lH)(B p a:Nat)(v:EvM)(w:World)(S:uZ w B p m)(H:B<=w.heap.size)(ha:a<6)(ho:v.o=(a:Int)+1)(bnn:m.s.nn<=900)(bgg:m.s.gn<=900000)(Zg : ∀ i,i<6->m.rn i<=900000)(hTN : ∀ x,m.node x=bB m.t m.tn x)(hDx : ∀ x,∃ D,D<=1000/\bB m.t m.tn (aW m.t m.tn D x)<0)(hv:fV v)(hmay:bM v=true)(hR : ∀ k,k<m.s.nn->may (m.R k)=true) :
 Calls Tryd.prog 43 #[(pt p),.agg (aA 14 (bH v))] w fun e w'=>e = .returned (au (dP m.core v))/\Below B w w'/\(dP m.core v=0 -> ∃ m',m'.core=iF m.core v/\uZ w' B p m'):=by
 have TN:=S.pB;have Du:=S.tB;have bn:=S.bn;have bg:=S.bg;have bt:=S.bt;have lpp:p<w.heap.size:=S.c.lt;have QZ:m.tb<w.heap.size:=S.tc.lt;have hvk:=hv.kind;have hvt:=hv.dst;have hkr:=iV hmay;obtain⟨D,hD2,hD⟩:=hDx v.node;refine Kent Tryd.func43 152 ?_;refine ay<|pQ fun I w1 mR W s1 z1 => ?_;have C:=bE s1.old S;have X:=eP s1.old (Below.refl B w) H;have sO:=jc mR (Below.refl B w).size;have uo:=W.lt;refine av (au 0)<|aD<|Ws<|ay<|av (pf I 8)<|Lv (.int .u8 (v.kind)) (aM W.aH 8)<|aD<|Wb<|ay ?_;by_cases F:v.kind=1
 ·refine Lv aG (eY F)<|av aG<|aD<|aO<|ay<|av (pt p)<|Lv (.agg (aA 14 (bH v))) (fJ W.aH 0)<|dL (Xo m B p a D v _ C (m_ H X.size) ha ho bnn hD hD2) _ rfl ?_;rintro w2 ⟨hb1,hr1⟩;have b2:Below B w w2:=X.trans hb1;refine av (au (jV m.core v))<|aD<|Wr<|bI<|sR<|aJ (au (jV m.core v)) ?_;have A:dP m.core v=jV m.core v:=by unfold dP; rw[d_ F]
  have ec:iF m.core v=qg m.core v:=by unfold iF; rw[d_ F]
  exact⟨oV A.symm,b2,fun E=>by rw[ec]; exact hr1 (A.symm.trans E)⟩
 refine Lv aF (fU F)<|av aF<|aD<|aL<|ay ?_;by_cases G:v.kind=2
 ·refine Lv aG (eY G)<|av aG<|aD<|aO<|Ws ?_;have aa:=C.c;have ac:=C.n;have ab:=C.g;have ae:=C.tc;have af:=C.t;have ad:=C.r;refine Wl<|av (pt p)<|av (pf I 9)<|Lv (aC v.node) (aM W.aH 9) ?_;have MI:Cy w1 p m := { c:=aa.aH,an:=ac.arr,ag:=ab.arr,tc:=ae.aH,at2:=af.arr,ar:=fun i hi=>(ad.1 i hi).arr,bn:=(by show m.s.nn<=1000000; omega),bg:=bg,bt:=(by show m.tn<=1000000; omega),br:=S.br };refine dL (IX m p v.node _ MI) _ rfl ?_;intro w3 hb2;have⟨m3,m4,m5,m6,m7,m8,m9⟩:=jw hb2 W aa ac ab ae af ad;have b3:=eP hb2 X H;refine av (au (m.node v.node))<|aD<|Ws<|ay<|av (au (m.node v.node)) ?_;by_cases c23:(m.node v.node)<0
  ·refine Lv aG (iL c23)<|aD<|aO<|ay<|av (au 9)<|aD<|Wr<|sR<|bI<|sR<|aJ (au 9) ?_;have P:aK v=a:=(by unfold aK; omega);have A:dP m.core v=9:=(by unfold dP; rw[b_ F,d_ G]; unfold vW; exact d_ c23);exact⟨oV A.symm,b3,fun E=>by rw[A]at E; cases E⟩
  obtain⟨d,hkq,V,_⟩:=DY (m:=m) (x:=v.node) (by omega);have V:m.node v.node=(d:Int):=V;have ekN:(m.core.node v.node).toNat=d:=by show(m.node v.node).toNat=d; rw[V]; rfl
  refine Lv aF (iM c23)<|aD<|aL<|Wk<|sN<|Ws<|Ws ?_;have hRb:=lu (hR d hkq) a (by omega);have hab:=kP hmay (.inl G);refine yS<|aX (pt p)<|aX (pt p)<|aX (pt p)<|aX (pf p 18)<|Qv (.slice m.s.na (m.s.nn) (m.s.nc)) (fun l f=>aM (m4.aH.dr f) 18)<|eB (K_ (Value.int .i64) V)<|aX (pt I)<|Qv (au v.o) (fun l f=>aM (m3.aH.dr f) 0)<|Qv (au a) (fun l f=>fQ) ?_;obtain⟨Q,eq1⟩:=m5.addr (by omega);have m10:Fx.Own w3 B 84 56 (bK Q m.s.nn m.s.nc) m.s.nn (Jw m):=m5.fH (K_ (fun q=>Value.slice q m.s.nn m.s.nc) eq1);refine Qv (pf Q (56*d)) (fun l f=>dh 56 (hx:=(rfl.trans (K_ (fun q=>Value.slice q (m.s.nn) (m.s.nc)) eq1))))<|aX (pf Q (56*d+2))<|aX (pf Q (56*d+2))<|Qv (pf Q (a+56*d+2)) (fun l f=>jm 6 1)<|Qv (au ((m.R d) a)) (fun l f=>aM (m10.aH.dr f) (a+56*d+2) (Fx.iw (k:=d) (j:=a+2) (by omega) (by omega) (TF _ _ _ (by omega))))<|aX (pf I 11)<|Qv (au v.aT) (fun l f=>aM (m3.aH.dr f) 11)<|Qv (au (((m.R d) a)+v.aT)) (fun l f=>fE) ?_;by_cases c41:140737488355328<(((m.R d) a)+v.aT)
  ·refine Qv aG (fun l f=>nu c41)<|Qn ?_;rintro _ ⟨L,rfl⟩;obtain⟨Dn,oG⟩ : ∃ l,l=World.drewN w3 L:=⟨_,rfl⟩;rw[<- oG];have s3:Stp w3.heap.size w3 Dn:=(by rw[oG]; exact Sb (jD w3 L));have b4:=eP s3.old b3 H;clear oG;refine sN<|aO<|ay<|av (au 6)<|aD<|Wr<|sR<|bI<|sR<|aJ (au 6) ?_;have P:aK v=a:=(by unfold aK; omega);have A:dP m.core v=6:=(by unfold dP; rw[b_ F,d_ G]; unfold vW; rw[ekN,P,b_ (show ¬ m.core.node v.node<0 from c23)]; exact d_ c41);exact⟨oV A.symm,b4,fun E=>by rw[A]at E; cases E⟩
  refine Qv aF (fun l f=>ny c41)<|Qn ?_;rintro _ ⟨L,rfl⟩;obtain⟨wq2,vQ⟩ : ∃ l,l=World.drewN w3 L:=⟨_,rfl⟩;rw[<- vQ];have s4:Stp w3.heap.size w3 wq2:=by rw[vQ]; exact Sb (jD w3 L)
  have⟨m18,m19,m20,m21,m22,m23,m24⟩:=jw s4.old m3 m4 m6 m7 m8 m9 m10;have b5:=eP s4.old b3 H;clear vQ;refine sN<|aL<|Wk<|sN ?_;refine jS [0,1,2,3,5,6,14,4,9,10,11,17,18,19,7,8,12,13,15,16,20,21] [0,0,0,0,4,0,0,4,0,0,0,0,0,4,0,4,0,0,0,0,0,3] [(21,4,[4]),(21,7,[7]),(21,13,[13]),(21,15,[15])] fun qE dU iC => ?_;have⟨mZ,nT,oM,oN,oZ,qc,lU⟩:=jw dU m18 m19 m20 m21 m22 m23 m24;have b6:=eP dU b5 H;refine aZ (pt p)<|aZ (pt p)<|aZ (pt p)<|aZ (pf p 18)<|bU (K_ (Value.int .i64) V)<|aZ (pt I)<|aZ (pf I 11)<|Rs (.slice m.s.na (m.s.nn) (m.s.nc)) (aM nT.aH 18) ?_;refine Rp (pf Q (56*d)) (fun _=>dh 56 (hx:=(rfl.trans (K_ (fun q=>Value.slice q (m.s.nn) (m.s.nc)) eq1))))<|aZ (pf Q (56*d+2))<|aZ (pf Q (56*d+2))<|Rp (pf Q (56*d)) (fun _=>dh 56 (hx:=(rfl.trans (K_ (fun q=>Value.slice q (m.s.nn) (m.s.nc)) eq1))))<|aZ (pf Q (56*d+2))<|aZ (pf Q (56*d+2))<|Rs (au v.o) (aM mZ.aH 0) ?_;refine Rp (au a) (fun _=>fQ)<|Rp (pf Q (a+56*d+2)) (fun _=>jm 6 1)<|Rs (au ((m.R d) a)) (aM lU.aH (a+56*d+2) (Fx.iw (k:=d) (j:=a+2) (by omega) (by omega) (TF _ _ _ (by omega)))) ?_;refine Rs (au v.aT) (aM mZ.aH 11) ?_;refine Rp (au (((m.R d) a)+v.aT)) (fun _=>fE)<|Rp (pf Q (a+56*d+2)) (fun _=>jm 6 1)<|gG<|pR lU (a+56*d+2) (au (((m.R d) a)+v.aT)) fun w4 m32 s6 z2 => ?_;have gM:=gK s6 lU.JL;have⟨og,qG,pV,uf,rP⟩:=qb gM nT oM oN oZ qc;have b7:=s6.below b6 (m_ H b6.size) lU.blk.1;have qM:Fx.Own w4 B 84 56 (bK Q m.s.nn m.s.nc) m.s.nn (flat 56 (fun O=>mO (m.id O) (m.par O) (aI m.R d (upd (m.R d) a (((m.R d) a)+v.aT)) O))):=m32.congr (fun pq hp=>(Fx.Gm (k:=d) (j:=a+2) (by omega) (by omega) pq hp).trans (bP (fun i hi j hj=>MK (a:=a) (x:=((m.R d) a)+v.aT) (q:=d) (id:=m.id) (par:=m.par) (R:=m.R) i hi j hj) pq hp));refine Ln<|Rn<|bT<|sN<|ay<|av (au 0)<|aD<|Wr<|aJ (au 0) ?_;have P:aK v=a:=by unfold aK; omega
  have uq:Fx.Own w4 B 84 56 (.slice m.s.na (m.s.nn) (m.s.nc)) m.s.nn (flat 56 (fun O=>mO (m.id O) (m.par O) (aI m.R d (upd (m.R d) a (((m.R d) a)+v.aT)) O))):=qM.fH (K_ (fun q=>Value.slice q m.s.nn m.s.nc) eq1.symm);have A:dP m.core v=0:=by unfold dP; rw[b_ F,d_ G]; unfold vW; rw[ekN,P,b_ (show ¬ m.core.node v.node<0 from c23)]; exact b_ c41
  refine⟨oV A.symm,b7,fun _=>⟨{ m with R:=aI m.R d (upd (m.R d) a (m.R d a+v.aT)) },by symm; unfold iF; rw[b_ F,d_ G]; unfold EW; rw[ekN,P]; rfl,?_⟩⟩;exact { c:=og,n:=uq,g:=qG,tc:=pV,t:=uf,r:=rP,pB:=TN,tB:=Du,bn:=bn,bg:=bg,bt:=bt,br:=S.br }
 refine Lv aF (fU G)<|av aF<|aD<|aL<|ay ?_;by_cases K:v.kind=3
 ·refine Lv aG (eY K)<|av aG<|aD<|aO<|ay<|av (pt p)<|Lv (.agg (aA 14 (bH v))) (fJ W.aH 0)<|dL (Xw m B p a D v _ C (m_ H X.size) ha ho bgg Zg hTN hD hD2) _ rfl ?_;rintro w5 ⟨hb3,hr2⟩;have b8:Below B w w5:=X.trans hb3;refine av (au (iN m.core v))<|aD<|Wr<|bI<|sR<|aJ (au (iN m.core v)) ?_;have A:dP m.core v=iN m.core v:=by unfold dP; rw[b_ F,b_ G,d_ K]
  have ec:iF m.core v=lN m.core v:=by unfold iF; rw[b_ F,b_ G,d_ K]
  exact⟨oV A.symm,b8,fun E=>by rw[ec]; exact hr2 (A.symm.trans E)⟩
 refine Lv aF (fU K)<|av aF<|aD<|aL<|ay ?_;by_cases N:v.kind=4
 ·refine Lv aG (eY N)<|av aG<|aD<|aO<|ay<|av (pt p)<|Lv (.agg (aA 14 (bH v))) (fJ W.aH 0)<|dL (XD m B p a  v _ C (m_ H X.size) ha ho bgg Zg hTN hDx) _ rfl ?_;rintro w6 ⟨hb4,hr3⟩;have J:Below B w w6:=X.trans hb4;refine av (au (iE m.core v))<|aD<|Wr<|bI<|sR<|aJ (au (iE m.core v)) ?_;have A:dP m.core v=iE m.core v:=by unfold dP; rw[b_ F,b_ G,b_ K,d_ N]
  have ec:iF m.core v=jW m.core v:=by unfold iF; rw[b_ F,b_ G,b_ K,d_ N]
  exact⟨oV A.symm,J,fun E=>by rw[ec]; exact hr3 (A.symm.trans E)⟩
 refine Lv aF (fU N)<|av aF<|aD<|aL<|ay ?_;by_cases U:v.kind=5
 ·refine Lv aG (eY U)<|av aG<|aD<|aO<|Ws ?_;have aa:=C.c;have ac:=C.n;have ab:=C.g;have ae:=C.tc;have af:=C.t;have ad:=C.r;refine Wl<|av (pt p)<|av (pf I 9)<|Lv (aC v.node) (aM W.aH 9) ?_;have Ub:Cy w1 p m := { c:=aa.aH,an:=ac.arr,ag:=ab.arr,tc:=ae.aH,at2:=af.arr,ar:=fun i hi=>(ad.1 i hi).arr,bn:=(by show m.s.nn<=1000000; omega),bg:=bg,bt:=(by show m.tn<=1000000; omega),br:=S.br };refine dL (IX m p v.node _ Ub) _ rfl ?_;intro M hb5;have⟨nU,nD,nE,rY,rQ,pz,rZ⟩:=jw hb5 W aa ac ab ae af ad;have b10:=eP hb5 X H;refine av (au (m.node v.node))<|aD<|Ws<|ay<|av (au (m.node v.node)) ?_;by_cases c80:(m.node v.node)<0
  ·refine Lv aG (iL c80)<|aD<|aO<|ay<|av (au 9)<|aD<|Wr<|sR<|bI<|sR<|aJ (au 9) ?_;have P:aK v=a:=(by unfold aK; omega);have A:dP m.core v=9:=(by unfold dP; rw[b_ F,b_ G,b_ K,b_ N,d_ U]; unfold oH; exact d_ c80);exact⟨oV A.symm,b10,fun E=>by rw[A]at E; cases E⟩
  obtain⟨d,hkq,V,_⟩:=DY (m:=m) (x:=v.node) (by omega);have V:m.node v.node=(d:Int):=V;have ekN:(m.core.node v.node).toNat=d:=by show(m.node v.node).toNat=d; rw[V]; rfl
  refine Lv aF (iM c80)<|aD<|aL<|Wk<|sN<|Ws<|Ws ?_;refine yS<|aX (pf I 10)<|Qv (au v.dst) (fun l f=>aM (nU.aH.dr f) 10) ?_;by_cases c83:v.dst<1
  ·refine Qv aG (fun l f=>iL c83)<|aX aG<|aP<|aP<|aP<|aX aG<|aX aG<|aP<|aP<|aP<|aP<|aP<|aP<|aP<|aP<|aP<|aP<|aX aG<|Qn ?_;rintro _ ⟨L,rfl⟩;obtain⟨Zf,ET⟩ : ∃ l,l=World.drewN M L:=⟨_,rfl⟩;rw[<- ET];have s8:Stp M.heap.size M Zf:=(by rw[ET]; exact Sb (jD M L));have b11:=eP s8.old b10 H;clear ET;refine sN<|aO<|ay<|av (au 10)<|aD<|Wr<|sR<|bI<|sR<|aJ (au 10) ?_;have P:aK v=a:=(by unfold aK; omega);have A:dP m.core v=10:=(by unfold dP; rw[b_ F,b_ G,b_ K,b_ N,d_ U]; unfold oH; rw[b_ (show ¬ m.core.node v.node<0 from c80)]; exact d_ (.inl c83));exact⟨oV A.symm,b11,fun E=>by rw[A]at E; cases E⟩
  refine Qv aF (fun l f=>iM c83)<|aX aF<|aX (pf I 10)<|Qv (au v.dst) (fun l f=>aM (nU.aH.dr f) 10) ?_;by_cases c87:6<v.dst
  ·refine Qv aG (fun l f=>nu c87)<|aX aG<|aX aG<|aP<|aP<|aP<|aP<|aP<|aP<|aP<|aP<|aP<|aP<|aX aG<|Qn ?_;rintro _ ⟨L,rfl⟩;obtain⟨wq4,EU⟩ : ∃ l,l=World.drewN M L:=⟨_,rfl⟩;rw[<- EU];have s9:Stp M.heap.size M wq4:=(by rw[EU]; exact Sb (jD M L));have b12:=eP s9.old b10 H;clear EU;refine sN<|aO<|ay<|av (au 10)<|aD<|Wr<|sR<|bI<|sR<|aJ (au 10) ?_;have P:aK v=a:=(by unfold aK; omega);have A:dP m.core v=10:=(by unfold dP; rw[b_ F,b_ G,b_ K,b_ N,d_ U]; unfold oH; rw[b_ (show ¬ m.core.node v.node<0 from c80)]; exact d_ (.inr (.inl c87)));exact⟨oV A.symm,b12,fun E=>by rw[A]at E; cases E⟩
  obtain⟨J,hb9,eb9⟩ : ∃ b:Nat,b<6/\v.dst=(b:Int)+1:=⟨(v.dst-1).toNat,by omega,by omega⟩;refine Qv aF (fun l f=>ny c87)<|aX aF<|aX aF<|aX (pt p)<|aX (pf I 10)<|Qv (au v.dst) (fun l f=>aM (nU.aH.dr f) 10)<|Qv (au J) (fun l f=>fQ)<|aX (pt p)<|aX (pt p)<|aX (pt p)<|Qv (pf p J) (fun l f=>jm 6 1) ?_;by_cases c98:(m.s.inn J)=true
  ·refine Qv aG (fun l f=>aM (nD.aH.dr f) J ((kJ _ (by omega) (EC _ (by omega))).trans (K_ Value.bool c98)))<|aX aF<|aX aF<|Qn ?_;rintro _ ⟨L,rfl⟩;obtain⟨wq5,MJ⟩ : ∃ l,l=World.drewN M L:=⟨_,rfl⟩;rw[<- MJ];have s10:Stp M.heap.size M wq5:=(by rw[MJ]; exact Sb (jD M L));have⟨oh,tL,m64,yY,wE,wR,wK⟩:=jw s10.old nU nD nE rY rQ pz rZ;have b13:=eP s10.old b10 H;clear MJ;refine sN<|aL<|Wk<|sN<|Ws ?_;obtain⟨Z,Ja⟩:=m64.addr (by omega);have sV:Fx.Own wq5 B 84 56 (bK Z m.s.nn m.s.nc) m.s.nn (Jw m):=m64.fH (K_ (fun q=>Value.slice q m.s.nn m.s.nc) Ja);refine rT (T:=82) (T':=82) (a := .tmp 7) (v := .tmp 118) (m:=54) (z:=rv .i64 (fun _=>0)) (y:=rv .i64 ((cB (m.R d) v.o v.dst v.aT).1)) (u := .agg (aA 54 (rv .i64 ((cB (m.R d) v.o v.dst v.aT).1)))) 19 20 (List.replicate 22 (0,2,[],[])) #[(pt p),(pt p),(pt p),(pf p 18),.slice m.s.na (m.s.nn) (m.s.nc),au (d:Int),(pf Z (56*d)),(pf Z (56*d+2)),.agg (aA 54 (rv .i64 (m.R d))),(pt I),au v.o,(pf I 10),au v.dst,(pf I 11),au v.aT,.tuple #[.agg (aA 54 (rv .i64 ((cB (m.R d) v.o v.dst v.aT).1))),au ((cB (m.R d) v.o v.dst v.aT).2)],.tuple #[.agg (aA 54 (rv .i64 ((cB (m.R d) v.o v.dst v.aT).1))),au ((cB (m.R d) v.o v.dst v.aT).2)],.agg (aA 54 (rv .i64 ((cB (m.R d) v.o v.dst v.aT).1))),au ((cB (m.R d) v.o v.dst v.aT).2),undef,undef,au ((cB (m.R d) v.o v.dst v.aT).2)] (by kernel_rfl) (by kernel_rfl) (by kernel_rfl) (by kernel_rfl) (by kernel_rfl) (by kernel_rfl) rfl (by kernel_rfl) rfl rfl (by kernel_rfl) (fun Y=>(show ev _ (.tmp 7)=(pt Y)from by kernel_rfl)) (fun Y=>(show ev _ (.tmp 118) = .agg (aA 54 (rv .i64 ((cB (m.R d) v.o v.dst v.aT).1)))from by kernel_rfl)) (bL _ _) (fun _ _=>rfl) (by kernel_rfl) (fun Y => ?_) ?_
   ·refine⟨?_,?_,?_,?_,?_,?_,?_,?_,?_,?_,?_,?_,?_,?_,?_,?_,?_,?_,?_,?_,?_,?_,trivial⟩
    ·exact .inr (.inr pU)
    ·exact .inr (.inr pU)
    ·exact .inr (.inr pU)
    ·exact .inr (.inr pU)
    ·exact .inr (.inr (rW (.slice m.s.na (m.s.nn) (m.s.nc)) fun l f=>bF (x:=mD m) rfl (show ev _ (.tmp 105)=(pf p 18)from by kernel_rfl) (by kernel_rfl) (tL.aH.below f (by have:=tL.lt; omega)) (i:=18) (by omega) (by omega) rfl))
    ·exact .inr (.inr (rW (au d) fun l f=>fI rfl ((bX (by kernel_rfl)).trans (K_ (Value.int .i64) V))))
    ·exact .inr (.inr (rW (pf Z (56*d)) fun l f=>dY rfl ((show ev _ (.tmp 106) = .slice m.s.na (m.s.nn) (m.s.nc)from by kernel_rfl).trans (K_ (fun q=>Value.slice q (m.s.nn) (m.s.nc)) Ja)) (show ev _ (.tmp 107)=au (d:Int)from by kernel_rfl) Tryd.underlying48 (s:=56) (by kernel_rfl) (by omega) (by omega) (by omega)))
    ·exact .inr (.inr pU)
    ·exact .inr (.inr (rW (.agg (aA 54 (rv .i64 (m.R d)))) fun l f=>eZ (x:=Jw m) (y:=rv .i64 (m.R d)) rfl (show ev _ (.tmp 109)=(pf Z (56*d+2))from by kernel_rfl) (by kernel_rfl) (by kernel_rfl) (sV.aH.below f (by have:=sV.lt; omega)) (i:=56*d+2) (by omega) (by omega) (fun jq hjq=>(Fx.mo (k:=d) (j:=2+jq) (by omega) (by omega)).trans ((fun jq _=>IV _ _ _ jq) jq hjq))))
    ·exact .inr (.inr pU)
    ·exact .inr (.inr (rW (au v.o) fun l f=>bF (x:=bH v) rfl (show ev _ (.tmp 111)=(pt I)from by kernel_rfl) (by kernel_rfl) (oh.aH.below f (by have:=oh.lt; omega)) (i:=0) (by omega) (by omega) rfl))
    ·exact .inr (.inr pU)
    ·exact .inr (.inr (rW (au v.dst) fun l f=>bF (x:=bH v) rfl (show ev _ (.tmp 113)=(pf I 10)from by kernel_rfl) (by kernel_rfl) (oh.aH.below f (by have:=oh.lt; omega)) (i:=10) (by omega) (by omega) rfl))
    ·exact .inr (.inr pU)
    ·exact .inr (.inr (rW (au v.aT) fun l f=>bF (x:=bH v) rfl (show ev _ (.tmp 115)=(pf I 11)from by kernel_rfl) (by kernel_rfl) (oh.aH.below f (by have:=oh.lt; omega)) (i:=11) (by omega) (by omega) rfl))
    ·exact .inr (.inr (Fx.Il (v := .tuple #[.agg (aA 54 (rv .i64 ((cB (m.R d) v.o v.dst v.aT).1))),au ((cB (m.R d) v.o v.dst v.aT).2)]) (by kernel_rfl) (by kernel_rfl) (Fx.qbC (fun l f=>rC (args := [.agg (aA 54 (rv .i64 (m.R d))),au v.o,au v.dst,au v.aT]) rfl (Fx.Rh (show ev _ (.tmp 110) = .agg (aA 54 (rv .i64 (m.R d)))from by kernel_rfl) (show ev _ (.tmp 112)=au v.o from by kernel_rfl) (show ev _ (.tmp 114)=au v.dst from by kernel_rfl) (show ev _ (.tmp 116)=au v.aT from by kernel_rfl)) Tryd.func64 rfl rfl) (fun l f=>(Xv (m.R d) v.o v.dst v.aT _).mono fun e v2 h=>⟨h.1,h.2⟩))))
    ·exact .inr (.inr pU)
    ·exact .inr (.inr pU)
    ·exact .inr (.inr pU)
    ·exact .inl rfl
    ·exact .inr (.inl rfl)
    exact .inr (.inr pU)
   rintro Y w8 f1 hf1 qN uX hb6;have amq:I≠Y:=t_ (n_ (oh.lt) qN);have abv:p≠Y:=t_ (n_ (tL.lt) qN);have amr:m.tb≠Y:=t_ (n_ (wE.lt) qN);have ams:Z≠Y:=t_ (n_ (sV.lt) qN);have⟨vI,tN,Ah,vJ,yt,yu⟩:=rX hb6 tL yY wE wR wK sV;have b14:=eP hb6 b13 H;have qN:w.heap.size<=Y:=m_ b13.size qN;have zL:=uX.lt;have q1:f1 0=(pt p):=(by rw[hf1]; kernel_rfl);have q2:f1 4=au 0:=(by rw[hf1]; kernel_rfl);have q3:f1 6=au (d:Int):=(by rw[hf1]; exact(bX (by kernel_rfl)).trans (K_ (Value.int .i64) V));have q4:f1 7=(pt Y):=(by rw[hf1]; kernel_rfl);have q5:f1 8=au ((cB (m.R d) v.o v.dst v.aT).2):=(by rw[hf1]; kernel_rfl);clear hf1;refine sN<|Ws<|ay<|aY q5 ?_;by_cases XF:((cB (m.R d) v.o v.dst v.aT).2)=0
   ·refine Lv aF (jH XF)<|aD<|aL<|Wk<|sN ?_;refine jS [0,1,2,3,5,4,6,7,8,9] [0,0,0,0,4,0,4,0,0,3] [(9,4,[4]),(9,6,[6])] fun Dl gH nZ => ?_;have⟨wT,sZ,uY,xD,yw,wF,zw⟩:=jw gH vI tN Ah vJ yt yu uX;have b15:=eP gH b14 H;refine bU q1<|aZ (pt p)<|aZ (pt p)<|aZ (pf p 18)<|bU q3<|Rs (.slice m.s.na (m.s.nn) (m.s.nc)) (aM wT.aH 18) ?_;refine Rs (.agg (aA 54 (rv .i64 ((cB (m.R d) v.o v.dst v.aT).1)))) (fJ zw.aH 0 (ha:=q4)) ?_;refine Rp (pf Z (56*d)) (fun _=>dh 56 (hx:=(rfl.trans (K_ (fun q=>Value.slice q (m.s.nn) (m.s.nc)) Ja))))<|aZ (pf Z (56*d+2))<|gG<|zH wF (56*d+2) fun w9 yx s13 z3 => ?_;have kr:=gK s13 wF.JL;have⟨yA,yB,Ai,Ez,Dt⟩:=qb kr wT sZ uY xD yw;have b16:=s13.below b15 (m_ H b15.size) wF.blk.1;have CG:Fx.Own w9 B 84 56 (bK Z m.s.nn m.s.nc) m.s.nn (flat 56 (fun O=>mO (m.id O) (m.par O) (aI m.R d ((cB (m.R d) v.o v.dst v.aT).1) O))):=yx.congr (fun pq hp=>(Fx.Br (k:=d) (j:=2) (by omega) (by omega) pq hp).trans (bP (fun i hi j hj=>BL (r:=(cB (m.R d) v.o v.dst v.aT).1) (q:=d) (id:=m.id) (par:=m.par) (R:=m.R) i hi j hj) pq hp));refine Ln<|Rn<|bT<|sN<|ay<|av (au 0)<|aD<|Wr<|aJ (au 0) ?_;have P:aK v=a:=(by unfold aK; omega);have eto : ¬ (v.dst<1\/6<v.dst\/m.core.inn (v.dst-1).toNat=false):=fun h=>h.elim c83 (fun h=>h.elim c87 (fun h=>by rw[show(v.dst-1).toNat=J by omega]at h; rw[show m.core.inn J=true from c98]at h; cases h))
    have eW:xK m.core v=cB (m.R d) v.o v.dst v.aT:=(by unfold xK; rw[ekN]; rfl);have Aj:Fx.Own w9 B 84 56 (.slice m.s.na (m.s.nn) (m.s.nc)) m.s.nn (flat 56 (fun O=>mO (m.id O) (m.par O) (aI m.R d ((cB (m.R d) v.o v.dst v.aT).1) O))):=CG.fH (K_ (fun q=>Value.slice q m.s.nn m.s.nc) Ja.symm);have A:dP m.core v=0:=(by unfold dP; rw[b_ F,b_ G,b_ K,b_ N,d_ U]; unfold oH; rw[b_ (show ¬ m.core.node v.node<0 from c80),b_ eto,eW]; exact XF);refine⟨oV A.symm,b16,fun _=>⟨{ m with R:=aI m.R d (cB (m.R d) v.o v.dst v.aT).1 },by symm; unfold iF; rw[b_ F,b_ G,b_ K,b_ N,d_ U]; unfold EX; rw[ekN,eW]; rfl,?_⟩⟩;exact { c:=yA,n:=Aj,g:=yB,tc:=Ai,t:=Ez,r:=Dt,pB:=TN,tB:=Du,bn:=bn,bg:=bg,bt:=bt,br:=S.br }
   refine Lv aG (mX XF)<|aD<|aO<|ay<|aY q5<|av (au ((cB (m.R d) v.o v.dst v.aT).2))<|aD<|Wr<|sR<|bI<|sR<|aJ (au ((cB (m.R d) v.o v.dst v.aT).2)) ?_;have P:aK v=a:=(by unfold aK; omega);have eto : ¬ (v.dst<1\/6<v.dst\/m.core.inn (v.dst-1).toNat=false):=fun h=>h.elim c83 (fun h=>h.elim c87 (fun h=>by rw[show(v.dst-1).toNat=J by omega]at h; rw[show m.core.inn J=true from c98]at h; cases h))
   have eW:xK m.core v=cB (m.R d) v.o v.dst v.aT:=(by unfold xK; rw[ekN]; rfl);have A:dP m.core v=(cB (m.R d) v.o v.dst v.aT).2:=(by unfold dP; rw[b_ F,b_ G,b_ K,b_ N,d_ U]; unfold oH; rw[b_ (show ¬ m.core.node v.node<0 from c80),b_ eto,eW]);exact⟨oV A.symm,b14,fun E=>by rw[A]at E; exact L_ E XF⟩
  rw[S_]at c98;refine Qv aF (fun l f=>aM (nD.aH.dr f) J ((kJ _ (by omega) (EC _ (by omega))).trans (K_ Value.bool c98)))<|aX aG<|aX aG<|Qn ?_;rintro _ ⟨L,rfl⟩;obtain⟨wq6,aby⟩ : ∃ l,l=World.drewN M L:=⟨_,rfl⟩;rw[<- aby];have Dm:Stp M.heap.size M wq6:=by rw[aby]; exact Sb (jD M L)
  have b17:=eP Dm.old b10 H;clear aby;refine sN<|aO<|ay<|av (au 10)<|aD<|Wr<|sR<|bI<|sR<|aJ (au 10) ?_;have P:aK v=a:=by unfold aK; omega
  have A:dP m.core v=10:=by unfold dP; rw[b_ F,b_ G,b_ K,b_ N,d_ U]; unfold oH; rw[b_ (show ¬ m.core.node v.node<0 from c80)]; exact d_ (.inr (.inr (by rw[show(v.dst-1).toNat=J by omega]; exact c98)))
  exact⟨oV A.symm,b17,fun E=>by rw[A]at E; cases E⟩
 refine Lv aF (fU U)<|av aF<|aD<|aL<|ay ?_;by_cases Ug:v.kind=6
 ·refine Lv aG (eY Ug)<|av aG<|aD<|aO ?_;have aa:=C.c;have ac:=C.n;have ab:=C.g;have ae:=C.tc;have af:=C.t;have ad:=C.r;obtain⟨J,hb9,eb9⟩:=GU hmay Ug;refine jS [0,1,4,5,6,2,3,7,8] [0,0,4,0,0,0,0,0,3] [(8,2,[2])] fun Q0 lJ AB => ?_;have⟨sD,nL,nM,qh,qH,qI,sF⟩:=jw lJ W aa ac ab ae af ad;have b18:=eP lJ X H;refine aZ (pt p)<|aZ (pf I 10)<|aZ (pt p)<|aZ (pt p)<|aZ (pt p)<|Rs (au v.dst) (aM sD.aH 10) ?_;refine Rp (au J) (fun _=>fQ)<|Rp (pf p J) (fun _=>jm 6 1)<|gG<|iX nL J aG fun rO vS s16 z4 => ?_;have qZ:=gK s16 nL.ty;have⟨tO,xJ,tQ,za,zP⟩:=qb qZ nM qh qH qI sF;have b19:=s16.below b18 (m_ H b18.size) (by omega);refine Ln<|Rn<|bT<|sN<|ay<|av (au 0)<|aD<|Wr<|aJ (au 0) ?_;have P:aK v=a:=by unfold aK; omega
  have A:dP m.core v=0:=by unfold dP; rw[b_ F,b_ G,b_ K,b_ N,b_ U]
  refine⟨oV A.symm,b19,fun _=>⟨{ m with s := { m.s with inn:=aI m.s.inn J true } },by symm; unfold iF; rw[b_ F,b_ G,b_ K,b_ N,b_ U,d_ Ug]; rw[show(v.dst-1).toNat=J by omega]; rfl,?_⟩⟩;exact { c:=vS.to (XE m hb9),n:=tO,g:=xJ,tc:=tQ,t:=za,r:=zP,pB:=TN,tB:=Du,bn:=bn,bg:=bg,bt:=bt,br:=S.br }
 refine Lv aF (fU Ug)<|av aF<|aD<|aL<|ay<|Lv aG aea<|av aG<|aD<|aO ?_;have aa:=C.c;have ac:=C.n;have ab:=C.g;have ae:=C.tc;have af:=C.t;have ad:=C.r;refine jS [0,1,4,5,6,2,3,7,8] [0,0,4,0,0,0,0,0,3] [(8,2,[2])] fun wt4 qp Gy => ?_;have⟨wM,tT,qj,vT,wN,vU,Dv⟩:=jw qp W aa ac ab ae af ad;have b20:=eP qp X H;refine aZ (pt p)<|aZ (pt I)<|aZ (pt p)<|aZ (pt p)<|aZ (pf p 6)<|Rs (au v.o) (aM wM.aH 0) ?_;refine Rp (au a) (fun _=>fQ)<|Rp (pf p (a+6)) (fun _=>jm 6 1)<|gG<|iX tT (a+6) aG fun F7 EH LP z5 => ?_;have yX:=gK LP tT.ty;have⟨BI,Dw,Ga,wO,BJ⟩:=qb yX qj vT wN vU Dv;have LJ:=LP.below b20 (m_ H b20.size) (by omega);refine Ln<|Rn<|bT<|sN<|ay<|av (au 0)<|aD<|Wr<|aJ (au 0) ?_;have P:aK v=a:=by unfold aK; omega
 have A:dP m.core v=0:=by unfold dP; rw[b_ F,b_ G,b_ K,b_ N,b_ U]
 refine⟨oV A.symm,LJ,fun _=>⟨{ m with s := { m.s with left:=aI m.s.left a true } },by symm; unfold iF; rw[b_ F,b_ G,b_ K,b_ N,b_ U,b_ Ug]; rw[P]; rfl,?_⟩⟩;exact { c:=EH.to (Uf m ha rfl),n:=BI,g:=Dw,tc:=Ga,t:=wO,r:=BJ,pB:=TN,tB:=Du,bn:=bn,bg:=bg,bt:=bt,br:=S.br }
namespace Rt
structure abz(L:fB)(T:Nat):Prop where
 nn:L.nn<=33
 gn:L.gn<=T
 rn : ∀ i,i<6->L.rn i<=T
 tn : ∀ x,L.node x=bB L.t L.tn x
 dx : ∀ x,∃ D,D<=1000/\bB L.t L.tn (aW L.t L.tn D x)<0
 may : ∀ k,k<L.nn->may (L.R k)=true
 kn:AO L.known
open Classical in
noncomputable def bG(L:fB)(v:EvM):Int :=
 if bM v=false then 1 else if lX L.known v=true then 14 else if dw L.known v=false then 13 else if L.inn (aK v)=false\/L.left (aK v)=true then 10 else dP L v
def GV(L:fB)(v:EvM):fB := { L with known:=aI L.known (aK v) (L.known (aK v)+1) }
open Classical in
noncomputable def dz(L:fB)(v:EvM):fB:=if bG L v=0 then GV (iF L v) v else L
theorem pE(L:fB)(v:EvM):(iF L v).known=L.known:=by
 unfold iF;split; · unfold qg; rfl
 split; · unfold EW; rfl
 split; · unfold lN ql; rfl
 split; · unfold jW ql; rfl
 split; · unfold EX; rfl
 split <;> rfl
end Rt
set_option maxRecDepth 20000 in
set_option maxHeartbeats 2000000 in
theorem Ou(m:lH)(B p T:Nat)(v:EvM)(w:World)(L:uZ w B p m)(z:fV v)(I:abz m.core T)(hT:T<=900000) :
 Calls Tryd.prog 27 #[(pt p),.agg (aA 14 (bH v))] w fun e w' => ∃ p' m',e = .returned (.tuple #[(pt p'),au (bG m.core v)])/\m'.core=dz m.core v/\uZ w' B p' m'/\Below w.heap.size w w':=by
 have O:=L.c;have lpp:p<w.heap.size:=O.lt;have hpB:=L.pB;refine Kent Tryd.func27 73 ?_;refine ay<|pQ fun g1 w1 mR U s1 z1 => ?_;have⟨F,d,Y⟩:=jh s1.old L O (Below.refl w.heap.size w);have sO:=gL mR;have TH:=cu mR O.lt;have uo:=U.lt;refine av (.pointer none)<|av (au 0)<|aD<|Ws<|ay<|Lv (.agg (aA 14 (bH v))) (fJ U.aH 0) ?_;by_cases l:(bM v)=true
 ·refine dL (GA v _ z) aG (by rw[l]) ?_;intro w2 hb1;have⟨m4,m5,m6,Z⟩:=mJ hb1 F d U Y;refine av aF<|aD<|aL<|Wk<|sN<|Ws<|Ws ?_;refine mI<|aX (pt p)<|aX (pt p)<|aX (pt p)<|aX (pf p 12)<|Qv (.agg (aA 6 (rv .u64 m.s.known))) (fun W A=>fJ (m5.cb A) 12 (fun j S=>kJ _ (by omega) (lD _ S (by omega))))<|Qv (.agg (aA 14 (bH v))) (fun W A=>fJ (m6.cb A) 0) ?_;by_cases u:(lX m.s.known v)=true
  ·refine yR (fun _ _=>Tf m.s.known v _ z) aG (by rw[u])<|Qn ?_;intro WO sP;have⟨m7,b3⟩:=eU sP m4 Z;refine sN<|aO<|ay<|av (pt p)<|av (pt p)<|av (au 14)<|aD<|Wr<|sR<|aJ (.tuple #[(pt p),au 14]) ?_;have b:bG m.core v=14:=(by unfold bG; rw[b_ (by rw[l]; decide)]; exact d_ u);have q:dz m.core v=m.core:=(by unfold dz; rw[b_ (by rw[b]; decide)]);exact⟨p,m,by rw[b],q.symm,m7,b3⟩
  rw[S_]at u;refine yR (fun _ _=>Tf m.s.known v _ z) aF (by rw[u])<|Qn ?_;intro Y1 wB;have⟨m10,m11,m12,b4⟩:=mJ wB m4 m5 m6 Z;refine sN<|aL<|Wk<|sN<|Ws<|Ws ?_;refine mI<|aX (pt p)<|aX (pt p)<|aX (pt p)<|aX (pf p 12)<|Qv (.agg (aA 6 (rv .u64 m.s.known))) (fun W A=>fJ (m11.cb A) 12 (fun j S=>kJ _ (by omega) (lD _ S (by omega))))<|Qv (.agg (aA 14 (bH v))) (fun W A=>fJ (m12.cb A) 0) ?_;by_cases x:(dw m.s.known v)=true
  ·refine yR (fun _ _=>N8 m.s.known v _ z I.kn) aG (by rw[x])<|aX aF<|Qn ?_;intro N wC;have⟨K,M,m15,G⟩:=mJ wC m10 m11 m12 b4;refine sN<|aL<|Wk<|sN<|Ws ?_;obtain⟨a,P,ho⟩:=eG (iG l);refine Wl<|av (pt g1)<|Lv (au v.o) (aM m15.aH 0)<|Lv (au a) fQ<|av (au a)<|aD<|Ws<|ay<|av (pt p)<|av (au a)<|av (pt p)<|av (pt p)<|av (pt p)<|Lv (pf p a) (jm 6 1) ?_;by_cases C:(m.s.inn a)=true
   ·refine Lv aG (aM M.aH a ((kJ _ (by omega) (EC _ (by omega))).trans (K_ Value.bool C)))<|av aF<|av aF<|av (pt p)<|av (au a)<|av (pt p)<|av (pt p)<|av (pf p 6)<|Lv (pf p (a+6)) (jm 6 1) ?_;by_cases D:(m.s.left a)=true
    ·refine Lv aG (aM M.aH (a+6) ((kJ _ (by omega) (Kq _ (by omega) (by omega))).trans (K_ Value.bool D)))<|av aG<|aD<|aO<|ay<|av (pt p)<|av (pt p)<|av (au 10)<|aD<|Wr<|sR<|aJ (.tuple #[(pt p),au 10]) ?_;have y:aK v=a:=(by unfold aK; omega);have b:bG m.core v=10:=(by unfold bG; rw[b_ (by rw[l]; decide),b_ (by rw[show lX m.core.known v=false from u]; decide),b_ (by rw[show dw m.core.known v=true from x]; decide),y]; exact d_ (.inr D));have q:dz m.core v=m.core:=(by unfold dz; rw[b_ (by rw[b]; decide)]);exact⟨p,m,by rw[b],q.symm,K,G⟩
    rw[S_]at D;refine Lv aF (aM M.aH (a+6) ((kJ _ (by omega) (Kq _ (by omega) (by omega))).trans (K_ Value.bool D)))<|av aF<|aD<|aL<|Wk<|sN<|ay<|av (pt p)<|lS (aaS m p _ K.ldg (by have:=I.nn; have e:m.core.nn=m.s.nn:=rfl; omega) K.bt) ?_;rintro e w3 ⟨f,F,J,R,hL2,Q⟩;refine⟨(pt f),J,?_⟩;clear J;have⟨m18,b6⟩:=eU Q m15 G;have E:abz F.core T:=(by rw[R]; exact I);refine av (pt f)<|aD<|Ws ?_;have amv:=hL2;refine Wl<|av (pt f)<|Lv (.agg (aA 14 (bH v))) (fJ m18.aH 0)<|lS (abw F N.heap.size f a v _ amv Q.size P ho (by have h9:F.s.nn<=33:=E.nn; omega) (m_ E.gn hT) (fun i hi=>m_ (E.rn i hi) hT) E.tn E.dx z l E.may) ?_;rintro e X ⟨J,hbd,hL3⟩;refine⟨au (dP m.core v),by rw[<- R]; exact J,?_⟩;clear J;rw[R]at hL3;have b8:Below N.heap.size N X:=Q.trans hbd;have b7:Below w.heap.size w X:=b6.trans (hbd.mono (m_ (z_ _) G.size));have m19:uZ X B p m:=K.up b8;refine av (au (dP m.core v))<|aD<|Ws<|ay<|av (au (dP m.core v)) ?_;by_cases H:(dP m.core v)=0
    ·refine Lv aF (jH H)<|aD<|aL<|Wk<|sN<|Ws ?_;obtain⟨d,hc3,k⟩:=hL3 H;have hMc:=k.c;have hMn:=k.n;have hMg:=k.g;have hMt:=k.tc;have amw:=k.t;have hMr:=k.r;have ek3:d.s.known=m.s.known:=(by show d.core.known=_; rw[hc3,pE]; rfl);have hk3:=I.kn a P;have hk3:0<=d.s.known a/\d.s.known a<1099511627776:=(by rw[ek3]; exact hk3);have lp2:=k.pB;have sw1:=G.size;refine jS [0,1,2,3,4,5,8,9,10,6,7,11,12] [0,0,0,0,0,0,4,0,0,0,0,0,3] [(12,6,[6])] fun qE dU iC => ?_;have⟨V,m21,m22,m23,m24,mZ,b9⟩:=jw dU hMc hMn hMg hMt amw hMr b7;refine aZ (pt f)<|aZ (au a)<|aZ (pt f)<|aZ (pt f)<|aZ (pf f 12)<|Rp (pf f (a+12)) (fun _=>jm 6 1)<|aZ (pt f)<|aZ (pt f)<|aZ (pf f 12)<|Rs (aC (d.s.known a)) (aM V.aH (a+12) (kJ _ (by omega) (lD _ (by omega) (by omega)))) ?_;refine Rp (aC (d.s.known a+1)) (fun _=>fE)<|Rp (pf f (a+12)) (fun _=>jm 6 1)<|gG<|iX V (a+12) (aC (d.s.known a+1)) fun w5 nT s8 z2 => ?_;have gM:=gK s8 V.ty;have⟨oM,oN,oZ,qc,lU⟩:=qb gM m21 m22 m23 m24 mZ;have b10:=s8.below b9 b9.size (by omega);refine Ln<|bO<|ay<|av (pt f)<|av (pt f)<|av (au 0)<|aD<|Wr<|aJ (.tuple #[(pt f),au 0]) ?_;have y:aK v=a:=(by unfold aK; omega);have b:bG m.core v=0:=by unfold bG; rw[b_ (by rw[l]; decide),b_ (by rw[show lX m.core.known v=false from u]; decide),b_ (by rw[show dw m.core.known v=true from x]; decide),y]; rw[b_ (show ¬ (m.core.inn a=false\/m.core.left a=true)from fun h=>h.elim (fun h=>by rw[show m.core.inn a=true from C]at h; cases h) (fun h=>by rw[show m.core.left a=false from D]at h; cases h))]; exact H
     have hfin:uZ w5 N.heap.size f { d with s := { d.s with known:=aI d.s.known a (d.s.known a+1) } } := { c:=nT.to (Qk d P rfl _),n:=oM,g:=oN,tc:=oZ,t:=qc,r:=lU,pB:=k.pB,tB:=k.tB,bn:=k.bn,bg:=k.bg,bt:=k.bt,br:=k.br };refine⟨f,{ d with s := { d.s with known:=aI d.s.known a (d.s.known a+1) } },by rw[b],?_,hfin.mono (by have:=L.pB; have:=lpp; omega),b10⟩;unfold dz; rw[d_ b]; unfold GV; rw[y,pE,<- hc3,show m.core.known=d.s.known from ek3.symm]; rfl
    refine Lv aG (mX H)<|aD<|aO<|ay<|av (pt p)<|av (au (dP m.core v))<|av (pt p)<|av (au (dP m.core v))<|aD<|Wr<|sR<|aJ (.tuple #[(pt p),au (dP m.core v)]) ?_;have y:aK v=a:=(by unfold aK; omega);have b:bG m.core v=dP m.core v:=by unfold bG; rw[b_ (by rw[l]; decide),b_ (by rw[show lX m.core.known v=false from u]; decide),b_ (by rw[show dw m.core.known v=true from x]; decide),y]; rw[b_ (show ¬ (m.core.inn a=false\/m.core.left a=true)from fun h=>h.elim (fun h=>by rw[show m.core.inn a=true from C]at h; cases h) (fun h=>by rw[show m.core.left a=false from D]at h; cases h))]
    have q:dz m.core v=m.core:=(by unfold dz; rw[b_ (by rw[b]; exact H)]);exact⟨p,m,by rw[b],q.symm,m19,b7⟩
   rw[S_]at C;refine Lv aF (aM M.aH a ((kJ _ (by omega) (EC _ (by omega))).trans (K_ Value.bool C)))<|av aG<|av aG<|dB<|dB<|dB<|dB<|dB<|dB<|dB<|av aG<|aD<|aO<|ay<|av (pt p)<|av (pt p)<|av (au 10)<|aD<|Wr<|sR<|aJ (.tuple #[(pt p),au 10]) ?_;have y:aK v=a:=(by unfold aK; omega);have b:bG m.core v=10:=(by unfold bG; rw[b_ (by rw[l]; decide),b_ (by rw[show lX m.core.known v=false from u]; decide),b_ (by rw[show dw m.core.known v=true from x]; decide),y]; exact d_ (.inl C));have q:dz m.core v=m.core:=(by unfold dz; rw[b_ (by rw[b]; decide)]);exact⟨p,m,by rw[b],q.symm,K,G⟩
  rw[S_]at x;refine yR (fun _ _=>N8 m.s.known v _ z I.kn) aF (by rw[x])<|aX aG<|Qn ?_;intro wb4 AJ;have⟨m32,b11⟩:=eU AJ m10 b4;refine sN<|aO<|ay<|av (pt p)<|av (pt p)<|av (au 13)<|aD<|Wr<|sR<|aJ (.tuple #[(pt p),au 13]) ?_;have b:bG m.core v=13:=by unfold bG; rw[b_ (by rw[l]; decide),b_ (by rw[show lX m.core.known v=false from u]; decide)]; exact d_ x
  have q:dz m.core v=m.core:=by unfold dz; rw[b_ (by rw[b]; decide)]
  exact⟨p,m,by rw[b],q.symm,m32,b11⟩
 rw[S_]at l;refine dL (GA v _ z) aF (by rw[l]) ?_;intro w6 hb2;have⟨qG,b12⟩:=eU hb2 F Y;refine av aG<|aD<|aO<|ay<|av (pt p)<|av (pt p)<|av (au 1)<|aD<|Wr<|sR<|aJ (.tuple #[(pt p),au 1]) ?_;have b:bG m.core v=1:=by unfold bG; exact d_ l
 have q:dz m.core v=m.core:=by unfold dz; rw[b_ (by rw[b]; decide)]
 exact⟨p,m,by rw[b],q.symm,qG,b12⟩
end Go.Proofs.YtahbiajdgealnaaDoor
