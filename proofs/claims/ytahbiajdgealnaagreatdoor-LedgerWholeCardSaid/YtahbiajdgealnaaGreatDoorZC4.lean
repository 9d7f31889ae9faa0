/-
  What the proof of the law rests on, part 4: walks of functions, and plain laws; each says its conditions itself.
-/
import Derived.Laws.StructEq
import Derived.Test.YtahbiajdgealnaaGreatDoorZC3
set_option maxHeartbeats 1600000
set_option linter.unusedVariables false
set_option linter.unusedSimpArgs false
namespace Go.Proofs.YtahbiajdgealnaaGreatDoor
open Go.RowKit Rt
open Fx (eP eX fK bB gQ gP dD dO gH jo eT jr fV jv iY Lv sN Ln Ws Qv Wl Rp Wc Qs Wr Sb Lk Wk rC rV sR Rs Rn Rd Rk Wb Wx Wo Dy Wt qI Qn FW Bh yD yZ Db Dw qy iw za nu uP uO vX wV yY Dl Ar rv aA aQ bI aN ev cO Stp dJ aW flat dB Mp fu aX gX iK bD down iM jN iN ny bJ bH cells_one iP bW xE unseen jH iA bO dM bL bM cB cK gG fZ qc gT)
namespace Rt
def BH(t:Nat->Nat->Int)(n k:Nat):Nat->Nat->Int:=fun i=>if i<=k then(if i<n then t i else fun _=>0)else t (i-1)
def oF(t:Nat->Nat->Int)(k:Nat)(id par:Int):Nat->Nat->Int:=fun i=>if i<k then t i else if i=k then(fun j=>if j=0 then id else par)else t (i-1)
theorem tX{w:World}{B tb tn tc:Nat}{ta:Option Addr}{t:Nat->Nat->Int}(b:aQ w tb 1 (fun _ => .slice ta tn tc) 123)(a:Fx.Own w B 128 2 (.slice ta tn tc) tn (rv .u64 (kN t)))(j:tn<=1000):ED w tb ta tn tc t where
 tc:=b.aI
 t:=fun k h=>by
  obtain⟨g,d,e,_,_,_,c⟩:=a.form (by omega);simp only[Value.slice.injEq,true_and]at e;refine⟨g,0,e.1,fun i f => ?_⟩;have:=c (2*k+i) (by omega);rw[E_]at this;rw[E_,this];show some (Value.int .u64 (t ((2*k+i) / 2) ((2*k+i) % 2)))=some (Value.int .u64 (t k i));rw[show(2*k+i) / 2=k by omega,show(2*k+i) % 2=i by omega]
 bt:=by omega
theorem xP(t:Nat->Nat->Int)(n:Nat) : ∀ j,j<(n+1)*2->iA (rv .u64 (kN t)) (n*2) (bI (fun j=>rv .u64 (fun _=>0) (j % 2)) (0*2) 2 (rv .u64 (fun _=>0))) j=rv .u64 (kN (BH t n n)) j:=fun j a=>by
 unfold iA;by_cases h:j<n*2
 ·rw[d_ h];show Value.int .u64 (t (j / 2) (j % 2))=Value.int .u64 (BH t n n (j / 2) (j % 2));unfold BH; rw[d_ (by omega),d_ (by omega)]
 ·rw[b_ h];unfold bI; rw[d_ (by omega)];show Value.int .u64 0=Value.int .u64 (BH t n n (j / 2) (j % 2));unfold BH; rw[d_ (by omega),b_ (by omega)]
theorem zy{t:Nat->Nat->Int}{n k j p:Nat}(a:p=2*j)(h:j<k)(b:k<=n):rv .u64 (kN (BH t n k)) p=aD (t j 0):=by
 subst a;show Value.int .u64 (BH t n k (2*j / 2) (2*j % 2))=_;unfold BH; rw[d_ (by omega),d_ (by omega),show 2*j / 2=j by omega,show 2*j % 2=0 by omega]
theorem TF{t:Nat->Nat->Int}{n k j i:Nat}(h:j<k)(a:k<=n)(hi:i<2):rv .u64 (kN (BH t n k)) (2*j+i)=rv .u64 (t j) i:=by
 show Value.int .u64 (BH t n k ((2*j+i) / 2) ((2*j+i) % 2))=Value.int .u64 (t j i);unfold BH; rw[d_ (by omega),d_ (by omega),show(2*j+i) / 2=j by omega,show(2*j+i) % 2=i by omega]
theorem yE{t:Nat->Nat->Int}{n k j:Nat}(e:k=j+1)(_hk:k<=n) : ∀ p,p<(n+1)*2->bI (rv .u64 (kN (BH t n k))) (2*k) 2 (rv .u64 (t j)) p=rv .u64 (kN (BH t n j)) p:=fun p b=>by
 unfold bI;by_cases h:2*k<=p/\p<2*k+2
 ·rw[d_ h];show Value.int .u64 (t j (p-2*k))=Value.int .u64 (BH t n j (p / 2) (p % 2));unfold BH; rw[b_ (by omega),show p / 2-1=j by omega,show p-2*k=p % 2 by omega]
 ·rw[b_ h];show Value.int .u64 (BH t n k (p / 2) (p % 2))=Value.int .u64 (BH t n j (p / 2) (p % 2));unfold BH;by_cases a:p / 2<=j
  ·rw[d_ (by omega),d_ a]
  ·rw[b_ (by omega),b_ a]
theorem tu{t:Nat->Nat->Int}{n k:Nat}{id par:Int}(_hk:k<=n) : ∀ p,p<(n+1)*2->bI (rv .u64 (kN (BH t n k))) (2*k) 2 (bI (bI (rv .u64 (fun _=>0)) 0 1 (fun _=>aD id)) 1 1 (fun _=>aD par)) p=rv .u64 (kN (oF t k id par)) p:=fun p c=>by
 by_cases h:2*k<=p/\p<2*k+2
 ·rw[bI,d_ h];show _=Value.int .u64 (oF t k id par (p / 2) (p % 2));unfold oF; rw[b_ (by omega),d_ (by omega)];by_cases b:p=2*k
  ·subst b; rw[show 2*k-2*k=0 by omega,d_ (by omega)]; rfl
  ·rw[show p-2*k=1 by omega,b_ (by omega)]; rfl
 ·rw[bI,b_ h];show Value.int .u64 (BH t n k (p / 2) (p % 2))=Value.int .u64 (oF t k id par (p / 2) (p % 2));unfold BH oF;by_cases a:p / 2<k
  ·rw[d_ (by omega),d_ (by omega),d_ a]
  ·rw[b_ (by omega),b_ a,b_ (by omega)]
def CF(t:Nat->Nat->Int)(tn:Nat)(x:Int):Prop := ∀ i,i<4->0<=bE t tn (bf t tn i x)
theorem Ko{t:Nat->Nat->Int}{tn K:Nat}{x:Int}(h : ∀ i,i<K->0<=bE t tn (bf t tn i x))(a:4<=K):CF t tn x:=fun i b=>h i (by omega)
theorem DR{t:Nat->Nat->Int}{tn K:Nat}{x:Int}(h:bE t tn (bf t tn K x)<0)(a:K<4) : ¬ CF t tn x:=fun b=>by have:=b K a; omega
open Classical in
noncomputable def jk(t:Nat->Nat->Int)(tn:Nat)(id par:Int):Int:=if id=0 then 1 else if 0<=bE t tn id then 14 else if par≠0/\bE t tn par<0 then 9 else if 32<=tn\/CF t tn par then 6 else 0
theorem Oc{t:Nat->Nat->Int}{n k j:Nat}{id:Int}(e:k=j+1)(h : ∀ i,k<=i->i<n->id<t i 0)(c:id<t j 0) : ∀ i,j<=i->i<n->id<t i 0:=fun i d b=>by
 by_cases a:i=j
 ·subst a; exact c
 ·exact h i (by omega) b
end Rt
set_option maxRecDepth 10000 in
theorem agc(B:Nat)(tb:Nat)(ta:Option Addr)(tn tc:Nat)(t:Nat->Nat->Int)(id par:Int)(D:Nat)(w:World)(P:aQ w tb 1 (fun _ => .slice ta tn tc) 123)(X:Fx.Own w B 128 2 (.slice ta tn tc) tn (rv .u64 (kN t)))(hne:(Value.slice ta tn tc).ownBlock≠some tb)(hB:B<=w.heap.size)(Q:tn<=1000)(hD:bE t tn (bf t tn D par)<0)(hD2:D<=1000) :
 Calls Tryz.prog 107 #[(pt tb),aD id,aD par] w fun e w'=>e = .returned (au (jk t tn id par))/\jN (fun k=>k=tb\/(Value.slice ta tn tc).ownBlock=some k) w w'/\((jk t tn id par≠0/\aQ w' tb 1 (fun _ => .slice ta tn tc) 123/\Fx.Own w' B 128 2 (.slice ta tn tc) tn (rv .u64 (kN t)))\/(jk t tn id par=0 /\ ∃ g cap,aQ w' tb 1 (fun _=>bK g (tn+1) cap) 123/\Fx.Own w' B 128 2 (bK g (tn+1) cap) (tn+1) (rv .u64 (kN (oF t (down (fun i=>decide (id<t i 0)) tn) id par)))/\(Value.slice (some ⟨g,0,none⟩) (tn+1) cap).ownBlock≠some tb)):=by
 have lp:tb<w.heap.size:=P.lt;refine Kent Tryz.func107 89 ?_;refine ay<|av (au 0)<|aC<|Ws<|ay<|av (aD id) ?_;by_cases q:id=0
 ·refine Lv aG (eF q)<|aC<|aO<|ay<|av (au 1)<|aC<|Wr<|sR<|aJ (au 1) ?_;have c:jk t tn id par=1:=by unfold jk; rw[d_ q]
  exact⟨pz c.symm,(uO (fun k=>k=tb\/(Value.slice ta tn tc).ownBlock=some k) w),.inl ⟨by rw[c]; decide,P,X⟩⟩
 refine Lv aF (fE q)<|aC<|aK<|Wk<|sN<|Ws<|ay<|av (pt tb)<|av (aD id) ?_;by_cases p:(decide (0<=bE t tn id))=true
 ·refine dX (Ob tb ta tn tc t id _ (tX P X Q)) aG (by rw[p]) ?_;intro w1 hb1;have s1:=Sb hb1;have⟨m1,m2⟩:=fF hb1 P X;have b1:=(uO (fun k=>k=tb\/(Value.slice ta tn tc).ownBlock=some k) w).then s1 (.inr (uO (fun k=>k=tb\/(Value.slice ta tn tc).ownBlock=some k) w).size);refine aC<|aO<|ay<|av (au 14)<|aC<|Wr<|sR<|aJ (au 14) ?_;have c:jk t tn id par=14:=by unfold jk; rw[b_ q,d_ (h_ p)]
  exact⟨pz c.symm,b1,.inl ⟨by rw[c]; decide,m1,m2⟩⟩
 rw[S_]at p;refine dX (Ob tb ta tn tc t id _ (tX P X Q)) aF (by rw[p]) ?_;intro w2 hb2;have s2:=Sb hb2;have⟨E,L⟩:=fF hb2 P X;have F:=(uO (fun k=>k=tb\/(Value.slice ta tn tc).ownBlock=some k) w).then s2 (.inr (uO (fun k=>k=tb\/(Value.slice ta tn tc).ownBlock=some k) w).size);refine aC<|aK<|Wk<|sN<|Ws<|ay<|av (aD par) ?_;by_cases G:par=0
 ·refine Lv aF (kr G)<|av aF<|bX<|bX<|bX<|bX<|av aF<|aC<|aK<|Wk<|sN<|Ws<|ay<|av (pt tb)<|av (pt tb)<|av (pt tb)<|Lv (.slice ta (tn) (tc)) (aM E.aI 0)<|av (au tn) ?_;by_cases T:32<=(tn:Int)
  ·refine Lv aG (ko T)<|av aG<|bX<|bX<|bX<|bX<|bX<|av aG<|aC<|aO<|ay<|av (au 6)<|aC<|Wr<|sR<|aJ (au 6) ?_;have c:jk t tn id par=6:=(by unfold jk; rw[b_ q,b_ (j_ p),b_ (fun h=>h.1 G),d_ (.inl (by omega))]);exact⟨pz c.symm,F,.inl ⟨by rw[c]; decide,E,L⟩⟩
  refine Lv aF (jT T)<|av aF<|av (pt tb)<|av (aD par)<|lV (IW tb ta tn tc t par D _ (tX E L Q) hD hD2) ?_;rintro e w3 ⟨K,vv,Y,hown,rO,W,hb3⟩;obtain⟨a1,n,rfl⟩:=hown.val;refine⟨.slice a1 K n,Y,?_⟩;clear Y hown;have s3:=Sb hb3;have⟨m5,m6⟩:=fF hb3 E L;have b3:=F.then s3 (.inr F.size);refine av (au K) ?_;by_cases U:4<=(K:Int)
  ·refine Lv aG (ko U)<|av aG<|aC<|aO<|ay<|av (au 6)<|aC<|Wr<|sR<|aJ (au 6) ?_;have c:jk t tn id par=6:=(by unfold jk; rw[b_ q,b_ (j_ p),b_ (fun h=>h.1 G),d_ (.inr (Ko rO (by omega)))]);exact⟨pz c.symm,b3,.inl ⟨by rw[c]; decide,m5,m6⟩⟩
  refine Lv aF (jT U)<|av aF<|aC<|aK<|Wk<|sN<|ay<|av (pt tb)<|av (pt tb)<|av (pt tb)<|Lv (.slice ta (tn) (tc)) (aM m5.aI 0)<|av (au tn)<|av (au tn)<|aC<|ay<|av (pt tb)<|av (pt tb)<|av (pt tb)<|av (pt tb)<|Lv (.slice ta (tn) (tc)) (aM m5.aI 0)<|av (.agg (aA 2 (rv .u64 (fun _=>0))))<|yD (vs := [(0,.agg (aA 2 (rv .u64 (fun _=>0))))]) (s:=2) (zc:=rv .u64 (fun _=>0)) (y:=bI (fun j=>(rv .u64 (fun _=>0)) (j % 2)) (0*2) 2 (rv .u64 (fun _=>0))) (by rfl) rfl rfl Tryz.underlying121 (by kernel_rfl) (by rfl) (by rfl) (by kernel_rfl) (by rw[bD (off:=0*2) (s:=2) (y:=rv .u64 (fun _=>0)) rfl (bH _ _) (by rfl)]; rfl) rfl fun g1 w4 ng m7 s4 z1 => ?_;have⟨m8,m9⟩:=fF s4.old m5 m6;have b4:=b3.then s4 (.inr b3.size);have sw:=jE ng b3.size;have Kn:=dn ng m5.lt;have agd:(.slice ta tn tc:Value).ownBlock≠some g1:=by rw[ng]; exact m6.jw (z_ _)
  have wu:=m7.lt;refine yZ (B:=B) (s:=2) (bytes:=16) (k:=tn) (m:=1) (v := .slice ta tn tc) (by rfl) rfl rfl rfl Tryz.underlying121 (by kernel_rfl) (by kernel_rfl) rfl rfl m9 m7.aI (fun j Z=>by rcases j with _|_|j <;> first|rfl|omega) (by omega) (by omega) (by omega) (m_ hB b4.size) fun d n w5 ho1 hg1 uh hlt1 => ?_
  have m11:aQ w5 tb 1 (fun _ => .slice ta tn tc) 123:=m8.grown hg1 hne;have agf:tb≠d:=fun e=>uh.elim (fun x=>hne (by rw[x,e])) (fun x=>by have:=m8.lt; omega);have m10:Fx.Own w5 B 128 2 (bK d (tn+1) n) (tn+1) (rv .u64 (kN (BH t tn tn))):=ho1.congr (xP t tn);have b5:jN (fun k=>k=tb\/(Value.slice ta tn tc).ownBlock=some k) w w5:=Fx.jN.grow b4 hg1 (fun k e => .inl (.inr e));have abP:(fun k=>k=tb\/(Value.slice ta tn tc).ownBlock=some k) d\/w.heap.size<=d:=uh.elim (fun e => .inl (.inr e)) (fun e => .inr (by rw[e]; exact b4.size));refine av (pt tb)<|av (pt tb)<|jh m11 0 (bK d (tn+1) n) fun w6 m12 s5 z2 => ?_;have m13:aQ w6 tb 1 (fun _=>bK d (tn+1) n) 123:=dM m12;have m14:=m10.aaI s5 (by omega);have b6:=b5.then s5 (.inl (.inl rfl));refine aC<|Ws<|Wb<|Wo (fun f M => ∃ k:Nat,k<=tn/\(∀ i,k<=i->i<tn->id<t i 0)/\f 0=(pt tb)/\f 1=aD id/\f 2=aD par/\f 7=au (k:Int)/\aQ M tb 1 (fun _=>bK d (tn+1) n) 123/\Fx.Own M B 128 2 (bK d (tn+1) n) (tn+1) (rv .u64 (kN (BH t tn k)))/\jN (fun k=>k=tb\/(Value.slice ta tn tc).ownBlock=some k) w M) (fun f _=>(intOf (f 7)).toNat) ⟨tn,by omega,(fun i r N=>L_ r (by omega)),(by rfl),Fx.ic,Fx.ic,Fx.ic,m13,m14,b6⟩ ?_;rintro f1 w7 ⟨k,hk,J,r,N,h3,A,R,m16,b7⟩;refine Ws<|ay<|aR A ?_;by_cases V:0<(k:Int)
  ·obtain⟨j,H⟩ : ∃ j,k=j+1:=⟨k-1,by omega⟩;refine Lv aG (lW V)<|av aG<|aR r<|av (pt tb)<|av (pt tb)<|Lv (bK d (tn+1) n) (aM R.aI 0)<|aR A<|Lv (au j) gF<|Lv (pf d (2*j)) (cZ 2)<|av (pf d (2*j))<|Lv (aD (t j 0)) (aM m16.aI (2*j) (zy (by omega) (by omega) (by omega)))<|aR N ?_;by_cases u:id<(t j 0)
   ·refine Lv aG (lW u)<|av aG<|aC<|aO<|Wk<|sN<|Wb<|Ws ?_;refine Wt 14 (by kernel_rfl) (by kernel_rfl) fun qA dS iy => ?_;have s6:Stp w7.heap.size w7 qA:=Sb dS;have⟨m17,m18⟩:=fF dS R m16;have b8:=b7.then s6 (.inr b7.size);refine qy (pt tb) (Rz r)<|Ej (pt tb)<|Ej (pt tb)<|qy (bK d (tn+1) n) (aM m17.aI 0)<|qy (au k) (Rz A)<|qy (pt tb) (Rz r)<|Ej (pt tb)<|Ej (pt tb)<|qy (bK d (tn+1) n) (aM m17.aI 0)<|qy (au k) (Rz A)<|qy (au j) gF<|qy (pf d (2*j)) (cZ 2)<|qy (.agg (aA 2 (rv .u64 (t j)))) (gD m18.aI (2*j) (fun i hi=>TF (by omega) (by omega) hi))<|qy (pf d (2*k)) (cZ 2)<|Fx.St.nil ?_;refine zP m18 (2*k) fun w8 m19 s7 z3 => ?_;have m20:=m17.dh s7 (by omega);have b9:=b8.then s7 abP;have m21:Fx.Own w8 B 128 2 (bK d (tn+1) n) (tn+1) (rv .u64 (kN (BH t tn j))):=m19.congr (yE H (by omega));refine aC<|Wl<|aR A<|Lv (au j) gF<|av (au j)<|Ln<|bM<|fZ ⟨j,by omega,(Oc H J u),r,(N.trans Fx.ic),(h3.trans Fx.ic),Fx.ic,m20,m21,b9⟩ ?_;show(intOf (au j)).toNat<_;simp only[A,intOf]; omega
   refine Lv aF (lX u)<|av aF<|aC<|aK<|Wx<|cB<|gG<|cK<|sN<|ay<|aR r<|av (pt tb)<|av (pt tb)<|Lv (bK d (tn+1) n) (aM R.aI 0)<|aR A<|aR N<|aR h3<|av (.agg (aA 2 (bI (bI (rv .u64 (fun _=>0)) 0 1 (fun _=>aD id)) 1 1 (fun _=>aD par))))<|Lv (pf d (2*k)) (cZ 2)<|zP m16 (2*k) (h1:=(fun j Z=>by rcases j with _|_|j <;> first|rfl|omega)) fun w9 m22 s8 z4 => ?_
   have m23:=R.dh s8 (by omega);have b10:=b7.then s8 abP;have m24:Fx.Own w9 B 128 2 (bK d (tn+1) n) (tn+1) (rv .u64 (kN (oF t k id par))):=m22.congr (tu (by omega));refine aC<|ay<|av (au 0)<|aC<|Wr<|aJ (au 0) ?_;have c:jk t tn id par=0:=(by unfold jk; rw[b_ q,b_ (j_ p),b_ (fun h=>h.1 G),b_ (fun h=>h.elim (fun h=>by omega) (DR W (by omega)))]);have I:k=down (fun i=>decide (id<t i 0)) tn:=Fx.oK hk (fun i a b=>f_ (J i a b)) (.inr (fun j e=>by have x:j=_:=Nat.succ.inj (e.symm.trans H); subst x; exact g_ u));exact⟨pz c.symm,b10,.inr ⟨c,d,n,m23,by rw[<- I]; exact m24,fun e=>agf (B_ e).symm⟩⟩
  refine Lv aF (lX V)<|av aF<|bX<|bX<|bX<|bX<|bX<|bX<|bX<|bX<|bX<|bX<|bX<|av aF<|aC<|aK<|Wx<|cB<|gG<|cK<|sN<|ay<|aR r<|av (pt tb)<|av (pt tb)<|Lv (bK d (tn+1) n) (aM R.aI 0)<|aR A<|aR N<|aR h3<|av (.agg (aA 2 (bI (bI (rv .u64 (fun _=>0)) 0 1 (fun _=>aD id)) 1 1 (fun _=>aD par))))<|Lv (pf d (2*k)) (cZ 2)<|zP m16 (2*k) (h1:=(fun j Z=>by rcases j with _|_|j <;> first|rfl|omega)) fun um nA s9 z5 => ?_
  have oo:=R.dh s9 (by omega);have b11:=b7.then s9 abP;have pE:Fx.Own um B 128 2 (bK d (tn+1) n) (tn+1) (rv .u64 (kN (oF t k id par))):=nA.congr (tu (by omega));refine aC<|ay<|av (au 0)<|aC<|Wr<|aJ (au 0) ?_;have c:jk t tn id par=0:=by unfold jk; rw[b_ q,b_ (j_ p),b_ (fun h=>h.1 G),b_ (fun h=>h.elim (fun h=>by omega) (DR W (by omega)))]
  have I:k=down (fun i=>decide (id<t i 0)) tn:=Fx.oK hk (fun i a b=>f_ (J i a b)) (.inl (by omega));exact⟨pz c.symm,b11,.inr ⟨c,d,n,oo,by rw[<- I]; exact pE,fun e=>agf (B_ e).symm⟩⟩
 refine Lv aG (nH G)<|av aG<|av (pt tb)<|av (aD par) ?_;by_cases z:(decide (0<=bE t tn par))=true
 ·refine dX (Ob tb ta tn tc t par _ (tX E L Q)) aG (by rw[z]) ?_;intro Ev hb4;have s10:=Sb hb4;have⟨oN,pF⟩:=fF hb4 E L;have b12:=F.then s10 (.inr F.size);refine av aF<|av aF<|aC<|aK<|Wk<|sN<|Ws<|ay<|av (pt tb)<|av (pt tb)<|av (pt tb)<|Lv (.slice ta (tn) (tc)) (aM oN.aI 0)<|av (au tn) ?_;by_cases T:32<=(tn:Int)
  ·refine Lv aG (ko T)<|av aG<|bX<|bX<|bX<|bX<|bX<|av aG<|aC<|aO<|ay<|av (au 6)<|aC<|Wr<|sR<|aJ (au 6) ?_;have c:jk t tn id par=6:=(by unfold jk; rw[b_ q,b_ (j_ p),b_ (fun h=>by have:=h_ z; omega),d_ (.inl (by omega))]);exact⟨pz c.symm,b12,.inl ⟨by rw[c]; decide,oN,pF⟩⟩
  refine Lv aF (jT T)<|av aF<|av (pt tb)<|av (aD par)<|lV (IW tb ta tn tc t par D _ (tX oN pF Q) hD hD2) ?_;rintro e Dn ⟨K,vv,Y,hown,rO,W,hb5⟩;obtain⟨a1,n,rfl⟩:=hown.val;refine⟨.slice a1 K n,Y,?_⟩;clear Y hown;have s11:=Sb hb5;have⟨oq,mJ⟩:=fF hb5 oN pF;have b13:=b12.then s11 (.inr b12.size);refine av (au K) ?_;by_cases U:4<=(K:Int)
  ·refine Lv aG (ko U)<|av aG<|aC<|aO<|ay<|av (au 6)<|aC<|Wr<|sR<|aJ (au 6) ?_;have c:jk t tn id par=6:=(by unfold jk; rw[b_ q,b_ (j_ p),b_ (fun h=>by have:=h_ z; omega),d_ (.inr (Ko rO (by omega)))]);exact⟨pz c.symm,b13,.inl ⟨by rw[c]; decide,oq,mJ⟩⟩
  refine Lv aF (jT U)<|av aF<|aC<|aK<|Wk<|sN<|ay<|av (pt tb)<|av (pt tb)<|av (pt tb)<|Lv (.slice ta (tn) (tc)) (aM oq.aI 0)<|av (au tn)<|av (au tn)<|aC<|ay<|av (pt tb)<|av (pt tb)<|av (pt tb)<|av (pt tb)<|Lv (.slice ta (tn) (tc)) (aM oq.aI 0)<|av (.agg (aA 2 (rv .u64 (fun _=>0))))<|yD (vs := [(0,.agg (aA 2 (rv .u64 (fun _=>0))))]) (s:=2) (zc:=rv .u64 (fun _=>0)) (y:=bI (fun j=>(rv .u64 (fun _=>0)) (j % 2)) (0*2) 2 (rv .u64 (fun _=>0))) (by rfl) rfl rfl Tryz.underlying121 (by kernel_rfl) (by rfl) (by rfl) (by kernel_rfl) (by rw[bD (off:=0*2) (s:=2) (y:=rv .u64 (fun _=>0)) rfl (bH _ _) (by rfl)]; rfl) rfl fun g3 GD xX m32 s12 z6 => ?_;have⟨qO,nX⟩:=fF s12.old oq mJ;have b14:=b13.then s12 (.inr b13.size);have Dz:=jE xX b13.size;have alu:=dn xX oq.lt;have alv:(.slice ta tn tc:Value).ownBlock≠some g3:=by rw[xX]; exact mJ.jw (z_ _)
  have LK:=m32.lt;refine yZ (B:=B) (s:=2) (bytes:=16) (k:=tn) (m:=1) (v := .slice ta tn tc) (by rfl) rfl rfl rfl Tryz.underlying121 (by kernel_rfl) (by kernel_rfl) rfl rfl nX m32.aI (fun j Z=>by rcases j with _|_|j <;> first|rfl|omega) (by omega) (by omega) (by omega) (m_ hB b14.size) fun l o Px ho2 hg2 MI hlt2 => ?_
  have qm:aQ Px tb 1 (fun _ => .slice ta tn tc) 123:=qO.grown hg2 hne;have agh:tb≠l:=fun e=>MI.elim (fun x=>hne (by rw[x,e])) (fun x=>by have:=qO.lt; omega);have pW:Fx.Own Px B 128 2 (bK l (tn+1) o) (tn+1) (rv .u64 (kN (BH t tn tn))):=ho2.congr (xP t tn);have b15:jN (fun k=>k=tb\/(Value.slice ta tn tc).ownBlock=some k) w Px:=Fx.jN.grow b14 hg2 (fun k e => .inl (.inr e));have abQ:(fun k=>k=tb\/(Value.slice ta tn tc).ownBlock=some k) l\/w.heap.size<=l:=MI.elim (fun e => .inl (.inr e)) (fun e => .inr (by rw[e]; exact b14.size));refine av (pt tb)<|av (pt tb)<|jh qm 0 (bK l (tn+1) o) fun Mt rJ s13 z7 => ?_;have qP:aQ Mt tb 1 (fun _=>bK l (tn+1) o) 123:=dM rJ;have pX:=pW.aaI s13 (by omega);have b16:=b15.then s13 (.inl (.inl rfl));refine aC<|Ws<|Wb<|Wo (fun f M => ∃ k:Nat,k<=tn/\(∀ i,k<=i->i<tn->id<t i 0)/\f 0=(pt tb)/\f 1=aD id/\f 2=aD par/\f 7=au (k:Int)/\aQ M tb 1 (fun _=>bK l (tn+1) o) 123/\Fx.Own M B 128 2 (bK l (tn+1) o) (tn+1) (rv .u64 (kN (BH t tn k)))/\jN (fun k=>k=tb\/(Value.slice ta tn tc).ownBlock=some k) w M) (fun f _=>(intOf (f 7)).toNat) ⟨tn,by omega,(fun i r N=>L_ r (by omega)),(by rfl),Fx.ic,Fx.ic,Fx.ic,qP,pX,b16⟩ ?_;rintro f2 w16 ⟨k,hk,J,O,h6,h7,C,S,nY,b17⟩;refine Ws<|ay<|aR C ?_;by_cases V:0<(k:Int)
  ·obtain⟨j,H⟩ : ∃ j,k=j+1:=⟨k-1,by omega⟩;refine Lv aG (lW V)<|av aG<|aR O<|av (pt tb)<|av (pt tb)<|Lv (bK l (tn+1) o) (aM S.aI 0)<|aR C<|Lv (au j) gF<|Lv (pf l (2*j)) (cZ 2)<|av (pf l (2*j))<|Lv (aD (t j 0)) (aM nY.aI (2*j) (zy (by omega) (by omega) (by omega)))<|aR h6 ?_;by_cases u:id<(t j 0)
   ·refine Lv aG (lW u)<|av aG<|aC<|aO<|Wk<|sN<|Wb<|Ws ?_;refine Wt 14 (by kernel_rfl) (by kernel_rfl) fun Cx gu nJ => ?_;have Dm:Stp w16.heap.size w16 Cx:=Sb gu;have⟨mW,nC⟩:=fF gu S nY;have b18:=b17.then Dm (.inr b17.size);refine qy (pt tb) (Rz O)<|Ej (pt tb)<|Ej (pt tb)<|qy (bK l (tn+1) o) (aM mW.aI 0)<|qy (au k) (Rz C)<|qy (pt tb) (Rz O)<|Ej (pt tb)<|Ej (pt tb)<|qy (bK l (tn+1) o) (aM mW.aI 0)<|qy (au k) (Rz C)<|qy (au j) gF<|qy (pf l (2*j)) (cZ 2)<|qy (.agg (aA 2 (rv .u64 (t j)))) (gD nC.aI (2*j) (fun i hi=>TF (by omega) (by omega) hi))<|qy (pf l (2*k)) (cZ 2)<|Fx.St.nil ?_;refine zP nC (2*k) fun Sn sI s15 z8 => ?_;have qZ:=mW.dh s15 (by omega);have b19:=b18.then s15 abQ;have nZ:Fx.Own Sn B 128 2 (bK l (tn+1) o) (tn+1) (rv .u64 (kN (BH t tn j))):=sI.congr (yE H (by omega));refine aC<|Wl<|aR C<|Lv (au j) gF<|av (au j)<|Ln<|bM<|fZ ⟨j,by omega,(Oc H J u),O,(h6.trans Fx.ic),(h7.trans Fx.ic),Fx.ic,qZ,nZ,b19⟩ ?_;show(intOf (au j)).toNat<_;simp only[C,intOf]; omega
   refine Lv aF (lX u)<|av aF<|aC<|aK<|Wx<|cB<|gG<|cK<|sN<|ay<|aR O<|av (pt tb)<|av (pt tb)<|Lv (bK l (tn+1) o) (aM S.aI 0)<|aR C<|aR h6<|aR h7<|av (.agg (aA 2 (bI (bI (rv .u64 (fun _=>0)) 0 1 (fun _=>aD id)) 1 1 (fun _=>aD par))))<|Lv (pf l (2*k)) (cZ 2)<|zP nY (2*k) (h1:=(fun j Z=>by rcases j with _|_|j <;> first|rfl|omega)) fun LJ sF s16 z9 => ?_
   have xV:=S.dh s16 (by omega);have b20:=b17.then s16 abQ;have sJ:Fx.Own LJ B 128 2 (bK l (tn+1) o) (tn+1) (rv .u64 (kN (oF t k id par))):=sF.congr (tu (by omega));refine aC<|ay<|av (au 0)<|aC<|Wr<|aJ (au 0) ?_;have c:jk t tn id par=0:=(by unfold jk; rw[b_ q,b_ (j_ p),b_ (fun h=>by have:=h_ z; omega),b_ (fun h=>h.elim (fun h=>by omega) (DR W (by omega)))]);have I:k=down (fun i=>decide (id<t i 0)) tn:=Fx.oK hk (fun i a b=>f_ (J i a b)) (.inr (fun j e=>by have x:j=_:=Nat.succ.inj (e.symm.trans H); subst x; exact g_ u));exact⟨pz c.symm,b20,.inr ⟨c,l,o,xV,by rw[<- I]; exact sJ,fun e=>agh (B_ e).symm⟩⟩
  refine Lv aF (lX V)<|av aF<|bX<|bX<|bX<|bX<|bX<|bX<|bX<|bX<|bX<|bX<|bX<|av aF<|aC<|aK<|Wx<|cB<|gG<|cK<|sN<|ay<|aR O<|av (pt tb)<|av (pt tb)<|Lv (bK l (tn+1) o) (aM S.aI 0)<|aR C<|aR h6<|aR h7<|av (.agg (aA 2 (bI (bI (rv .u64 (fun _=>0)) 0 1 (fun _=>aD id)) 1 1 (fun _=>aD par))))<|Lv (pf l (2*k)) (cZ 2)<|zP nY (2*k) (h1:=(fun j Z=>by rcases j with _|_|j <;> first|rfl|omega)) fun ZI sK Jv z10 => ?_
  have uV:=S.dh Jv (by omega);have F9:=b17.then Jv abQ;have uo:Fx.Own ZI B 128 2 (bK l (tn+1) o) (tn+1) (rv .u64 (kN (oF t k id par))):=sK.congr (tu (by omega));refine aC<|ay<|av (au 0)<|aC<|Wr<|aJ (au 0) ?_;have c:jk t tn id par=0:=by unfold jk; rw[b_ q,b_ (j_ p),b_ (fun h=>by have:=h_ z; omega),b_ (fun h=>h.elim (fun h=>by omega) (DR W (by omega)))]
  have I:k=down (fun i=>decide (id<t i 0)) tn:=Fx.oK hk (fun i a b=>f_ (J i a b)) (.inl (by omega));exact⟨pz c.symm,F9,.inr ⟨c,l,o,uV,by rw[<- I]; exact uo,fun e=>agh (B_ e).symm⟩⟩
 rw[S_]at z;refine dX (Ob tb ta tn tc t par _ (tX E L Q)) aF (by rw[z]) ?_;intro Mv hb6;have LP:=Sb hb6;have⟨tJ,tK⟩:=fF hb6 E L;have J8:=F.then LP (.inr F.size);refine av aG<|av aG<|aC<|aO<|ay<|av (au 9)<|aC<|Wr<|sR<|aJ (au 9) ?_;have c:jk t tn id par=9:=by unfold jk; rw[b_ q,b_ (j_ p),d_ ⟨G,by have:=j_ z; omega⟩]
 exact⟨pz c.symm,J8,.inl ⟨by rw[c]; decide,tJ,tK⟩⟩
namespace Rt
def iU(o a:Int):Int:=if 1<=o/\o<=6/\1<=a/\a<1099511627776 then 1099511627776*o+a else 0
end Rt
theorem agi(o a:Int)(w:World) :
 Calls Tryz.prog 50 #[au o,aD a] w fun e w'=>e = .returned (aD (iU o a))/\w'=w:=by
 refine Kent Tryz.func50 24 ?_;refine ay<|av (aD 0)<|aC<|Ws<|ay<|av (au o) ?_;by_cases f:o<1
 ·refine Lv aG (gU f)<|av aG<|bX<|bX<|av aG<|av aG<|bX<|bX<|av aG<|av aG<|bX<|bX<|av aG<|aC<|aO<|ay<|av (aD 0)<|aC<|Wr<|sR<|aJ (aD 0) ?_;exact⟨K_ (fun q=>Ending.returned (Value.int .u64 q)) (Eq.symm (by unfold iU; rw[b_ (by omega)])),rfl⟩
 refine Lv aF (gV f)<|av aF<|av (au o) ?_;by_cases g:6<o
 ·refine Lv aG (lW g)<|av aG<|av aG<|bX<|bX<|av aG<|av aG<|bX<|bX<|av aG<|aC<|aO<|ay<|av (aD 0)<|aC<|Wr<|sR<|aJ (aD 0) ?_;exact⟨K_ (fun q=>Ending.returned (Value.int .u64 q)) (Eq.symm (by unfold iU; rw[b_ (by omega)])),rfl⟩
 refine Lv aF (lX g)<|av aF<|av aF<|av (aD a) ?_;by_cases c:a<1
 ·refine Lv aG (gU c)<|av aG<|av aG<|bX<|bX<|av aG<|aC<|aO<|ay<|av (aD 0)<|aC<|Wr<|sR<|aJ (aD 0) ?_;exact⟨K_ (fun q=>Ending.returned (Value.int .u64 q)) (Eq.symm (by unfold iU; rw[b_ (by omega)])),rfl⟩
 refine Lv aF (gV c)<|av aF<|av aF<|av (aD a) ?_;by_cases d:1099511627776<=a
 ·refine Lv aG (ko d)<|av aG<|aC<|aO<|ay<|av (aD 0)<|aC<|Wr<|sR<|aJ (aD 0) ?_;exact⟨K_ (fun q=>Ending.returned (Value.int .u64 q)) (Eq.symm (by unfold iU; rw[b_ (by omega)])),rfl⟩
 refine Lv aF (jT d)<|av aF<|aC<|aK<|Wk<|sN<|ay<|av (au o)<|Lv (aD o) (dD rfl rfl (by kernel_rfl) Tryz.underlying28 (jH (by omega) rfl))<|Lv (aD (1099511627776*o)) (Fx.JJ (b:=40) rfl rfl rfl (by decide) (jH (by omega) (by omega)))<|av (aD a)<|Lv (aD (1099511627776*o+a)) dZ<|av (aD (1099511627776*o+a))<|aC<|Wr<|aJ (aD (1099511627776*o+a)) ?_;exact⟨K_ (fun q=>Ending.returned (Value.int .u64 q)) (Eq.symm (by unfold iU; rw[d_ (by omega)])),rfl⟩
theorem ZU(a:Option Addr)(n cap:Nat)(w:World) :
 Calls Tryz.prog 10 #[.slice a (n) (cap)] w fun e w'=>e = .returned (.bool (decide ((n:Int)<=60)))/\w'=w:=by
 refine Kent Tryz.func10 6 ?_;refine ay<|av aF<|aC<|ay<|av (.slice a (n) (cap))<|av (au n) ?_;by_cases b:(n:Int)<=60
 ·refine Lv aG (mZ b)<|av aG<|aC<|Wr<|aJ aG ?_;exact⟨gY (Eq.symm (f_ b)),rfl⟩
 refine Lv aF (nG b)<|av aF<|aC<|Wr<|aJ aF ?_;exact⟨gY (Eq.symm (g_ b)),rfl⟩
section
theorem app0{s:Nat}{x y:Nat->Value}(j:Nat):iA x (0*s) y j=y j:=by unfold iA; rw[Nat.zero_mul,b_ (u_ _)]; rfl
theorem vE(id par:Int)(R:Nat->Int)(j:Nat):(mD id par R j).oneCell'=true:=by unfold mD; split <;> (try split) <;> rfl
theorem TG(id par:Int)(R:Nat->Int){q p:Nat}(h:q=p+2):mD id par R q=au (R p):=by subst h; unfold mD; rw[b_ (by omega),b_ (by omega),Nat.add_sub_cancel]
theorem tY(x:Nat->Int)(j:Nat):(iZ x j).oneCell'=true:=by unfold iZ; split <;> (try split) <;> rfl
theorem Xz(m:lD)(j:Nat):(Jy m j).oneCell'=true:=vE _ _ _ _
theorem XA(m:lD)(j:Nat):(IU m j).oneCell'=true:=tY _ _
theorem Od(m:DN)(j:Nat):(pI m j).oneCell'=true:=by unfold pI; repeat (first|rfl|split)
def sQ(m:lD)(i:Nat):Value := .slice (m.ra i) (m.rn i) (m.rc i)
def wI(w:World)(B k:Nat)(m:lD):Prop :=
 (∀ i,i<k->Fx.Own w B 28 1 (sQ m i) (m.rn i) (rv .u64 (m.rq i))) /\ ∀ i j,i<k->j<k->i≠j -> ∀ g,(sQ m i).ownBlock=some g->(sQ m j).ownBlock≠some g
section
variable {w w':World} {B k:Nat} {m:lD}
theorem wI.up(h:wI w B k m)(a:Below w.heap.size w w'):wI w' B k m:=⟨fun i b=>(h.1 i b).up a,h.2⟩
instance:Rt.Tr w w' (wI w B k m) (wI w' B k m):=⟨fun b h=>h.up b⟩
theorem wI.jZ{a:List TypeId}(h:wI w B k m)(c:iP a w w')(d:a.contains 28=false):wI w' B k m:=⟨fun i b=>(h.1 i b).jZ c d,h.2⟩
instance {a:List TypeId}:Rt.Tc a w w' (wI w B k m) (wI w' B k m) (!(a.contains 28)):=⟨fun b h e=>h.jZ b (by simpa using e)⟩
theorem wI.zero(w:World)(B:Nat)(m:lD):wI w B 0 m:=⟨fun _ h=>L_ h (u_ _),fun _ _ h=>L_ h (u_ _)⟩
theorem wI.fresh(h:wI w B k m){v:Value}(c:v = .slice none 0 0\/v.ownBlock=(Value.slice none 0 0).ownBlock\/v.ownBlock=some w.heap.size) : ∀ i,i<k -> ∀ g,(sQ m i).ownBlock=some g->v.ownBlock≠some g:=fun i b g a e=>by
 have d:=((h.1 i b).ge a).2
 rcases c with rfl|e2|e2
 ·cases e
 ·rw[e]at e2; cases e2
 ·rw[e]at e2; have:=B_ e2; omega
theorem wI.snoc{a:lD}(h:wI w B k m)(c : ∀ i,i<k->sQ a i=sQ m i/\a.rn i=m.rn i/\a.rq i=m.rq i)(s:Fx.Own w B 28 1 (sQ a k) (a.rn k) (rv .u64 (a.rq k)))(l : ∀ i,i<k -> ∀ g,(sQ m i).ownBlock=some g->(sQ a k).ownBlock≠some g):wI w B (k+1) a:=by
 refine⟨fun i t => ?_,fun i j t u n g b => ?_⟩
 ·by_cases e:i=k
  ·subst e; exact s
  obtain⟨p,q,r⟩:=c i (by omega);rw[p,q,r]; exact h.1 i (by omega)
 by_cases o:i=k
 ·subst o;by_cases d:j=i
  ·exact L_ d.symm n
  intro f;rw[(c j (by omega)).1]at f;exact l j (by omega) g f b
 rw[(c i (by omega)).1]at b;by_cases d:j=k
 ·subst d; exact l i (by omega) g b
 rw[(c j (by omega)).1]; exact h.2 i j (by omega) (by omega) n g b
end
structure vP(w:World)(B p:Nat)(m:lD):Prop where
 c:aQ w p 27 (mE m) 71
 n:Fx.Own w B 61 56 (.slice m.s.na m.s.nn m.s.nc) m.s.nn (Jy m)
 g:Fx.Own w B 66 5 (.slice m.s.ga m.s.gn m.s.gc) m.s.gn (IU m)
 tc:aQ w m.tb 1 (fun _ => .slice m.ta m.tn m.tc) 123
 t:Fx.Own w B 128 2 (.slice m.ta m.tn m.tc) m.tn (PV m.t)
 r:wI w B 6 m
 pB:B<=p
 tB:B<=m.tb
 bn:m.s.nn<=1000
 bg:m.s.gn<=1000000
 bt:m.tn<=1000
 br : ∀ i,i<6->m.rn i<=1000000
section
variable {w w':World} {B p:Nat} {m:lD}
theorem vP.ldg(h:vP w B p m):CB w p m where
 c:=h.c.aI
 an:=h.n.arr
 ag:=h.g.arr
 tc:=h.tc.aI
 at2:=h.t.arr
 ar:=fun i a=>(h.r.1 i a).arr
 bn:=by have:=h.bn; omega
 bg:=h.bg
 bt:=by have:=h.bt; omega
 br:=h.br
theorem vP.up(h:vP w B p m)(a:Below w.heap.size w w'):vP w' B p m := { h with c:=h.c.dh (Sb a) (t_ h.c.lt),n:=h.n.up a,g:=h.g.up a,tc:=h.tc.dh (Sb a) (t_ h.tc.lt),t:=h.t.up a,r:=h.r.up a }
instance:Rt.Tr w w' (vP w B p m) (vP w' B p m):=⟨fun b h=>h.up b⟩
def Kq:List Nat := [71,61,66,123,128,28]
theorem vP.jZ{e:List TypeId}(h:vP w B p m)(b:iP e w w')(i:(Kq.all fun T => !e.contains T)=true):vP w' B p m:=by
 have a : ∀ d∈Kq,e.contains d=false:=fun d f=>by
  have:=List.all_eq_true.1 i d f
  simpa using this
 exact { h with
  c:=h.c.jZ b (a _ (by decide)),n:=h.n.jZ b (a _ (by decide)),g:=h.g.jZ b (a _ (by decide)),tc:=h.tc.jZ b (a _ (by decide)),t:=h.t.jZ b (a _ (by decide)),r:=h.r.jZ b (a _ (by decide)) }
instance {a:List TypeId}:Rt.Tc a w w' (vP w B p m) (vP w' B p m) (Kq.all fun T => !a.contains T):=⟨fun b h e=>h.jZ b (by simpa using e)⟩
theorem vP.mono{b:Nat}(h:vP w B p m)(a:b<=B):vP w b p m := { h with n:=h.n.mono a,g:=h.g.mono a,t:=h.t.mono a,r:=⟨fun i c=>(h.r.1 i c).mono a,h.r.2⟩,pB:=m_ a h.pB,tB:=m_ a h.tB }
end
def Kt(m:lD)(na:Option Addr)(nc:Nat)(ga:Option Addr)(gc tb:Nat)(ta:Option Addr)(tc:Nat)(ra:Nat->Option Addr)(rc:Nat->Nat)(k:Nat):lD :=
 { m with s := { m.s with na:=na,nc:=nc,ga:=ga,gc:=gc },tb:=tb,ta:=ta,tc:=tc,ra:=fun i=>if i<k then ra i else none,rn:=fun i=>if i<k then m.rn i else 0,rc:=fun i=>if i<k then rc i else 0 }
def aH{a:Type}(f:Nat->a)(k:Nat)(v:a):Nat->a:=fun i=>if i=k then v else f i
section
variable {m:lD} {na:Option Addr} {nc:Nat} {ga:Option Addr} {gc tb:Nat} {ta:Option Addr} {tc:Nat} {ra:Nat->Option Addr} {rc:Nat->Nat} {k:Nat}
theorem XB{q:Nat}(h:q=k+21):mE (Kt m na nc ga gc tb ta tc ra rc k) q = .slice none 0 0:=by
 subst h;rw[wH (p:=k) _ rfl];show Value.slice (if k<k then ra k else none) (if k<k then m.rn k else 0) (if k<k then rc k else 0)=_;rw[b_ (Nat.lt_irrefl _),b_ (Nat.lt_irrefl _),b_ (Nat.lt_irrefl _)]
theorem yL{i:Nat}(h:i<k):sQ (Kt m na nc ga gc tb ta tc ra rc k) i = .slice (ra i) (m.rn i) (rc i):=by
 show Value.slice (if i<k then ra i else none) (if i<k then m.rn i else 0) (if i<k then rc i else 0)=_;rw[d_ h,d_ h,d_ h]
theorem TH{a:Option Addr}{c q:Nat}(f:q=k+21):dB (mE (Kt m na nc ga gc tb ta tc ra rc k)) q (.slice a (m.rn k) c)=mE (Kt m na nc ga gc tb ta tc (aH ra k a) (aH rc k c) (k+1)):=by
 subst f
 funext p
 unfold dB;by_cases e:p=k+21
 ·subst e; rw[d_ rfl];rw[wH (p:=k) _ rfl];show _=Value.slice (if k<k+1 then aH ra k a k else none) (if k<k+1 then m.rn k else 0) (if k<k+1 then aH rc k c k else 0);simp[aH]
 rw[b_ e];unfold mE;by_cases h:p<20
 ·rw[d_ h,d_ h]; rfl
 rw[b_ h,b_ h];by_cases b:p=20
 ·rw[d_ b,d_ b]; rfl
 rw[b_ b,b_ b];show Value.slice (if p-21<k then ra (p-21)else none) (if p-21<k then m.rn (p-21)else 0) (if p-21<k then rc (p-21)else 0)=Value.slice (if p-21<k+1 then aH ra k a (p-21)else none) (if p-21<k+1 then m.rn (p-21)else 0) (if p-21<k+1 then aH rc k c (p-21)else 0);by_cases d:p-21<k
 ·simp[aH,d,show p-21<k+1 by omega,show ¬ p-21=k by omega]
 simp[d,show ¬ p-21<k+1 by omega]
theorem XC{w:World}{B:Nat}{a:Option Addr}{c:Nat}(h:wI w B k (Kt m na nc ga gc tb ta tc ra rc k))(e:Fx.Own w B 28 1 (.slice a (m.rn k) c) (m.rn k) (rv .u64 (m.rq k)))
 (f : ∀ i,i<k -> ∀ g,(sQ (Kt m na nc ga gc tb ta tc ra rc k) i).ownBlock=some g->(Value.slice a (m.rn k) c).ownBlock≠some g):wI w B (k+1) (Kt m na nc ga gc tb ta tc (aH ra k a) (aH rc k c) (k+1)):=by
 have b:sQ (Kt m na nc ga gc tb ta tc (aH ra k a) (aH rc k c) (k+1)) k = .slice a (m.rn k) c:=by
  rw[yL (by omega)]; unfold aH; rw[d_ rfl,d_ rfl]
 refine h.snoc (fun i d=>⟨?_,?_,rfl⟩) ?_ ?_
 ·rw[yL (by omega),yL d]; unfold aH; rw[b_ (by omega),b_ (by omega)]
 ·show(if i<k+1 then m.rn i else 0)=(if i<k then m.rn i else 0);rw[d_ (by omega),d_ d]
 ·rw[b];show Fx.Own w B 28 1 _ (if k<k+1 then m.rn k else 0) _;rw[d_ (by omega)]; exact e
 rw[b]; exact f
end
def atM(m:lD)(na:Option Addr)(nc:Nat)(ga:Option Addr)(gc tb:Nat)(ta:Option Addr)(tc:Nat)(ra:Nat->Option Addr)(rc:Nat->Nat):lD :=
 { m with s := { m.s with na:=na,nc:=nc,ga:=ga,gc:=gc },tb:=tb,ta:=ta,tc:=tc,ra:=ra,rc:=rc }
section
variable {m:lD} {na:Option Addr} {nc:Nat} {ga:Option Addr} {gc tb:Nat} {ta:Option Addr} {tc:Nat} {ra:Nat->Option Addr} {rc:Nat->Nat}
theorem agj : ∀ j,j<27->mE (Kt m na nc ga gc tb ta tc ra rc 6) j=mE (atM m na nc ga gc tb ta tc ra rc) j:=fun j b=>by
 unfold mE;by_cases h:j<20
 ·rw[d_ h,d_ h]; rfl
 ·rw[b_ h,b_ h];by_cases a:j=20
  ·rw[d_ a,d_ a]; rfl
  ·rw[b_ a,b_ a];show Value.slice (if j-21<6 then ra (j-21)else none) (if j-21<6 then m.rn (j-21)else 0) (if j-21<6 then rc (j-21)else 0)=Value.slice (ra (j-21)) (m.rn (j-21)) (rc (j-21));rw[d_ (by omega),d_ (by omega),d_ (by omega)]
theorem XD{w:World}{B:Nat}(h:wI w B 6 (Kt m na nc ga gc tb ta tc ra rc 6)):wI w B 6 (atM m na nc ga gc tb ta tc ra rc):=by
 refine⟨fun i a => ?_,fun i j a b d g c => ?_⟩
 ·have:=h.1 i a;rw[yL a]at this;have e:(Kt m na nc ga gc tb ta tc ra rc 6).rn i=m.rn i:=by show(if i<6 then m.rn i else 0)=_; rw[d_ a]
  rw[e]at this;exact this
 have:=h.2 i j a b d g;rw[yL a,yL b]at this;exact this c
end
end
set_option maxRecDepth 20000 in
set_option maxHeartbeats 1000000 in
theorem abR(m:lD)(p:Nat)(w:World)(h:CB w p m)(bn1:m.s.nn<=1000)(bt1:m.tn<=1000) :
 Calls Tryz.prog 53 #[(pt p)] w fun e w' => ∃ p' m',e = .returned (pt p')/\m'.core=m.core/\vP w' w.heap.size p' m'/\Below w.heap.size w w':=by
 have N:=h.c;have lp:p<w.heap.size:=N.lt (by omega);have bn:=h.bn;have bg:=h.bg;have bt:=h.bt;have han:=h.an;have hag:=h.ag;have hat:=h.at2;have htc:=h.tc;have QV:m.tb<w.heap.size:=htc.lt (by omega);refine Kent Tryz.func53 79 ?_;refine ay<|av (.pointer none)<|aC<|ay<|av (pt p)<|av (pt p)<|av (pt p)<|Lv (.agg (aA 20 (pI m.s))) (gD N 0 (fun j hj=>(show mE _ (0+j)=pI _ j by rw[E_]; exact kM _ hj rfl)))<|av (.agg (aA 1 (fun _ => .slice none 0 0)))<|rF fun b w1 ng m1 s1 z1 => ?_;have⟨m2,m3,b1⟩:=kI s1.old N htc (Below.refl w.heap.size w);have sw:=iB ng;have nK:p≠b:=by rw[ng]; exact t_ (N.lt (by omega))
 have Oe:m.tb≠b:=by rw[ng]; exact t_ (htc.lt (by omega))
 have wu:=m1.lt;refine av (.agg (aA 27 (bI (bI (fun o=>if o<12 then .bool false else if o<18 then aD 0 else if o<20 then .slice none 0 0 else if o<21 then .pointer none else .slice none 0 0) 0 20 (pI m.s)) 20 1 (fun _=>(pt b)))))<|Dw (m:=27) (y:=bI (bI (fun o=>if o<12 then .bool false else if o<18 then aD 0 else if o<20 then .slice none 0 0 else if o<21 then .pointer none else .slice none 0 0) 0 20 (pI m.s)) 20 1 (fun _=>(pt b))) (by rfl) rfl rfl (bH _ _) rfl fun a w2 V m4 s2 z2 => ?_;have⟨m5,m6,m7,b2⟩:=qj s2.old m2 m3 m1 b1;have sP:=jE V b1.size;have ZV:p≠a:=by rw[V]; exact t_ (m2.lt (by omega))
 have agk:m.tb≠a:=by rw[V]; exact t_ (m3.lt (by omega))
 have TI:=dn V m1.lt;have Bl:=m4.lt;refine av (pt a)<|aC<|ay<|av (pt a)<|Fx.L.NG (s:=56) (by rfl) rfl Tryz.underlying50 (by kernel_rfl) rfl fun g3 w3 xX hO1 s3 => ?_;have P:Fx.Own w3 w.heap.size 61 56 (bK g3 0 0) 0 (Jy m):=hO1 _ _ (by rw[xX]; exact b2.size);have⟨m9,m10,m11,m12,S⟩:=sH s3.old m5 m6 m7 m4 b2;refine av (pt p)<|av (pt p)<|av (pt p)<|av (pf p 18)<|Lv (.slice m.s.na (m.s.nn) (m.s.nc)) (aM m9 18)<|Fx.L.Io (B:=w.heap.size) (s:=56) (bytes:=448) (k:=0) (m:=m.s.nn) (v:=bK g3 0 0) (x:=Jy m) (by rfl) rfl rfl rfl Tryz.underlying50 (by kernel_rfl) (by kernel_rfl) rfl rfl P (han.up S rfl) (fun j _=>Xz m j) (by omega) (by omega) S.size fun vv1 w4 ho1 X uh => ?_;rw[E_]at ho1;obtain⟨C,E,rfl⟩:=ho1.val;have gM:=za X P;have m14:=m9.grown X (P.not (by omega));have m15:=m10.grown X (P.not (by omega));have⟨m16,m17⟩:=Br gM m11 m12;have m13:Fx.Own w4 w.heap.size 61 56 (.slice C (m.s.nn) (E)) m.s.nn (Jy m):=(ho1.congr (fun j _=>app0 j));have b4:Below w.heap.size w w4:=yY S X S.size (fun q l=>(P.ge l).1);refine av (pt a)<|av (pt a)<|av (pf a 18)<|jh m17 18 (.slice C (m.s.nn) (E)) fun w5 m18 s4 z3 => ?_;have m19:=m14.dh s4 (by omega);have m20:=m15.dh s4 (by omega);have jQ:=iw s4 m17.ty;have⟨m21,m22⟩:=Br jQ m16 m13;have b5:=s4.below b4 b4.size (by omega);refine aC<|ay<|av (pt a)<|Fx.L.NG (s:=5) (by rfl) rfl Tryz.underlying51 (by kernel_rfl) rfl fun g4 w6 Ml hO2 s5 => ?_;have O:Fx.Own w6 w.heap.size 66 5 (bK g4 0 0) 0 (IU m):=hO2 _ _ (by rw[Ml]; exact b5.size);have⟨m24,nA,oo,pE,oN,T⟩:=ql s5.old m19 m20 m21 m22 m18 b5;refine av (pt p)<|av (pt p)<|av (pt p)<|av (pf p 19)<|Lv (.slice m.s.ga (m.s.gn) (m.s.gc)) (aM m24 19)<|Fx.L.Io (B:=w.heap.size) (s:=5) (bytes:=40) (k:=0) (m:=m.s.gn) (v:=bK g4 0 0) (x:=IU m) (by rfl) rfl rfl rfl Tryz.underlying51 (by kernel_rfl) (by kernel_rfl) rfl rfl O (hag.up T rfl) (fun j _=>XA m j) (by omega) (by omega) T.size fun vv2 w7 ho2 Y MI => ?_;rw[E_]at ho2;obtain⟨D,F,rfl⟩:=ho2.val;have qN:=za Y O;have oq:=m24.grown Y (O.not (by omega));have mJ:=nA.grown Y (O.not (by omega));have⟨m32,qO,nX⟩:=Em qN oo pE oN;have pF:Fx.Own w7 w.heap.size 66 5 (.slice D (m.s.gn) (F)) m.s.gn (IU m):=(ho2.congr (fun j _=>app0 j));have b7:Below w.heap.size w w7:=yY T Y T.size (fun q l=>(O.ge l).1);refine av (pt a)<|av (pt a)<|av (pf a 19)<|jh nX 19 (.slice D (m.s.gn) (F)) fun w8 pW s6 z4 => ?_;have qm:=oq.dh s6 (by omega);have rJ:=mJ.dh s6 (by omega);have zS:=iw s6 nX.ty;have⟨qP,pX,sD⟩:=Em zS m32 qO pF;have b8:=s6.below b7 b7.size (by omega);refine aC<|Ws ?_;refine Ar [0,1,2,4,5,6,11,12,13,3,7,8,9,10,14,15,16,17,18,19,20,21] [0,0,0,1,0,0,0,4,0,0,4,0,0,0,4,0,0,4,2,0,0,3] (iP [128]) vX Fx.iP.trans (fH := [(21,3,[3]),(18,7,[10,9,8,7]),(21,7,[7]),(18,10,[10]),(21,10,[10]),(18,14,[17,16,15,14]),(21,14,[14]),(18,17,[17]),(21,17,[17]),(19,18,[18]),(20,18,[18]),(21,18,[18])]) (by kernel_rfl) (by kernel_rfl) (by kernel_rfl) (by kernel_rfl) (by kernel_rfl) fun I dS iy => ?_;have⟨nY,mW,nC,sI,qZ,nZ,U⟩:=jI dS qm rJ qP pX sD pW b8;refine aZ (pt a)<|aZ (pt a)<|aZ (pf a 20)<|aZ (pt a)<|aZ (pt a)<|aZ (pf a 20)<|aZ (pt p)<|aZ (pt p)<|aZ (pf p 20)<|Rd (v:=(pt b)) (by rfl) (by rfl) (vX _) (fun v1 hv1=>bB (x:=dB (dB (bI (bI (fun o=>if o<12 then .bool false else if o<18 then aD 0 else if o<20 then .slice none 0 0 else if o<21 then .pointer none else .slice none 0 0) 0 20 (pI m.s)) 20 1 (fun _=>(pt b))) 18 (.slice C (m.s.nn) (E))) 19 (.slice D (m.s.gn) (F))) rfl rfl (by kernel_rfl) (nZ.jZ hv1 (by decide)).aI (i:=20) (by omega) (by omega) (Fx.Ao (by omega) (Fx.Ao (by omega) (Fx.qg (j:=0) (by omega) (by omega) rfl)))) ?_;refine Rs (pt b) (aM nZ.aI 20 (Fx.Ao (by omega) (Fx.Ao (by omega) (Fx.qg (j:=0) (by omega) (by omega) rfl)))) ?_;refine aZ (pt b)<|aZ (pt b)<|Rs (.slice none 0 0) (aM nC.aI 0) ?_;refine Rs (pt m.tb) (aM nY 20) ?_;refine aZ (pt m.tb)<|aZ (pt m.tb)<|Rs (.slice m.ta (m.tn) (m.tc)) (aM mW 0) ?_;refine Cw<|Fx.L.Io (B:=w.heap.size) (s:=2) (bytes:=16) (k:=0) (m:=m.tn) (v := .slice none 0 0) (x:=PV m.t) (by rfl) rfl rfl rfl Tryz.underlying121 (by kernel_rfl) (by kernel_rfl) rfl rfl (wV I w.heap.size 128 2 (PV m.t)) (hat.up U rfl) (fun _ _=>rfl) (by omega) (by omega) U.size fun vv3 w9 ho3 A avp => ?_;rw[E_]at ho3
 obtain⟨u,z,rfl⟩:=ho3.val;have zf:=za A (wV I w.heap.size 128 2 (PV m.t));have hq1:Below I.heap.size I w9:=⟨A.os,A.tape,A.output,A.size,fun q l=>A.block q l (fun e=>by cases e)⟩
 have xV:=nY.dh (Sb hq1) (t_ (nY.lt (by omega)));have hq2:Below I.heap.size I w9:=⟨A.os,A.tape,A.output,A.size,fun q l=>A.block q l (fun e=>by cases e)⟩
 have sJ:=mW.dh (Sb hq2) (t_ (mW.lt (by omega)));have⟨sK,uV,uo,tJ⟩:=Mf zf nC sI qZ nZ;have sF:Fx.Own w9 w.heap.size 128 2 (.slice u (m.tn) (z)) m.tn (PV m.t):=(ho3.congr (fun j _=>app0 j));have b10:Below w.heap.size w w9:=yY U A U.size (fun q l=>((wV I w.heap.size 128 2 (PV m.t)).ge l).1);refine Ln ⟨zf,?_⟩;refine aZ (pt b)<|aZ (pt b)<|gI<|jh sK 0 (.slice u (m.tn) (z)) fun um tK s8 z5 => ?_;have wZ:aQ um b 1 (fun _ => .slice u (m.tn) (z)) 123:=dM tK;have uq:=xV.dh s8 (by omega);have sM:=sJ.dh s8 (by omega);have zh:=iw s8 sK.ty;have⟨sO,xg,pY,uI⟩:=Mf zh uV uo tJ sF;have b11:=s8.below b10 b10.size (by omega);refine Ln<|bP<|Ws<|ay<|av (au 0)<|aC<|Wb ?_;have nL:aQ um a 27 (mE (Kt m C E D F b u z (fun _=>none) (fun _=>0) 0)) 71:=pY.congr (fun j hj=>by rcases j with _|_|_|_|_|_|_|_|_|_|_|_|_|_|_|_|_|_|_|_|_|_|_|_|_|_|_|j <;> first|rfl|omega)
 have ru:=wI.zero um w.heap.size (Kt m C E D F b u z (fun _=>none) (fun _=>0) 0);refine Wo (fun f H => ∃ k:Nat,∃ ra:Nat->Option Addr,∃ rc:Nat->Nat,k<=6/\f 0=(pt p)/\f 3=(pt a)/\f 4=au (k:Int)/\iK H p 0 27 (mE m)/\Fx.Own H w.heap.size 61 56 (.slice C (m.s.nn) (E)) m.s.nn (Jy m)/\Fx.Own H w.heap.size 66 5 (.slice D (m.s.gn) (F)) m.s.gn (IU m)/\Fx.Own H w.heap.size 128 2 (.slice u (m.tn) (z)) m.tn (PV m.t)/\aQ H b 1 (fun _ => .slice u (m.tn) (z)) 123/\aQ H a 27 (mE (Kt m C E D F b u z ra rc k)) 71/\wI H w.heap.size k (Kt m C E D F b u z ra rc k)/\Below w.heap.size w H) (fun f _=>(6-(intOf (f 4)).toNat)) ⟨0,(fun _=>none),(fun _=>0),by omega,(by rfl),(by rfl),Fx.ic,uq,sO,xg,uI,wZ,nL,ru,b11⟩ ?_;rintro f1 Ev ⟨k,ra,rc,hk,h1,W,J,m64,uW,uJ,wz,wB,rM,tL,b12⟩;refine Ws<|ay<|aR J ?_;by_cases c57:(k:Int)<6
 ·refine Lv aG (gU c57)<|aC<|aO<|Wk<|sN<|Ws<|Wb ?_;have brk:=h.br k (by omega);have uK:=N.below b12 lp;refine Ar [0,1,2,3,4,5,6,8,9,10,11,12,15,16,7,13,14,17,18] [0,0,0,0,0,0,0,4,0,0,0,0,0,4,2,0,0,0,3] (iP [28]) vX Fx.iP.trans (fH := [(14,7,[7]),(18,7,[7]),(14,13,[13]),(18,13,[13]),(17,14,[14]),(18,14,[14])]) (by kernel_rfl) (by kernel_rfl) (by kernel_rfl) (by kernel_rfl) (by kernel_rfl) fun G gu nJ => ?_;have⟨tN,sG,xk,tO,uX,xq,xu,uY,R⟩:=Bq gu m64 uW uJ wz wB rM tL uK b12;refine bY W<|bY J<|bY W<|bY J<|aZ (pt a)<|aZ (pf a 21)<|Rp (pf a (k+21)) (fun _=>jC 6 1)<|bY h1<|bY J<|aZ (pt p)<|aZ (pf p 21)<|Rp (pf p (k+21)) (fun _=>jC 6 1)<|aZ (pt a)<|aZ (pf a 21)<|Rs (.slice none 0 0) (aM xq.aI (k+21) (XB (by omega))) ?_;refine Rs (.slice (m.ra k) (m.rn k) (m.rc k)) (aM tN (k+21) (wH _ (by omega))) ?_;refine Cw<|Fx.L.Io (B:=w.heap.size) (s:=1) (bytes:=8) (k:=0) (m:=(m.rn k)) (v := .slice none 0 0) (x:=rv .u64 (m.rq k)) (by rfl) rfl rfl rfl Tryz.underlying63 (by kernel_rfl) (by kernel_rfl) rfl rfl (wV G w.heap.size 28 1 (rv .u64 (m.rq k))) ((h.ar k (by omega)).up R rfl) (fun _ _=>rfl) (by omega) (by omega) R.size fun vv4 Q ho4 d alz => ?_;rw[E_]at ho4;obtain⟨K,M,rfl⟩:=ho4.val;have AB:=za d (wV G w.heap.size 28 1 (rv .u64 (m.rq k)));have hq3:Below G.heap.size G Q:=⟨d.os,d.tape,d.output,d.size,fun q l=>d.block q l (fun e=>by cases e)⟩
  have tQ:=tN.dh (Sb hq3) (t_ (tN.lt (by omega)));have⟨wC,yI,xw,yJ,zF⟩:=qL AB sG xk tO uX xq;have hq4:Below G.heap.size G Q:=⟨d.os,d.tape,d.output,d.size,fun q l=>d.block q l (fun e=>by cases e)⟩
  have zG:=xu.up hq4;have hq5:Below G.heap.size G Q:=⟨d.os,d.tape,d.output,d.size,fun q l=>d.block q l (fun e=>by cases e)⟩
  have zi:=uY.dh (Sb hq5) (t_ (uY.lt (by omega)));have uL:Fx.Own Q w.heap.size 28 1 (.slice K (m.rn k) (M)) (m.rn k) (rv .u64 (m.rq k)):=(ho4.congr (fun j _=>app0 j));have b14:Below w.heap.size w Q:=yY R d R.size (fun q l=>((wV G w.heap.size 28 1 (rv .u64 (m.rq k))).ge l).1);have hf1:=xu.fresh alz;refine Ln ⟨AB,?_⟩;refine Rp (pf a (k+21)) (fun _=>jC 6 1)<|gI<|jh zF (k+21) (.slice K (m.rn k) (M)) fun GD zk Z z6 => ?_;have zT:=tQ.dh Z (by omega);have EF:=iw Z zF.ty;have⟨Ey,AJ,yM,zl,xB⟩:=qL EF wC yI xw yJ zG;have zW:=zi.dh Z (by omega);have Bn:=lN EF uL;have b15:=Z.below b14 b14.size (by omega);refine Ln<|Rn<|bM<|sN<|Wl<|aR J<|Lv (au ((k:Int)+1)) dZ<|av (au ((k:Int)+1))<|Ln ?_;have DT:aQ GD a 27 (mE (Kt m C E D F b u z (aH ra k K) (aH rc k M) (k+1))) 71:=zk.to (TH (by omega));have EG:wI GD w.heap.size (k+1) (Kt m C E D F b u z (aH ra k K) (aH rc k M) (k+1)):=XC xB Bn hf1
  skip
  refine fZ ⟨k+1,(aH ra k K),(aH rc k M),by omega,h1,W,Fx.ic,zT,Ey,AJ,yM,zl,DT,EG,b15⟩ ?_;show(6-(intOf (au ((k:Int)+1))).toNat)<_;simp only[J,intOf]; omega
 refine Lv aF (gV c57)<|aC<|aK<|Wx<|cB<|gG<|cK<|sN<|ay<|aR W<|av (pt a)<|aC<|Wr<|aJ (pt a) ?_;have ek:k=6:=by omega
 subst ek;exact⟨a,atM m C E D F b u z ra rc,rfl,rfl,{ c:=rM.congr agj,n:=uW,g:=uJ,tc:=wB,t:=wz,r:=XD tL,pB:=sP,tB:=sw,bn:=bn1,bg:=bg,bt:=bt1,br:=h.br },b12⟩
namespace Rt
def nO(id:Nat->Int)(o:Int):Nat->Nat
 | 0=>0
 | n+1=>nO id o n+if id n / 1099511627776=o then 1 else 0
theorem TJ{id:Nat->Int}{o:Int}{c k:Nat}(h:c=nO id o k)(e:id k / 1099511627776=o):c+1=nO id o (k+1):=by unfold nO; rw[d_ e,h]
theorem XE{id:Nat->Int}{o:Int}{c k:Nat}(h:c=nO id o k)(e : ¬ id k / 1099511627776=o):c=nO id o (k+1):=by unfold nO; rw[b_ e,h]; rfl
noncomputable def jV(L:fQ)(v:EvM):Int:=if 5<=nO L.id v.o L.nn\/140737488355328<v.aT then 6 else jk L.t L.tn (iU v.o v.seq) v.node
def rU(f:Nat->Int)(n:Nat)(x:Int):Nat:=down (fun i=>decide (x<f i)) n
def qp(L:fQ)(v:EvM):fQ :=
 { L with nn:=L.nn+1,id:=cO L.id (rU L.id L.nn (iU v.o v.seq)) (iU v.o v.seq),par:=cO L.par (rU L.id L.nn (iU v.o v.seq)) v.node,
          R:=cO L.R (rU L.id L.nn (iU v.o v.seq)) (upd (fun _=>0) (v.o-1).toNat v.aT),
          tn:=L.tn+1,t:=oF L.t (down (fun i=>decide (iU v.o v.seq<L.t i 0)) L.tn) (iU v.o v.seq) v.node }
theorem TK{id par:Int}(j:Nat):bI (bI (fun c=>if c<2 then aD 0 else au 0) 0 1 (fun _=>aD id)) 1 1 (fun _=>aD par) j=mD id par (fun _=>0) j:=by
 unfold bI mD;by_cases a:j=0
 ·subst a; rfl
 by_cases b:j=1
 ·subst b; rfl
 rw[b_ (by omega),b_ (by omega),b_ a,b_ b]; show(if j<2 then _ else _)=_; rw[b_ (by omega)]
theorem Og{id par:Int}{R:Nat->Int}{a q:Nat}{x:Int}(d:q=a+2):dB (mD id par R) q (au x)=mD id par (upd R a x):=by
 subst d
 funext p
 unfold dB mD upd;by_cases h:p=a+2
 ·subst h; rw[d_ rfl,b_ (by omega),b_ (by omega),d_ (by omega)]
 rw[b_ h];by_cases b:p=0
 ·rw[d_ b,d_ b]
 by_cases c:p=1
 ·rw[b_ b,d_ c,b_ b,d_ c]
 rw[b_ b,b_ c,b_ b,b_ c,b_ (by omega)]
theorem Oh{id par:Nat->Int}{R:Nat->Nat->Int}{k:Nat}{a b:Int}{c:Nat->Int}:Fx.Ir (fun d=>mD (id d) (par d) (R d)) k (mD a b c)=fun d=>mD (cO id k a d) (cO par k b d) (cO R k c d):=by
 funext i
 unfold Fx.Ir cO;by_cases h:i<k
 ·simp only[d_ h]
 by_cases e:i=k
 ·simp only[b_ h,d_ e]
 simp only[b_ h,b_ e]
theorem GQ(m:lD)(a:Option Addr)(n c:Nat):dB (mE m) 18 (.slice a n c)=mE { m with s := { m.s with na:=a,nn:=n,nc:=c } }:=by
 funext p
 unfold dB mE;by_cases h:p=18
 ·subst h; rfl
 rw[b_ h];by_cases e:p<20
 ·rw[d_ e,d_ e]; unfold pI;by_cases b:p<6
  ·rw[d_ b,d_ b]
  by_cases d:p<12
  ·rw[b_ b,d_ d,b_ b,d_ d]
  by_cases f:p<18
  ·rw[b_ b,b_ d,d_ f,b_ b,b_ d,d_ f]
  rw[b_ b,b_ d,b_ f,b_ h,b_ b,b_ d,b_ f,b_ h]
 rw[b_ e,b_ e]
theorem wJ{s:Nat}{z y:Nat->Value}(hy : ∀ j,(y j).oneCell'=true) : ∀ j,j<1*s->(bI z (0*s) s y j).oneCell'=true:=fun j a=>by
 unfold bI; rw[d_ (by omega)]; exact hy _
theorem TL{f:Nat->Int}{n k j:Nat}{x:Int}(e:k=j+1)(h : ∀ i,k<=i->i<n->x<f i)(c:x<f j) : ∀ i,j<=i->i<n->x<f i:=fun i d b=>by
 by_cases a:i=j
 ·subst a; exact c
 ·exact h i (by omega) b
end Rt
theorem Rt.Ku{t:Nat->Nat->Int}{tn:Nat}{id par:Int}(h:jk t tn id par=0):tn+1<=33:=by
 unfold jk at h;split at h; · cases h
 split at h; · cases h
 split at h; · cases h
 split at h; · cases h
 rename_i h4
 rcases Nat.lt_or_ge tn 32 with h5|h5
 ·omega
 exact L_ (Or.inl h5) h4
set_option maxRecDepth 20000 in
set_option maxHeartbeats 2000000 in
theorem XF(m:lD)(B p a D:Nat)(v:EvM)(w:World)(C:vP w B p m)(u:B<=w.heap.size)(ha:a<6)(ho:v.o=(a:Int)+1)(bnn:m.s.nn<=900)(hD:bE m.t m.tn (bf m.t m.tn D v.node)<0)(hD2:D<=1000) :
 Calls Tryz.prog 78 #[(pt p),.agg (aA 14 (bQ v))] w fun e w'=>e = .returned (au (jV m.core v))/\Below B w w'/\(jV m.core v=0 -> ∃ m',m'.core=qp m.core v/\vP w' B p m'):=by
 have TM:=C.c;have hLn:=C.n;have hLg:=C.g;have TN:=C.tc;have TP:=C.t;have hLr:=C.r;have TQ:=C.pB;have Dq:=C.tB;have bn:=C.bn;have bg:=C.bg;have bt:=C.bt;have lpp:p<w.heap.size:=TM.lt;have QV:m.tb<w.heap.size:=TN.lt;refine Kent Tryz.func78 132 ?_;refine ay<|rF fun I w1 ng m1 s1 z1 => ?_;have⟨m2,m3,m4,m5,m6,m7⟩:=ql s1.old TM hLn hLg TN TP hLr;have b1:=eO s1.old (Below.refl B w) u;have sw:=jE ng (Below.refl B w).size;have⟨nK,tZ⟩:=vY ng TM.lt TN.lt;have wu:=m1.lt;refine av (au 0)<|aC<|ay<|av (au 0)<|aC<|Ws<|ay<|av (au 0)<|aC<|Wb<|Wo (fun f z => ∃ k:Nat,∃ G:Nat,k<=m.s.nn/\G<=k/\G=nO m.id v.o k/\f 0=(pt p)/\f 3=(pt I)/\f 5=au (G:Int)/\f 6=au (k:Int)/\aQ z p 27 (mE m) 71/\Fx.Own z B 61 56 (.slice m.s.na (m.s.nn) (m.s.nc)) m.s.nn (Jy m)/\Fx.Own z B 66 5 (.slice m.s.ga (m.s.gn) (m.s.gc)) m.s.gn (IU m)/\aQ z m.tb 1 (fun _ => .slice m.ta m.tn m.tc) 123/\Fx.Own z B 128 2 (.slice m.ta (m.tn) (m.tc)) m.tn (PV m.t)/\wI z B 6 m/\aQ z I 14 (bQ v) 32/\Below B w z) (fun f _=>(m.s.nn-(intOf (f 6)).toNat)) ⟨0,0,by omega,by omega,rfl,(by rfl),(by rfl),Fx.ic,Fx.ic,m2,m3,m4,m5,m6,m7,m1,b1⟩ ?_;rintro f1 O ⟨k,G,hk,hcl,aa,J,K,h3,Y,m8,m9,m10,m11,m12,m13,W,b2⟩;refine Ws<|ay<|aR Y<|aR J<|av (pt p)<|av (pt p)<|av (pf p 18)<|Lv (.slice m.s.na (m.s.nn) (m.s.nc)) (aM m8.aI 18)<|av (au m.s.nn) ?_;by_cases c18:(k:Int)<(m.s.nn:Int)
 ·refine Lv aG (gU c18)<|aC<|aO<|Wk<|sN<|Ws<|Wb<|Ws ?_;refine zQ<|eG J<|aU (pt p)<|aU (pt p)<|aU (pf p 18)<|Qv (.slice m.s.na (m.s.nn) (m.s.nc)) (fun F E=>aM (m8.aI.dr E) 18)<|eG Y ?_;obtain⟨CG,eq1⟩:=m9.addr (by omega);have m15:Fx.Own O B 61 56 (bK CG m.s.nn m.s.nc) m.s.nn (Jy m):=m9.fq (K_ (fun q=>Value.slice q m.s.nn m.s.nc) eq1);refine Qv (pf CG (56*k)) (fun F E=>cZ 56 (hx:=(rfl.trans (K_ (fun q=>Value.slice q (m.s.nn) (m.s.nc)) eq1))))<|aU (pf CG (56*k))<|Qv (aD (m.id k)) (fun F E=>aM (m15.aI.dr E) (56*k) (Fx.dF (k:=k) (j:=0) (by omega) (by omega) rfl))<|Qv (aD ((m.id k) / 1099511627776)) (fun F E=>Fx.Zu (b:=40) (q:=1099511627776) rfl rfl rfl (by decide) (by decide))<|Qv (pt I) (fun F E=>je K 0)<|Qv (au v.o) (fun F E=>aM (W.aI.dr E) 0)<|Qv (aD v.o) (fun F E=>dD rfl rfl (by kernel_rfl) Tryz.underlying28 (jH (by omega) rfl)) ?_;by_cases c34:((m.id k) / 1099511627776)=v.o
  ·refine Qv aG (fun F E=>eF c34)<|Qn ?_;rintro _ ⟨qd,rfl⟩;obtain⟨DJ,rW⟩ : ∃ F,F=World.drewN O qd:=⟨_,rfl⟩;rw[<- rW];have s2:Stp O.heap.size O DJ:=(by rw[rW]; exact Sb (jM O qd));have⟨m16,m17,m18,m19,m20,m21,m22⟩:=jI s2.old m8 m10 m11 m12 m13 W m15;have b3:=eO s2.old b2 u;clear rW;refine sN<|aO<|Wl<|aR h3<|Lv (au ((G:Int)+1)) dZ<|av (au ((G:Int)+1))<|Ln<|bM<|sN<|Wl<|aR Y<|Lv (au ((k:Int)+1)) dZ<|av (au ((k:Int)+1))<|Ln ?_;have m23:Fx.Own DJ B 61 56 (.slice m.s.na (m.s.nn) (m.s.nc)) m.s.nn (Jy m):=m22.fq (K_ (fun q=>Value.slice q m.s.nn m.s.nc) eq1.symm);refine fZ ⟨k+1,G+1,by omega,by omega,(TJ aa c34),J,K,Fx.ic,Fx.ic,m16,m23,m17,m18,m19,m20,m21,b3⟩ ?_;show(m.s.nn-(intOf (au ((k:Int)+1))).toNat)<_;simp only[Y,intOf]; omega
  refine Qv aF (fun F E=>fE c34)<|Qn ?_;rintro _ ⟨qd,rfl⟩;obtain⟨wq2,wK⟩ : ∃ F,F=World.drewN O qd:=⟨_,rfl⟩;rw[<- wK];have s3:Stp O.heap.size O wq2:=by rw[wK]; exact Sb (jM O qd)
  have⟨m24,nA,oo,pE,oN,pF,oq⟩:=jI s3.old m8 m10 m11 m12 m13 W m15;have b4:=eO s3.old b2 u;clear wK;refine sN<|aK<|Wk<|bM<|sN<|Wl<|aR Y<|Lv (au ((k:Int)+1)) dZ<|av (au ((k:Int)+1))<|Ln ?_;have mJ:Fx.Own wq2 B 61 56 (.slice m.s.na (m.s.nn) (m.s.nc)) m.s.nn (Jy m):=oq.fq (K_ (fun q=>Value.slice q m.s.nn m.s.nc) eq1.symm);refine fZ ⟨k+1,G,by omega,by omega,(XE aa c34),J,K,(h3.trans Fx.ic),Fx.ic,m24,mJ,nA,oo,pE,oN,pF,b4⟩ ?_;show(m.s.nn-(intOf (au ((k:Int)+1))).toNat)<_;simp only[Y,intOf]; omega
 refine Lv aF (gV c18)<|aC<|aK<|Wx<|cB<|gG<|cK<|sN<|Ws<|ay<|aR h3 ?_;by_cases c38:5<=(G:Int)
 ·refine Lv aG (ko c38)<|av aG<|bX<|bX<|bX<|av aG<|aC<|aO<|ay<|av (au 6)<|aC<|Wr<|sR<|aJ (au 6) ?_;have N:k=m.s.nn:=by omega
  subst N;have H:jV m.core v=6:=d_ (.inl (by rw[show nO m.core.id v.o m.core.nn=G from aa.symm]; omega));exact⟨pz H.symm,b2,fun U=>by rw[H]at U; cases U⟩
 refine Lv aF (jT c38)<|av aF<|Lv (pf I 11) (je K 11)<|Lv (au v.aT) (aM W.aI 11) ?_;by_cases Ms:140737488355328<v.aT
 ·refine Lv aG (lW Ms)<|av aG<|aC<|aO<|ay<|av (au 6)<|aC<|Wr<|sR<|aJ (au 6) ?_;have N:k=m.s.nn:=by omega
  subst N;have H:jV m.core v=6:=d_ (.inr (by omega));exact⟨pz H.symm,b2,fun U=>by rw[H]at U; cases U⟩
 refine Lv aF (lX Ms)<|av aF<|aC<|aK<|Wk<|sN<|ay<|Lv (pt I) (je K 0)<|Lv (au v.o) (aM W.aI 0)<|Lv (pf I 1) (je K 1)<|Lv (aD v.seq) (aM W.aI 1)<|lM (agi v.o v.seq _) _ rfl<|av (aD (iU v.o v.seq))<|aC<|Ws ?_;refine jO [0,1,2,4,5,3,6,7,8] [0,0,0,4,0,0,4,3,0] [(7,3,[3]),(7,6,[6]),(8,7,[7])] fun qA dS iy => ?_;have⟨m32,qO,nX,pW,qm,rJ,qP⟩:=jI dS m8 m9 m10 m11 m12 m13 W;have b5:=eO dS b2 u;refine bY J<|aZ (pt p)<|aZ (pf p 20)<|aZ (aD (iU v.o v.seq))<|Rp (pf I 9) (fun _=>je K 9)<|Rs (pt m.tb) (aM m32.aI 20) ?_;refine Rs (aD v.node) (aM qP.aI 9) ?_;refine gI<|dX (agc B m.tb m.ta m.tn m.tc m.t (iU v.o v.seq) v.node D _ pW qm (fun e=>Fx.Ty.ne (qm.ty e) pW.ty (by decide) rfl) (m_ u b5.size) bt hD hD2) _ rfl ?_;rintro X ⟨agp,hcs1⟩;have hc1:iP [123,128] qA X:=Fx.iP.Ry agp (by rintro k (rfl|e) <;> first|exact⟨_,pW.ty,by decide⟩|exact⟨_,qm.ty e,by decide⟩)
 have pX:aQ X p 27 (mE m) 71:=m32.jZ hc1 (by decide);have sD:Fx.Own X B 61 56 (.slice m.s.na (m.s.nn) (m.s.nc)) m.s.nn (Jy m):=qO.jZ hc1 (by decide);have nY:Fx.Own X B 66 5 (.slice m.s.ga (m.s.gn) (m.s.gc)) m.s.gn (IU m):=nX.jZ hc1 (by decide);have mW:wI X B 6 m:=rJ.jZ hc1 (by decide);have nC:aQ X I 14 (bQ v) 32:=qP.jZ hc1 (by decide);have b6:Below B w X:=Fx.jN.below b5 agp (by rintro k (rfl|e) <;> first|exact Dq|exact(qm.ge e).1) (m_ u b5.size)
 rcases hcs1 with ⟨Q,hT1,hO1⟩|⟨Q,g9,XG,hT1,hO1,hne1⟩
 ·refine Ln<|aZ (au (jk m.t m.tn (iU v.o v.seq) v.node))<|bP<|Ws<|ay<|av (au (jk m.t m.tn (iU v.o v.seq) v.node))<|Lv aG (nH Q)<|aC<|aO<|ay<|av (au (jk m.t m.tn (iU v.o v.seq) v.node))<|av (au (jk m.t m.tn (iU v.o v.seq) v.node))<|aC<|Wr<|sR<|aJ (au (jk m.t m.tn (iU v.o v.seq) v.node)) ?_;have N:k=m.s.nn:=by omega
  subst N;have H:jV m.core v=jk m.t m.tn (iU v.o v.seq) v.node:=b_ (fun h=>h.elim (fun h=>by rw[show nO m.core.id v.o m.core.nn=G from aa.symm]at h; omega) (fun h=>by omega));exact⟨pz H.symm,b6,fun U=>L_ (H.symm.trans U) Q⟩
 refine Ln<|aZ (au (jk m.t m.tn (iU v.o v.seq) v.node))<|bP<|Ws<|ay<|av (au (jk m.t m.tn (iU v.o v.seq) v.node))<|Lv aF (kr Q)<|aC<|aK<|Wk<|sN<|ay<|av (aD (iU v.o v.seq))<|Lv (pf I 9) (je K 9)<|Lv (aD v.node) (aM nC.aI 9)<|av (.agg (aA 56 (bI (bI (fun L=>if L<2 then aD 0 else au 0) 0 1 (fun _=>aD (iU v.o v.seq))) 1 1 (fun _=>aD v.node))))<|xD 56 (fun L=>if L<2 then aD 0 else au 0) fun M w4 xW sI s5 z2 => ?_;have⟨qZ,nZ,sF,xV,sJ,sK,uV⟩:=jI s5.old pX sD nY mW nC hT1 hO1;have b7:=eO s5.old b6 u;have sP:=jE xW b6.size;have alB:=dn xW pX.lt;have EH:(.slice m.s.na (m.s.nn) (m.s.nc):Value).ownBlock≠some M:=by rw[xW]; exact sD.jw (z_ _)
 have⟨alC,alD,abT⟩:=Iy xW nC.lt hT1.lt hO1.lt;have Bl:=sI.lt;refine fI sI 0 (h1:=(bW (bW (fun jq _=>by show((fun L=>if L<2 then aD 0 else au 0:Nat->Value) jq).oneCell'=true; simp only[]; repeat (first|rfl|split)) (fun _ _=>rfl)) (fun _ _=>rfl))) fun w5 uo s6 z3 => ?_
 have tJ:aQ w5 M 56 (bI (bI (fun L=>if L<2 then aD 0 else au 0) 0 1 (fun _=>aD (iU v.o v.seq))) 1 1 (fun _=>aD v.node)) 61:=aW uo;have gM:=iw s6 sI.ty;have tK:=lN gM qZ;have wZ:=nZ.dh s6 EH;have⟨uq,sM,sO,xg,pY⟩:=qL gM sF xV sJ sK uV;have b8:=s6.below b7 (m_ u b7.size) (by omega);refine aC<|Ws ?_;have uI:aQ w5 M 56 (mD (iU v.o v.seq) v.node (fun _=>0)) 61:=tJ.congr (fun j hj=>TK j);refine Wl<|Lv (pt I) (je K 0)<|Lv (au v.o) (aM sO.aI 0)<|Lv (au a) gF<|Lv (pf I 11) (je K 11)<|Lv (au v.aT) (aM sO.aI 11)<|av (pf M 2)<|av (pf M 2)<|Lv (pf M (a+2)) (jC 6 1)<|jh uI (a+2) (au v.aT) fun w6 nL s7 z4 => ?_;have ru:aQ w6 M 56 (mD (iU v.o v.seq) v.node (upd (fun _=>0) a v.aT)) 61:=nL.to (Og (by omega));have jQ:=iw s7 uI.ty;have m64:=lN jQ tK;have uW:=wZ.dh s7 EH;have⟨uJ,wz,wB,rM,tL⟩:=qL jQ uq sM sO xg pY;have b9:=s7.below b8 (m_ u b8.size) (by omega);refine aC<|Ws ?_;have ek0:k=m.s.nn:=by omega
 obtain⟨cn0,agr,hc38⟩ : ∃ cn0,cn0=nO m.id v.o m.s.nn /\ ¬ (5:Int)<=(cn0:Int):=⟨G,by rw[<- ek0]; exact aa,c38⟩;clear aa hcl ek0;refine Wl<|aR J<|av (pt p)<|av (pt p)<|av (pf p 18)<|Lv (.slice m.s.na (m.s.nn) (m.s.nc)) (aM m64.aI 18)<|av (au m.s.nn)<|av (au m.s.nn)<|aC<|Ws ?_;refine Ar [0,1,2,3,4,5,6,7,8,9,10,11,12] [0,0,0,0,0,1,4,2,2,0,0,0,3] (iP [61]) vX Fx.iP.trans (fH := [(12,5,[5]),(7,6,[6]),(8,6,[7,6]),(12,6,[6]),(8,7,[7]),(9,7,[7]),(10,7,[7]),(11,7,[7]),(12,7,[7]),(9,8,[8]),(10,8,[8]),(11,8,[8]),(12,8,[8])]) (by kernel_rfl) (by kernel_rfl) (by kernel_rfl) (by kernel_rfl) (by kernel_rfl) fun Cx gu nJ => ?_;have⟨uK,tN,sG,xk,tO,uX,xq,xu⟩:=mP gu m64 uW uJ wz wB rM tL ru;have b10:=eO gu b9 u;refine bY J<|bY J<|aZ (pt p)<|aZ (pt p)<|aZ (pf p 18)<|Rd (v := .slice m.s.na (m.s.nn) (m.s.nc)) (by rfl) (by rfl) (vX _) (fun F E=>bB (x:=mE m) rfl rfl (by kernel_rfl) (uK.jZ E (by decide)).aI (i:=18) (by omega) (by omega) rfl) ?_;refine Rs (.agg (aA 56 (mD (iU v.o v.seq) v.node (upd (fun _=>0) a v.aT)))) (gD xu.aI 0) ?_;refine Cw<|yD (vs := [(0,.agg (aA 56 (mD (iU v.o v.seq) v.node (upd (fun _=>0) a v.aT))))]) (s:=56) (zc:=fun L=>if L<2 then aD 0 else au 0) (y:=bI (fun j=>(fun L=>if L<2 then aD 0 else au 0) (j % 56)) (0*56) 56 (mD (iU v.o v.seq) v.node (upd (fun _=>0) a v.aT))) (by rfl) rfl rfl Tryz.underlying50 (by kernel_rfl) (by rfl) (by rfl) (by kernel_rfl) (by rw[bD (off:=0*56) (s:=56) (y:=mD (iU v.o v.seq) v.node (upd (fun _=>0) a v.aT)) rfl (bH _ _) (by rfl)]; rfl) rfl fun g3 w7 xX uY s9 z5 => ?_;have⟨uL,tQ,wC,yI,xw,yJ,zF,zG⟩:=mP s9.old uK tN sG xk tO uX xq xu;have b11:=eO s9.old b10 u;have Dz:=jE xX b10.size;have alF:=dn xX uK.lt;have alG:(.slice m.s.na (m.s.nn) (m.s.nc):Value).ownBlock≠some g3:=by rw[xX]; exact tN.jw (z_ _)
 have⟨alH,abU,IX,abV⟩:=aaP xX tO.lt uX.lt xq.lt xu.lt;have LK:=uY.lt;refine Ln ⟨Fx.iP.of_below s9.old,?_⟩;refine Cw<|yZ (B:=B) (s:=56) (bytes:=448) (k:=m.s.nn) (m:=1) (v := .slice m.s.na (m.s.nn) (m.s.nc)) (x:=Jy m) (by rfl) rfl rfl rfl Tryz.underlying50 (by kernel_rfl) (by kernel_rfl) rfl rfl tQ uY.aI (wJ (vE _ _ _)) (by omega) (by omega) (by omega) (m_ u b11.size) fun l A w8 ho1 hg1 uh hlt1 => ?_;have qN:=za hg1 tQ;have⟨zk,zT,Ey,AJ,yM,zl⟩:=RB qN uL wC yI xw yJ zF;have xB:=zG.grown hg1 EH;have alI:M≠l:=fun e=>uh.elim (fun e2=>EH (by rw[e]; exact e2)) (fun e2=>by have:=zG.lt; omega);have zi:Fx.Own w8 B 61 56 (bK l (m.s.nn+1) A) (m.s.nn+1) (flat 56 (Fx.JL (fun d=>mD (m.id d) (m.par d) (m.R d)) (mD (iU v.o v.seq) v.node (upd (fun _=>0) a v.aT)) m.s.nn m.s.nn)):=(ho1.congr (fun j hj=>(Fx.xO j hj).trans (bJ (fun i V q _=>Fx.xP i V q) j hj)));have b12:Below B w w8:=yY b11 hg1 (m_ u b11.size) (fun q hq=>(tQ.ge hq).1);refine Ln ⟨qN,?_⟩;refine aZ (pt p)<|aZ (pt p)<|aZ (pf p 18)<|gI<|jh zk 18 (bK l (m.s.nn+1) A) fun w9 zW s10 z6 => ?_;have zS:=iw s10 zk.ty;have⟨Bn,DT,EG,rX,uw,sS,qQ⟩:=RD zS zT Ey AJ yM zl xB zi;have b13:=s10.below b12 (m_ u b12.size) (by omega);refine Ln<|bP<|Ws<|Wb<|Wo (fun f z => ∃ k:Nat,k<=m.s.nn/\(∀ i,k<=i->i<m.s.nn->(iU v.o v.seq)<m.id i)/\f 0=(pt p)/\f 7=aD (iU v.o v.seq)/\f 9=(pt M)/\f 10=au (k:Int)/\Fx.Own z B 66 5 (.slice m.s.ga (m.s.gn) (m.s.gc)) m.s.gn (IU m)/\wI z B 6 m/\aQ z I 14 (bQ v) 32/\aQ z m.tb 1 (fun _=>bK g9 (m.tn+1) XG) 123/\Fx.Own z B 128 2 (bK g9 (m.tn+1) XG) (m.tn+1) (rv .u64 (kN (oF m.t (down (fun i=>decide ((iU v.o v.seq)<m.t i 0)) m.tn) (iU v.o v.seq) v.node)))/\aQ z M 56 (mD (iU v.o v.seq) v.node (upd (fun _=>0) a v.aT)) 61/\aQ z p 27 (dB (mE m) 18 (bK l (m.s.nn+1) A)) 71/\Fx.Own z B 61 56 (bK l (m.s.nn+1) A) (m.s.nn+1) (flat 56 (Fx.JL (fun d=>mD (m.id d) (m.par d) (m.R d)) (mD (iU v.o v.seq) v.node (upd (fun _=>0) a v.aT)) m.s.nn k))/\Below B w z) (fun f _=>(intOf (f 10)).toNat) ⟨m.s.nn,by omega,(fun i J K=>L_ J (by omega)),J,Fx.ic,(by rfl),Fx.ic,Bn,DT,EG,rX,uw,sS,zW,qQ,b13⟩ ?_;rintro f2 um ⟨k,hk,hgt,Z,h6,h7,P,nP,nQ,oG,og,pJ,rY,vF,qR,b14⟩;refine Ws<|ay<|aR P ?_;by_cases c91:0<(k:Int)
 ·obtain⟨j,ej⟩ : ∃ j,k=j+1:=⟨k-1,by omega⟩;refine Lv aG (lW c91)<|av aG<|aR Z<|av (pt p)<|av (pt p)<|av (pf p 18)<|Lv (bK l (m.s.nn+1) A) (aM vF.aI 18 (Fx.kW (by omega)))<|aR P<|Lv (au j) gF<|Lv (pf l (56*j)) (cZ 56)<|av (pf l (56*j))<|Lv (aD (m.id j)) (aM qR.aI (56*j) (Fx.dF (k:=j) (j:=0) (by omega) (by omega) ((congrFun (Fx.zy (by omega) (by omega)) 0).trans rfl)))<|aR h6 ?_;by_cases XH:(iU v.o v.seq)<(m.id j)
  ·refine Lv aG (lW XH)<|av aG<|aC<|aO<|Wk<|sN<|Wb<|Ws ?_;refine jO [0,1,2,3,5,6,7,8,9,11,12,4,10,13,14,15,16] [0,0,0,0,4,0,0,0,0,0,4,0,0,0,4,0,3] [(16,4,[4]),(16,10,[10]),(16,14,[14])] fun QW lK Ay => ?_;have⟨uy,zm,vG,zn,BI,xH,uz,qw⟩:=mP lK nP nQ oG og pJ rY vF qR;have b15:=eO lK b14 u;refine bY Z<|aZ (pt p)<|aZ (pt p)<|aZ (pf p 18)<|bY P<|bY Z<|aZ (pt p)<|aZ (pt p)<|aZ (pf p 18)<|bY P<|Rp (au j) (fun _=>gF)<|Rs (bK l (m.s.nn+1) A) (aM uz.aI 18 (Fx.kW (by omega))) ?_;refine Rs (bK l (m.s.nn+1) A) (aM uz.aI 18 (Fx.kW (by omega))) ?_;refine Rp (pf l (56*j)) (fun _=>cZ 56)<|Rs (.agg (aA 56 (mD (m.id j) (m.par j) (m.R j)))) (gD qw.aI (56*j) (fun jq hjq=>(Fx.kY (k:=j) (by omega) hjq).trans (congrFun (Fx.zy (by omega) (by omega)) jq))) ?_;refine Rp (pf l (56*k)) (fun _=>cZ 56)<|gI<|zP qw (56*k) (h1:=(fun j _=>vE _ _ _ j)) fun Ev xZ s12 z7 => ?_;have zf:=iw s12 qw.JK;have⟨yc,uD,BJ,IY,EI⟩:=qL zf uy zm vG zn BI;have AL:=xH.dh s12 (by omega);have EJ:=lN zf uz;have b16:=s12.below b15 (m_ u b15.size) qw.blk.1;have Ga:Fx.Own Ev B 61 56 (bK l (m.s.nn+1) A) (m.s.nn+1) (flat 56 (Fx.JL (fun d=>mD (m.id d) (m.par d) (m.R d)) (mD (iU v.o v.seq) v.node (upd (fun _=>0) a v.aT)) m.s.nn j)):=xZ.congr (fun T S=>(Fx.uQ (k:=k) (by omega) T S).trans (bJ (fun i V q _=>Fx.yE ej (by omega) i V q) T S));refine Ln<|bP<|Wl<|aR P<|Lv (au j) gF<|av (au j)<|Ln<|bM<|fZ ⟨j,by omega,(TL ej hgt XH),Z,(h6.trans Fx.ic),h7,Fx.ic,yc,uD,BJ,IY,EI,AL,EJ,Ga,b16⟩ ?_;show(intOf (au j)).toNat<_;simp only[P,intOf]; omega
  refine Lv aF (lX XH)<|av aF<|aC<|aK<|Wx<|cB<|gG<|cK<|sN<|Ws ?_;refine jO [0,1,2,3,5,4,6,7,8] [0,0,0,0,4,0,4,0,3] [(8,4,[4]),(8,6,[6])] fun wt4 qB GA => ?_;have⟨BK,zX,Kv,EK,EL,Gb,Gc⟩:=jI qB nP nQ og pJ rY vF qR;have b17:=eO qB b14 u;refine bY Z<|aZ (pt p)<|aZ (pt p)<|aZ (pf p 18)<|bY P<|Rs (bK l (m.s.nn+1) A) (aM Gb.aI 18 (Fx.kW (by omega))) ?_;refine Rs (.agg (aA 56 (mD (iU v.o v.seq) v.node (upd (fun _=>0) a v.aT)))) (gD EL.aI 0 (ha:=h7)) ?_;refine Rp (pf l (56*k)) (fun _=>cZ 56)<|gI<|zP Gc (56*k) (h1:=(fun j _=>vE _ _ _ j)) fun Dn BL Dm z8 => ?_;have zh:=iw Dm Gc.JK;have⟨EM,BM,EN,zY⟩:=Mf zh BK zX Kv EK;have BN:=EL.dh Dm (by omega);have AO:=lN zh Gb;have b18:=Dm.below b17 (m_ u b17.size) Gc.blk.1;have IZ:Fx.Own Dn B 61 56 (bK l (m.s.nn+1) A) (m.s.nn+1) (flat 56 (Fx.Ir (fun d=>mD (m.id d) (m.par d) (m.R d)) k (mD (iU v.o v.seq) v.node (upd (fun _=>0) a v.aT)))):=BL.congr (fun T S=>(Fx.uQ (k:=k) (by omega) T S).trans (bJ (fun i V q _=>Fx.tu (by omega) i V q) T S));refine Ln<|bP<|ay<|av (au 0)<|aC<|Wr<|aJ (au 0) ?_;have H:jV m.core v=jk m.t m.tn (iU v.o v.seq) v.node:=b_ (fun h=>h.elim (fun h=>by rw[show nO m.core.id v.o m.core.nn=cn0 from agr.symm]at h; omega) (fun h=>by omega));have N:k=rU m.id m.s.nn (iU v.o v.seq):=Fx.oK hk (fun i a b=>f_ (hgt i a b)) (.inr (fun j2 e=>by rw[show j2=j by omega]; exact g_ XH));have TR:Fx.Own Dn B 61 56 (bK l (m.s.nn+1) A) (m.s.nn+1) (flat 56 fun d=>mD (cO m.id k (iU v.o v.seq) d) (cO m.par k v.node d) (cO m.R k (upd (fun _=>0) a v.aT) d)):=by rw[<- Oh]; exact IZ
  have eR:(upd (fun _=>0) a v.aT)=upd (fun _=>0) (v.o-1).toNat v.aT:=by rw[show(v.o-1).toNat=a by omega]
  have bn9:m.tn+1<=33:=Ku Q;refine⟨pz (Q.symm.trans H.symm),b18,fun _=>⟨{ m with s := { m.s with na:=some ⟨l,0,none⟩,nn:=m.s.nn+1,nc:=A },id:=cO m.id k (iU v.o v.seq),par:=cO m.par k v.node,R:=cO m.R k (upd (fun _=>0) a v.aT),ta:=some ⟨g9,0,none⟩,tn:=m.tn+1,tc:=XG,t:=oF m.t (down (fun i=>decide ((iU v.o v.seq)<m.t i 0)) m.tn) (iU v.o v.seq) v.node },?_,?_⟩⟩
  ·unfold qp; rw[show rU m.core.id m.core.nn (iU v.o v.seq)=k from N.symm,<- eR]; rfl
  exact { c:=AO.to (GQ m _ _ _),n:=TR,g:=EM,tc:=EN,t:=zY,r:=BM,pB:=TQ,tB:=Dq,bn:=(by have:=bnn; show m.s.nn+1<=1000; omega),bg:=bg,bt:=(by show m.tn+1<=1000; omega),br:=C.br }
 refine Lv aF (lX c91)<|av aF<|bX<|bX<|bX<|bX<|bX<|bX<|bX<|bX<|bX<|bX<|bX<|bX<|av aF<|aC<|aK<|Wx<|cB<|gG<|cK<|sN<|Ws ?_;refine jO [0,1,2,3,5,4,6,7,8] [0,0,0,0,4,0,4,0,3] [(8,4,[4]),(8,6,[6])] fun wt5 zD Sj => ?_;have⟨TS,TT,TU,abW,TV,PZ,TW⟩:=jI zD nP nQ og pJ rY vF qR;have b19:=eO zD b14 u;refine bY Z<|aZ (pt p)<|aZ (pt p)<|aZ (pf p 18)<|bY P<|Rs (bK l (m.s.nn+1) A) (aM PZ.aI 18 (Fx.kW (by omega))) ?_;refine Rs (.agg (aA 56 (mD (iU v.o v.seq) v.node (upd (fun _=>0) a v.aT)))) (gD TV.aI 0 (ha:=h7)) ?_;refine Rp (pf l (56*k)) (fun _=>cZ 56)<|gI<|zP TW (56*k) (h1:=(fun j _=>vE _ _ _ j)) fun GD TY s16 z9 => ?_;have AB:=iw s16 TW.JK;have⟨abX,abY,P5,abZ⟩:=Mf AB TS TT TU abW;have ags:=TV.dh s16 (by omega);have acd:=lN AB PZ;have b20:=s16.below b19 (m_ u b19.size) TW.blk.1;have ace:Fx.Own GD B 61 56 (bK l (m.s.nn+1) A) (m.s.nn+1) (flat 56 (Fx.Ir (fun d=>mD (m.id d) (m.par d) (m.R d)) k (mD (iU v.o v.seq) v.node (upd (fun _=>0) a v.aT)))):=TY.congr (fun T S=>(Fx.uQ (k:=k) (by omega) T S).trans (bJ (fun i V q _=>Fx.tu (by omega) i V q) T S));refine Ln<|bP<|ay<|av (au 0)<|aC<|Wr<|aJ (au 0) ?_;have H:jV m.core v=jk m.t m.tn (iU v.o v.seq) v.node:=b_ (fun h=>h.elim (fun h=>by rw[show nO m.core.id v.o m.core.nn=cn0 from agr.symm]at h; omega) (fun h=>by omega));have N:k=rU m.id m.s.nn (iU v.o v.seq):=Fx.oK hk (fun i a b=>f_ (hgt i a b)) (.inl (by omega));have acf:Fx.Own GD B 61 56 (bK l (m.s.nn+1) A) (m.s.nn+1) (flat 56 fun d=>mD (cO m.id k (iU v.o v.seq) d) (cO m.par k v.node d) (cO m.R k (upd (fun _=>0) a v.aT) d)):=by rw[<- Oh]; exact ace
 have eR:(upd (fun _=>0) a v.aT)=upd (fun _=>0) (v.o-1).toNat v.aT:=by rw[show(v.o-1).toNat=a by omega]
 have bn9:m.tn+1<=33:=Ku Q;refine⟨pz (Q.symm.trans H.symm),b20,fun _=>⟨{ m with s := { m.s with na:=some ⟨l,0,none⟩,nn:=m.s.nn+1,nc:=A },id:=cO m.id k (iU v.o v.seq),par:=cO m.par k v.node,R:=cO m.R k (upd (fun _=>0) a v.aT),ta:=some ⟨g9,0,none⟩,tn:=m.tn+1,tc:=XG,t:=oF m.t (down (fun i=>decide ((iU v.o v.seq)<m.t i 0)) m.tn) (iU v.o v.seq) v.node },?_,?_⟩⟩
 ·unfold qp; rw[show rU m.core.id m.core.nn (iU v.o v.seq)=k from N.symm,<- eR]; rfl
 exact { c:=acd.to (GQ m _ _ _),n:=acf,g:=abX,tc:=P5,t:=abZ,r:=abY,pB:=TQ,tB:=Dq,bn:=(by have:=bnn; show m.s.nn+1<=1000; omega),bg:=bg,bt:=(by show m.tn+1<=1000; omega),br:=C.br }
namespace Rt
theorem nR(x:Nat->Int)(n:Int)(is:Bool)(a:Int)(off:Nat) :
 ((bT x n is a off).1=zero/\(bT x n is a off).2≠0 /\ ¬ (may x=true/\1<=n/\n<=1125899906842624/\is=true/\a=0/\x off+n<=1125899906842624)) \/
 ((may x=true/\1<=n/\n<=1125899906842624/\is=true/\a=0/\x off+n<=1125899906842624)/\bT x n is a off=(upd x off (x off+n),0)):=by
 unfold bT;by_cases f:may x=true
 ·by_cases c:1<=n
  ·by_cases d:n<=1125899906842624
   ·rw[f,f_ c,f_ d];simp only[Bool.and_self,if_true]
    cases is
    ·left; exact⟨rfl,(by show(10:Int)≠0; decide),fun h=>by cases h.2.2.2.1⟩
    by_cases b:a=0
    ·by_cases e:x off+n<=1125899906842624
     ·right; exact⟨⟨trivial,c,d,rfl,b,e⟩,by rw[d_ rfl,d_ b,d_ e]⟩
     left; rw[d_ rfl,d_ b,b_ e]; exact⟨rfl,by decide,fun h=>e h.2.2.2.2.2⟩
    left; rw[d_ rfl,b_ b]; exact⟨rfl,b,fun h=>b h.2.2.2.2.1⟩
   left; rw[g_ d,H_,b_ (by decide)]; exact⟨rfl,by decide,fun h=>d h.2.2.1⟩
  left; rw[g_ c,H_,Bool.false_and,b_ (by decide)]; exact⟨rfl,by decide,fun h=>c h.2.1⟩
 left; rw[show may x=false by simpa using f,Bool.false_and,Bool.false_and,b_ (by decide)]; exact⟨rfl,by decide,fun h=>by cases h.1⟩
theorem MJ{x:Nat->Int}(h:PU x){off:Nat}{n:Int}(h1:1<=n)(c:x off+n<=1125899906842624)(a:off<54):PU (upd x off (x off+n)):=by
 intro p b;unfold upd;split
 ·have:=h off a; omega
 exact h p b
theorem oP{i:Int}(h:gK i=true) : ∃ a:Nat,a<6/\i=(a:Int)+1/\i.toNat-1=a:=by
 have:1<=i/\i<=6:=by unfold gK at h; simpa using h
 exact⟨(i-1).toNat,by omega,by omega,by omega⟩
structure Moved(x y:Nat->Int)(a b:Nat)(n:Int):Prop where
 may:may y=true
 l : ∀ k,k<6->L y k=L x k+(if k=b then n else 0)-(if k=a then n else 0)
 g:qo y=qo x
 u:ni y=ni x
theorem AP{x:Nat->Int}{i j n:Int}(h:(dw x i j n).2=0) : ∃ a b:Nat,a<6/\b<6/\a≠b/\i=(a:Int)+1/\j=(b:Int)+1/\1<=n/\n<=1125899906842624/\n<=L x a/\Moved x (dw x i j n).1 a b n/\(dw x i j n).1=upd x (18+a*6+b) (x (18+a*6+b)+n):=by
 unfold dw at *
 rcases nR x n (gK i&&gK j) (nN x i j n) (kL i j)with ⟨_,f,_⟩|⟨⟨hm,h1,f,hr,he,hx⟩,heq⟩
 ·exact L_ h f
 rw[R_]at hr;obtain⟨a,g,l,D⟩:=oP hr.1;obtain⟨b,m,q,E⟩:=oP hr.2;have s:kL i j=18+a*6+b:=by unfold kL; rw[D,E]
 rw[s]at heq hx;rw[s];have B:a≠b:=by
  intro z;unfold nN at he;rw[d_ (by rw[l,q,z])]at he
  cases he
 have y:n<=L x a:=by
  unfold nN at he;rw[b_ (by omega)]at he;by_cases d:fC x i<n
  ·rw[f_ d]at he; cases he
  ·rw[l,mo hm a g]at d; omega
 obtain⟨e,t,w⟩:=(jK x).1 hm;have d:=abL x a b g m n;have c : ∀ p,p<18->upd x (18+a*6+b) (x (18+a*6+b)+n) p=x p:=fun p I=>gy _ _ _ _ (by omega);have o:qo (upd x (18+a*6+b) (x (18+a*6+b)+n))=qo x:=by unfold qo G; rw[c 0 (by omega),c 1 (by omega),c 2 (by omega),c 3 (by omega),c 4 (by omega),c 5 (by omega)]
 have A:(bT x n (gK i&&gK j) (nN x i j n) (18+a*6+b)).1=upd x (18+a*6+b) (x (18+a*6+b)+n):=by rw[heq]
 rw[A];refine⟨a,b,g,m,B,l,q,h1,f,y,⟨?_,d,o,?_⟩,rfl⟩
 ·rw[jK];refine⟨MJ e h1 hx (by omega),fun k r => ?_,by rw[o]; exact w⟩;obtain⟨H,u,v⟩:=t k r;refine⟨?_,?_,?_⟩
  ·rw[d k r];split
   ·split <;> omega
   split
   ·rename_i hka; subst hka; omega
   omega
  ·unfold F C at *; rw[c _ (by omega),c _ (by omega)]; exact u
  unfold R at *; rw[gy _ _ _ _ (by omega)]; exact v
 unfold ni C F; simp only[c _ (show 6+0<18 by omega),c _ (show 6+1<18 by omega),c _ (show 6+2<18 by omega),c _ (show 6+3<18 by omega),c _ (show 6+4<18 by omega),c _ (show 6+5<18 by omega),c _ (show 12+0<18 by omega),c _ (show 12+1<18 by omega),c _ (show 12+2<18 by omega),c _ (show 12+3<18 by omega),c _ (show 12+4<18 by omega),c _ (show 12+5<18 by omega)]
theorem EO(x:Nat->Int)(off:Nat)(c:off<18)(v:Int)(a b:Nat):R (upd x off v) a b=R x a b:=gy _ _ _ _ (by omega)
theorem Ua(x:Nat->Int)(off:Nat)(a:off<18)(v:Int)(k:Nat):L (upd x off v) k=L x k+(G (upd x off v) k-G x k)+(F (upd x off v) k-F x k)-(C (upd x off v) k-C x k):=by
 unfold L;simp only[EO x off a v];omega
theorem agt(x:Nat->Int)(a:Nat)(n:Int)(k:Nat):C (upd x (6+a) (x (6+a)+n)) k=C x k+(if k=a then n else 0):=by
 unfold C upd;by_cases h:k=a
 ·subst h; simp
 rw[b_ (by omega),b_ h]; omega
theorem agu(x:Nat->Int)(a:Nat)(n:Int)(k:Nat):F (upd x (12+a) (x (12+a)+n)) k=F x k+(if k=a then n else 0):=by
 unfold F upd;by_cases h:k=a
 ·subst h; simp
 rw[b_ (by omega),b_ h]; omega
theorem agv(x:Nat->Int)(a:Nat)(n:Int)(k:Nat):G (upd x a (x a+n)) k=G x k+(if k=a then n else 0):=by
 unfold G upd;by_cases h:k=a
 ·subst h; simp
 rw[b_ h,b_ h]; omega
theorem six(a:Nat)(ha:a<6)(n:Int):(if 0=a then n else 0)+(if 1=a then n else 0)+(if 2=a then n else 0)+(if 3=a then n else 0)+(if 4=a then n else 0)+(if 5=a then n else 0)=n:=by
 have:a=0\/a=1\/a=2\/a=3\/a=4\/a=5:=by omega
 rcases this with h|h|h|h|h|h <;> subst h <;> simp
theorem I4{x:Nat->Int}{i n:Int}(h:(bC x i n).2=0) : ∃ a:Nat,a<6/\i=(a:Int)+1/\1<=n/\n<=1125899906842624/\n<=L x a/\C x a+n<=1125899906842624/\may (bC x i n).1=true /\
 (∀ k,k<6->L (bC x i n).1 k=L x k-(if k=a then n else 0))/\qo (bC x i n).1=qo x/\ni (bC x i n).1=ni x+n/\(bC x i n).1=upd x (6+a) (x (6+a)+n):=by
 unfold bC at *
 rcases nR x n (gK i) (qC x i n) (6+(i.toNat-1))with ⟨_,j,_⟩|⟨⟨hm,h1,j,hr,he,hx⟩,heq⟩
 ·exact L_ h j
 obtain⟨a,l,o,p⟩:=oP hr;rw[p]at heq hx;rw[p];have t:n<=L x a:=by
  unfold qC at he;by_cases g:fC x i<n
  ·rw[f_ g]at he; cases he
  ·rw[o,mo hm a l]at g; omega
 obtain⟨e,q,s⟩:=(jK x).1 hm;have u:(bT x n (gK i) (qC x i n) (6+a)).1=upd x (6+a) (x (6+a)+n):=by rw[heq]
 rw[u];have b:=agt x a n;have f : ∀ k,k<6->G (upd x (6+a) (x (6+a)+n)) k=G x k:=fun k d=>gy _ _ _ _ (by omega);have c : ∀ k,k<6->F (upd x (6+a) (x (6+a)+n)) k=F x k:=fun k d=>gy _ _ _ _ (by omega);have g : ∀ k,k<6->L (upd x (6+a) (x (6+a)+n)) k=L x k-(if k=a then n else 0):=by
  intro k d;rw[Ua x (6+a) (by omega),f k d,c k d,b k]; omega
 have m:qo (upd x (6+a) (x (6+a)+n))=qo x:=by unfold qo; rw[f 0 (by omega),f 1 (by omega),f 2 (by omega),f 3 (by omega),f 4 (by omega),f 5 (by omega)]
 refine⟨a,l,o,h1,j,t,hx,?_,g,m,?_,rfl⟩
 ·rw[jK];refine⟨MJ e h1 hx (by omega),fun k d => ?_,by rw[m]; exact s⟩;obtain⟨v,w,r⟩:=q k d;refine⟨?_,?_,?_⟩
  ·rw[g k d];split
   ·rename_i hka; subst hka; omega
   omega
  ·rw[c k d,b k]; split <;> omega
  rw[EO x (6+a) (by omega)]; exact r
 unfold ni;rw[c 0 (by omega),c 1 (by omega),c 2 (by omega),c 3 (by omega),c 4 (by omega),c 5 (by omega),b 0,b 1,b 2,b 3,b 4,b 5];have:=six a l n;omega
theorem I5{x:Nat->Int}{i n:Int}(h:(bF x i n).2=0) : ∃ a:Nat,a<6/\i=(a:Int)+1/\1<=n/\n<=1125899906842624/\n<=C x a-F x a/\may (bF x i n).1=true /\
 (∀ k,k<6->L (bF x i n).1 k=L x k+(if k=a then n else 0))/\qo (bF x i n).1=qo x/\ni (bF x i n).1=ni x-n/\(bF x i n).1=upd x (12+a) (x (12+a)+n):=by
 unfold bF at *
 rcases nR x n (gK i) (qD x i n) (12+(i.toNat-1))with ⟨_,j,_⟩|⟨⟨hm,h1,j,hr,he,hx⟩,heq⟩
 ·exact L_ h j
 obtain⟨a,m,u,l⟩:=oP hr;rw[l]at heq hx;rw[l];have s:n<=C x a-F x a:=by
  unfold qD at he;rw[l]at he;by_cases g:C x a-F x a<n
  ·rw[f_ g]at he; cases he
  ·omega
 obtain⟨e,p,r⟩:=(jK x).1 hm;have t:(bT x n (gK i) (qD x i n) (12+a)).1=upd x (12+a) (x (12+a)+n):=by rw[heq]
 rw[t];have c:=agu x a n;have f : ∀ k,k<6->G (upd x (12+a) (x (12+a)+n)) k=G x k:=fun k d=>gy _ _ _ _ (by omega);have b : ∀ k,k<6->C (upd x (12+a) (x (12+a)+n)) k=C x k:=fun k d=>gy _ _ _ _ (by omega);have g : ∀ k,k<6->L (upd x (12+a) (x (12+a)+n)) k=L x k+(if k=a then n else 0):=by
  intro k d;rw[Ua x (12+a) (by omega),f k d,c k,b k d]; omega
 have o:qo (upd x (12+a) (x (12+a)+n))=qo x:=by unfold qo; rw[f 0 (by omega),f 1 (by omega),f 2 (by omega),f 3 (by omega),f 4 (by omega),f 5 (by omega)]
 refine⟨a,m,u,h1,j,s,?_,g,o,?_,rfl⟩
 ·rw[jK];refine⟨MJ e h1 hx (by omega),fun k d => ?_,by rw[o]; exact r⟩;obtain⟨v,w,q⟩:=p k d;refine⟨?_,?_,?_⟩
  ·rw[g k d]; split <;> omega
  ·rw[c k,b k d];split
   ·rename_i hka; subst hka; omega
   omega
  rw[EO x (12+a) (by omega)]; exact q
 unfold ni;rw[b 0 (by omega),b 1 (by omega),b 2 (by omega),b 3 (by omega),b 4 (by omega),b 5 (by omega),c 0,c 1,c 2,c 3,c 4,c 5];have:=six a m n;omega
end Rt
section
namespace Rt
def dz(f:(Nat->Int)->(Nat->Int) × Int)(idx:Nat->Nat)(R:Nat->Nat->Int):Nat->(Nat->Nat->Int) × Int
 | 0=>(R,0)
 | j+1=>if(dz f idx R j).2=0 then(if(f ((dz f idx R j).1 (idx j))).2=0 then(aH (dz f idx R j).1 (idx j) (f ((dz f idx R j).1 (idx j))).1,0)else((dz f idx R j).1,(f ((dz f idx R j).1 (idx j))).2))else dz f idx R j
section
variable {f:(Nat->Int)->(Nat->Int) × Int} {idx:Nat->Nat} {R Rk:Nat->Nat->Int} {k q:Nat}
theorem EP(h:dz f idx R k=(Rk,0))(e:idx k=q)(a:(f (Rk q)).2=0):dz f idx R (k+1)=(aH Rk q (f (Rk q)).1,0):=by
 unfold dz; rw[h,d_ rfl,e,d_ a]
theorem GR(h:dz f idx R k=(Rk,0))(e:idx k=q)(a : ¬ (f (Rk q)).2=0):(dz f idx R (k+1)).2=(f (Rk q)).2:=by
 unfold dz; rw[h,d_ rfl,e,b_ a]
theorem zZ(a : ¬ (dz f idx R k).2=0) : ∀ n,k<=n->dz f idx R n=dz f idx R k
 | 0,h=>by obtain rfl:k=0:=by omega
           rfl
 | n+1,h=>by
   by_cases e:k=n+1
   ·rw[e]
   ·have:=zZ a n (by omega);rw[dz,this,b_ a]
end
def lead(P:Nat->Bool):Nat->Nat
 | 0=>0
 | n+1=>if lead P n=n/\P n=true then n+1 else lead P n
theorem DU(P:Nat->Bool) : ∀ n,lead P n<=n
 | 0=>z_ _
 | n+1=>by
   unfold lead; split
   ·exact z_ _
   ·have:=DU P n; omega
theorem Kw{P:Nat->Bool} : ∀ {n:Nat},(∀ i,i<n->P i=true)->lead P n=n
 | 0,_=>rfl
 | n+1,h=>by unfold lead; rw[d_ ⟨Kw fun i a=>h i (by omega),h n (by omega)⟩]
theorem Oi{P:Nat->Bool}{K:Nat}(h1 : ∀ i,i<K->P i=true)(a:P K=false) : ∀ {n:Nat},K<=n->lead P n=K
 | 0,h=>by unfold lead; omega
 | n+1,h=>by
   unfold lead;by_cases e:K=n+1
   ·rw[d_ ⟨Kw fun i d=>h1 i (by omega),h1 n (by omega)⟩]; exact e.symm
   ·rw[Oi h1 a (n:=n) (by omega),b_];rintro ⟨c,b⟩;subst c; rw[a]at b; cases b
def bV(t:Nat->Nat->Int)(tn:Nat)(x:Int):Nat:=lead (fun i=>decide (0<=bE t tn (bf t tn i x))) 1000
theorem vH{t:Nat->Nat->Int}{tn K D:Nat}{x:Int}(h1 : ∀ i,i<K->0<=bE t tn (bf t tn i x))(c:bE t tn (bf t tn K x)<0)(d:bE t tn (bf t tn D x)<0)(e:D<=1000):K=bV t tn x:=by
 have a:K<=1000:=by
  rcases Nat.lt_or_ge D K with h|h
  ·have:=h1 D h; omega
  ·omega
 exact(Oi (fun i b=>f_ (h1 i b)) (g_ (by omega)) a).symm
end Rt
def fQ.node(L:fQ)(x:Int):Int:=gW (fun i=>decide (L.id i=x)) L.nn
def fQ.grant(L:fQ)(o r:Int):Int:=gW (fun i=>decide (L.g i 0=o)&&decide (L.g i 1=r)) L.gn
def fQ.kP(L:fQ)(a:Nat)(r:Int):Int:=gW (fun i=>decide (L.rq a i=r)) (L.rn a)
namespace Rt
def oh(L:fQ)(x:Int)(i:Nat):Nat:=(L.node (bf L.t L.tn i x)).toNat
def qb(v:EvM):Nat->Int:=fun j=>if j=0 then v.o else if j=1 then v.req else if j=2 then v.node else if j=3 then v.aT else 0
def ER(v:EvM)(x:Nat->Int):Bool:=decide (v.o<x 0) || (decide (x 0=v.o)&&decide (v.req<x 1))
def aL(v:EvM):Nat:=(v.o-1).toNat
def mU(L:fQ)(v:EvM):(Nat->Nat->Int) × Int:=dz (fun x=>bC x v.o v.aT) (oh L v.node) L.R (bV L.t L.tn v.node)
def iQ(L:fQ)(v:EvM):Int:=if 0<=L.kP (aL v) v.req then 14 else if bV L.t L.tn v.node=0 then 9 else(mU L v).2
def qx(L:fQ)(a:Nat)(r:Int):fQ := { L with rn:=aH L.rn a (L.rn a+1),rq:=aH L.rq a (aH (L.rq a) (L.rn a) r) }
def lS(L:fQ)(v:EvM):fQ :=
 qx { L with R:=(mU L v).1,gn:=L.gn+1,g:=cO L.g (down (fun i=>ER v (L.g i)) L.gn) (qb v) } (aL v) v.req
theorem BO{n q:Nat}{id par:Nat->Int}{R:Nat->Nat->Int}{r:Nat->Int} : ∀ i,i<n -> ∀ j,j<56->Fx.qK (fun a=>mD (id a) (par a) (R a)) q (bI (mD (id q) (par q) (R q)) 2 54 (rv .i64 r)) i j=mD (id i) (par i) (aH R q r i) j:=fun i _ j d=>by
 unfold Fx.qK aH;by_cases h:i=q
 ·subst h;rw[d_ rfl,d_ rfl];unfold bI mD rv;by_cases b:j=0
  ·subst b; rfl
  ·by_cases c:j=1
   ·subst c; rfl
   ·rw[d_ (by omega),b_ b,b_ c]
 ·rw[b_ h,b_ h]
theorem XI{g:Nat->Nat->Int}{k:Nat}{x:Nat->Int}:Fx.Ir (fun a=>iZ (g a)) k (iZ x)=fun a=>iZ (cO g k x a):=by
 funext i
 unfold Fx.Ir cO;by_cases h:i<k
 ·simp only[d_ h]
 by_cases b:i=k
 ·simp only[b_ h,d_ b]
 simp only[b_ h,b_ b]
theorem MK(m:lD)(a:Option Addr)(n c:Nat):dB (mE m) 19 (.slice a n c)=mE { m with s := { m.s with ga:=a,gn:=n,gc:=c } }:=by
 funext p
 unfold dB mE;by_cases h:p=19
 ·subst h; rfl
 rw[b_ h];by_cases e:p<20
 ·rw[d_ e,d_ e]; unfold pI;by_cases b:p<6
  ·rw[d_ b,d_ b]
  by_cases d:p<12
  ·rw[b_ b,d_ d,b_ b,d_ d]
  by_cases f:p<18
  ·rw[b_ b,b_ d,d_ f,b_ b,b_ d,d_ f]
  rw[b_ b,b_ d,b_ f,d_ (by omega),b_ b,b_ d,b_ f,d_ (by omega)]
 rw[b_ e,b_ e]
theorem Ky(m:lD){i q:Nat}(f:q=i+21)(a:Option Addr)(n c:Nat):dB (mE m) q (.slice a n c)=mE { m with ra:=aH m.ra i a,rn:=aH m.rn i n,rc:=aH m.rc i c }:=by
 subst f
 funext p
 unfold dB mE;by_cases h:p=i+21
 ·subst h;rw[d_ rfl,b_ (by omega),b_ (by omega),Nat.add_sub_cancel];simp[aH]
 rw[b_ h];by_cases b:p<20
 ·rw[d_ b,d_ b]
 rw[b_ b,b_ b];by_cases d:p=20
 ·rw[d_ d,d_ d]
 rw[b_ d,b_ d];have e : ¬ p-21=i:=by omega
 simp[aH,e]
theorem wI.app{w w':World}{B a g cap:Nat}{r:Int}{m d:lD}(h:wI w B 6 m)(_ha:a<6)(h1:d.ra=aH m.ra a (some ⟨g,0,none⟩))(l:d.rn=aH m.rn a (m.rn a+1))(t:d.rc=aH m.rc a cap)(u:d.rq=aH m.rq a (aH (m.rq a) (m.rn a) r))
 (z:Fx.Own w' B 28 1 (bK g (m.rn a+1) cap) (m.rn a+1) (rv .u64 (aH (m.rq a) (m.rn a) r))) (A:w.grownBy w' (sQ m a).ownBlock) (C:(sQ m a).ownBlock=some g\/g=w.heap.size):wI w' B 6 d:=by
 have k : ∀ i,i≠a->sQ d i=sQ m i:=fun i c=>by unfold sQ; rw[h1,l,t]; simp[aH,c]
 have n:sQ d a=bK g (m.rn a+1) cap:=by unfold sQ; rw[h1,l,t]; simp[aH]
 have y : ∀ i,i<6->i≠a -> ∀ q,(sQ m i).ownBlock=some q->q≠g:=fun i c D q b e=>by
  subst e
  rcases C with f|f
  ·exact h.2 i a c _ha D q b f
  ·have:=((h.1 i c).ge b).2; omega
 refine⟨fun i c => ?_,fun i j c v p q b => ?_⟩
 ·by_cases e:i=a
  ·subst e; rw[n,l,u]; simp only[aH,if_true]; exact z
  rw[k i e,l,u];simp only[aH,b_ e];refine World.ownsRow.kept (h.1 i c) A ?_;by_cases x:(sQ m i).ownBlock=none
  ·exact .inl x
  right;intro f
  cases b:(sQ m i).ownBlock with
  | none=>exact x b
  | some q=>rw[b]at f; exact h.2 i a c _ha e q b f.symm
 by_cases e:i=a
 ·subst e;rw[n]at b;rw[k j (fun e=>p e.symm)];intro o;exact y j v (fun e=>p e.symm) q o (B_ b).symm
 rw[k i e]at b;by_cases s:j=a
 ·subst s; rw[n]; intro o; exact y i c e q b (B_ o).symm
 rw[k j s]; exact h.2 i j c v p q b
end Rt
end
def Jz(a:World)(l:List (Nat × (Nat->Int)))(w':World):Prop:=(∀ p∈l,w'.heap[p.1]? = some (.cells (aS .i64 54 p.2) 59 (0,0)))/\Below a.heap.size a w'
theorem Jz.up{b w w':World}{l:List (Nat × (Nat->Int))}(h:Jz b l w)(a:Below w.heap.size w w'):Jz b l w':=⟨fun p c=>Rq (h.1 p c) a,Jt h.2 a⟩
instance {a w w':World} {l:List (Nat × (Nat->Int))}:Rt.Tr w w' (Jz a l w) (Jz a l w'):=⟨fun b h=>h.up b⟩
theorem Jz.drew{a w:World}{l:List (Nat × (Nat->Int))}(h:Jz a l w):Jz a l w.drew:=⟨h.1,bN h.2 1⟩
theorem Jz.drop{a w:World}{p:Nat × (Nat->Int)}{l:List (Nat × (Nat->Int))}(h:Jz a (p::l) w):Jz a l w:=⟨fun q b=>h.1 q (by simp[b]),h.2⟩
theorem Jz.row{b w:World}{l:List (Nat × (Nat->Int))}(h:Jz b l w)(g:Nat)(x:Nat->Int)(a:(g,x)∈l):w.heap[g]? = some (.cells (aS .i64 54 x) 59 (0,0)):=h.1 (g,x) a
theorem Jz.add{b w:World}{l:List (Nat × (Nat->Int))}(h:Jz b l w){g:Nat}{x:Nat->Int}(c:w.heap[g]? = some (.cells (aS .i64 54 x) 59 (0,0))):Jz b ((g,x)::l) w :=
 ⟨fun p a=>by
  rcases List.mem_cons.1 a with rfl|a
  ·exact c
  ·exact h.1 p a,h.2⟩
theorem Jz.start(w:World)(x:Nat->Int):Jz w [(w.heap.size,x)] (w.alloc (.cells (aS .i64 54 x) 59)):=⟨fun p a=>by
 obtain rfl:p=(w.heap.size,x):=by simpa using a
 exact heap_alloc_new w _,(Below.refl _ _).alloc (z_ _) _⟩
namespace Rt
def vI(x:Nat->Int)(k:Nat):Nat->Int
 | 0=>G x k-C x k+F x k
 | j+1=>vI x k j+R x j k-R x k j
theorem acg(x:Nat->Int)(k:Nat):vI x k 6=L x k:=by simp only[vI,L]; omega
theorem Oj{x:Nat->Int}(h:PU x)(k:Nat)(d:k<6) : ∀ j:Nat,j<=6 -> -(1125899906842624*((j:Int)+1))<=vI x k j/\vI x k j<=1125899906842624*((j:Int)+2)
 | 0,_=>by
   have a:=h k (by omega); have b:=h (6+k) (by omega); have c:=h (12+k) (by omega);simp only[vI,G,C,F]; omega
 | j+1,hj=>by
   have:=Oj h k d j (by omega);have a:=h (18+j*6+k) (by omega); have b:=h (18+k*6+j) (by omega);simp only[vI,R]; omega
end Rt
theorem mY(n:Int)(w:World) :
 Calls Tryz.prog 113 #[au n] w fun e w'=>e = .returned (.bool (zR n))/\w'=w:=by
 refine Kent Tryz.func113 9 ?_;refine ay<|av aF<|aC<|ay<|av (au n) ?_;by_cases a:0<=n
 ·refine Lv aG (ko a)<|av aG<|av (au n) ?_;by_cases b:n<=1125899906842624
  ·refine Lv aG (mZ b)<|av aG<|av aG<|aC<|Wr<|aJ aG ?_;exact⟨gY (by simp only[zR]; first|(symm; simp; omega)|(symm; simp; done)),rfl⟩
  refine Lv aF (nG b)<|av aF<|av aF<|aC<|Wr<|aJ aF ?_;exact⟨gY (by simp only[zR]; first|(symm; simp; omega)|(symm; simp; done)),rfl⟩
 refine Lv aF (jT a)<|av aF<|bX<|bX<|av aF<|av aF<|aC<|Wr<|aJ aF ?_;exact⟨gY (by simp only[zR]; first|(symm; simp; omega)|(symm; simp; done)),rfl⟩
theorem yN(n:Int)(w:World) :
 Calls Tryz.prog 83 #[au n] w fun e w'=>e = .returned (.bool (gK n))/\w'=w:=by
 refine Kent Tryz.func83 9 ?_;refine ay<|av aF<|aC<|ay<|av (au n) ?_;by_cases a:1<=n
 ·refine Lv aG (ko a)<|av aG<|av (au n) ?_;by_cases b:n<=6
  ·refine Lv aG (mZ b)<|av aG<|av aG<|aC<|Wr<|aJ aG ?_;exact⟨gY (by simp only[gK]; first|(symm; simp; omega)|(symm; simp; done)),rfl⟩
  refine Lv aF (nG b)<|av aF<|av aF<|aC<|Wr<|aJ aF ?_;exact⟨gY (by simp only[gK]; first|(symm; simp; omega)|(symm; simp; done)),rfl⟩
 refine Lv aF (jT a)<|av aF<|bX<|bX<|av aF<|av aF<|aC<|Wr<|aJ aF ?_;exact⟨gY (by simp only[gK]; first|(symm; simp; omega)|(symm; simp; done)),rfl⟩
theorem Rt.P6(x:Nat->Int)(k j:Nat):vI x k (j+1)=vI x k j+x (18+j*6+k)-x (18+k*6+j):=rfl
theorem Rt.P7(x:Nat->Int)(k:Nat):vI x k 0=x k-x (6+k)+x (12+k):=rfl
theorem ES(x:Nat->Int)(k:Nat)(w:World)(E:k<6)(d:PU x) :
 Calls Tryz.prog 84 #[.agg (aA 54 (rv .i64 x)),au ((k:Int)+1)] w fun e w'=>e = .returned (au (L x k))/\Below w.heap.size w w':=by
 have B:vI x k 6=L x k:=acg x k;have A:=fun j=>Oj d k E j;have S:vI x k 0=x k-x (k+6)+x (k+12):=by rw[P7,Nat.add_comm 6 k,Nat.add_comm 12 k]
 have O:=d k (by omega);have P:=d (k+6) (by omega);have Q:=d (k+12) (by omega);refine Kent Tryz.func84 44 ?_;refine ay<|rF fun c l D h H X => ?_;have s:=bG H.old (Below.refl w.heap.size w);have U:=iB D;have W:=h.lt;refine av (au 0)<|aC<|ay<|av (au ((k:Int)+1))<|Lv (au k) gF<|av (au k)<|aC<|Ws ?_;refine zQ<|aU (au k)<|aU (pt c)<|Qv (pf c k) (fun b a=>jC 6 1)<|Qv (au (x k)) (fun b a=>aM (h.aI.dr a) k)<|aU (au k)<|aU (pf c 6)<|Qv (pf c (k+6)) (fun b a=>jC 6 1)<|Qv (au (x (k+6))) (fun b a=>aM (h.aI.dr a) (k+6))<|Qv (au ((x k)-(x (k+6)))) (fun b a=>gF)<|aU (au k)<|aU (pf c 12)<|Qv (pf c (k+12)) (fun b a=>jC 6 1)<|Qv (au (x (k+12))) (fun b a=>aM (h.aI.dr a) (k+12))<|Qv (au (((x k)-(x (k+6)))+(x (k+12)))) (fun b a=>dZ)<|aU (au (((x k)-(x (k+6)))+(x (k+12))))<|Qn ?_;rintro _ ⟨i,rfl⟩;obtain⟨K,n⟩ : ∃ b,b=World.drewN l i:=⟨_,rfl⟩;rw[<- n];have I:Stp l.heap.size l K:=by rw[n]; exact Sb (jM l i)
 have⟨F,t⟩:=fF I.old h s;clear n;refine sN<|Ws<|ay<|av (au 0)<|aC<|Wb<|Wo (fun f z => ∃ j:Nat,j<=6/\f 2=(pt c)/\f 5=au (k:Int)/\f 6=au (vI x k j)/\f 7=au (j:Int)/\aQ z c 54 (rv .i64 x) 59/\Below w.heap.size w z) (fun f _=>(6-(intOf (f 7)).toNat)) ⟨0,by omega,(by rfl),Fx.ic,Fx.ic,Fx.ic,F,t⟩ ?_;rintro R m ⟨j,V,p,q,y,g,r,u⟩;have T:=A j (by omega);have N:vI x k (j+1)=vI x k j+x (6*j+k+18)-x (j+6*k+18):=by rw[P6,show 18+j*6+k=6*j+k+18 by omega,show 18+k*6+j=j+6*k+18 by omega]
 have s:=d (6*j+k+18);have t:=d (j+6*k+18);refine Ws<|ay<|aR g ?_;by_cases v:(j:Int)<6
 ·refine Lv aG (gU v)<|aC<|aO<|Wk<|sN<|Ws<|Wb ?_;refine zQ<|eG y<|eG g<|eG q<|Qv (pf c 18) (fun b a=>je p 18)<|Qv (pf c (6*j+18)) (fun b a=>jC 6 6)<|Qv (pf c (6*j+k+18)) (fun b a=>jC 6 1)<|Qv (au (x (6*j+k+18))) (fun b a=>aM (r.aI.dr a) (6*j+k+18))<|Qv (au ((vI x k j)+(x (6*j+k+18)))) (fun b a=>dZ)<|eG q<|eG g<|Qv (pf c 18) (fun b a=>je p 18)<|Qv (pf c (6*k+18)) (fun b a=>jC 6 6)<|Qv (pf c (j+6*k+18)) (fun b a=>jC 6 1)<|Qv (au (x (j+6*k+18))) (fun b a=>aM (r.aI.dr a) (j+6*k+18))<|Qv (au (((vI x k j)+(x (6*j+k+18)))-(x (j+6*k+18)))) (fun b a=>gF)<|aU (au (((vI x k j)+(x (6*j+k+18)))-(x (j+6*k+18))))<|Qn ?_;rintro _ ⟨i,rfl⟩;obtain⟨M,o⟩ : ∃ b,b=World.drewN m i:=⟨_,rfl⟩;rw[<- o];have J:Stp m.heap.size m M:=by rw[o]; exact Sb (jM m i)
  have⟨G,C⟩:=fF J.old r u;clear o;refine bM<|sN<|Wl<|aR g<|Lv (au ((j:Int)+1)) dZ<|av (au ((j:Int)+1))<|Ln<|fZ ⟨j+1,by omega,p,(q.trans Fx.ic),Fx.ic,Fx.ic,G,C⟩ ?_;show(6-(intOf (au ((j:Int)+1))).toNat)<_;simp only[g,intOf]; omega
 refine Lv aF (gV v)<|aC<|aK<|Wx<|cB<|gG<|cK<|sN<|ay<|aR y<|av (au (vI x k j))<|aC<|Wr<|aJ (au (vI x k j)) ?_;exact⟨pz (by rw[<- B]; exact K_ _ (by omega)),u⟩
namespace Rt
def Ub(x:Nat->Int)(i:Nat):Prop:=zR (x i)=true/\zR (x (i+6))=true/\zR (x (i+12))=true/\x (i+12)<=x (i+6)/\x (7*i+18)=0
def ET(x:Nat->Int)(i j:Nat):Prop := ∀ q,q<j->zR (x (6*i+q+18))=true
def Kz(x:Nat->Int)(i:Nat):Prop := ∀ k,k<i->Ub x k/\ET x k 6
def zo(x:Nat->Int):Nat->Int
 | 0=>0
 | i+1=>zo x i+x i
theorem P8(x:Nat->Int):Kz x 0:=fun _ h=>L_ h (by omega)
theorem ML(x:Nat->Int)(i:Nat):ET x i 0:=fun _ h=>L_ h (by omega)
theorem MN{x:Nat->Int}{i j:Nat}(h:ET x i j)(a:zR (x (6*i+j+18))=true):ET x i (j+1):=fun q b=>by
 by_cases e:q=j
 ·subst e; exact a
 ·exact h q (by omega)
theorem P9{x:Nat->Int}{i:Nat}(h:Kz x i)(hr:Ub x i)(a:ET x i 6):Kz x (i+1):=fun k b=>by
 by_cases e:k=i
 ·subst e; exact⟨hr,a⟩
 ·exact h k (by omega)
theorem KA{x:Nat->Int}(h:Kz x 6):PU x:=fun p d=>by
 by_cases a:p<6
 ·exact zV (h p a).1.1
 ·by_cases b:p<12
  ·have:=zV (h (p-6) (by omega)).1.2.1; rwa [show p-6+6=p by omega]at this
  ·by_cases c:p<18
   ·have:=zV (h (p-12) (by omega)).1.2.2.1; rwa [show p-12+12=p by omega]at this
   ·have:=zV ((h ((p-18) / 6) (by omega)).2 ((p-18) % 6) (by omega)); rwa [show 6*((p-18) / 6)+(p-18) % 6+18=p by omega]at this
theorem Ol{x:Nat->Int} : ∀ {i:Nat},Kz x i->0<=zo x i/\zo x i<=1125899906842624*(i:Int)
 | 0,_=>by simp[zo]
 | i+1,h=>by
   have a:=Ol (i:=i) (fun k c=>h k (by omega));have b:=zV (h i (by omega)).1.1;simp only[zo]; omega
theorem I6{x:Nat->Int}{p:Nat}(a:p<54)(h:zR (x p)=false):may x=false:=by
 cases hm:may x
 ·rfl
 have:=(jK x).1 hm |>.1 p a;unfold zR at h; simp at h; omega
theorem agw{x:Nat->Int}{i:Nat}(hi:i<6)(h:x (i+6)<x (i+12)):may x=false:=by
 cases hm:may x
 ·rfl
 have:=((jK x).1 hm |>.2.1 i hi).2.1;unfold F C at this; rw[Nat.add_comm 12 i,Nat.add_comm 6 i]at this; omega
theorem agx{x:Nat->Int}{i:Nat}(hi:i<6)(h : ¬ x (7*i+18)=0):may x=false:=by
 cases hm:may x
 ·rfl
 have:=((jK x).1 hm |>.2.1 i hi).2.2;unfold R at this; rw[show 18+i*6+i=7*i+18 by omega]at this; exact L_ this h
theorem ach{x:Nat->Int}{i:Nat}(hi:i<6)(h:L x i<0):may x=false:=by
 cases hm:may x
 ·rfl
 have:=((jK x).1 hm |>.2.1 i hi).1;omega
theorem Uc{x:Nat->Int}{m:Nat}(h : ∀ k,k<m->0<=L x k)(a:0<=L x m) : ∀ k,k<m+1->0<=L x k:=fun k b=>by
 by_cases e:k=m
 ·rw[e]; exact a
 ·exact h k (by omega)
theorem Om{x:Nat->Int}(ha:Kz x 6)(b : ∀ k,k<6->0<=L x k):may x=decide (zo x 6<=1125899906842624):=by
 have c:zo x 6=qo x:=by simp only[zo,qo,G]; omega
 rw[c,Bool.eq_iff_iff,jK,O_];refine⟨fun h=>h.2.2,fun h=>⟨KA ha,fun k a=>⟨b k a,?_,?_⟩,h⟩⟩
 ·have:=(ha k a).1.2.2.2.1; unfold F C; rwa [Nat.add_comm 12 k,Nat.add_comm 6 k]
 have:=(ha k a).1.2.2.2.2; unfold R; rwa [show 18+k*6+k=7*k+18 by omega]
end Rt
set_option maxRecDepth 10000 in
set_option maxHeartbeats 1000000 in
theorem Ud(x:Nat->Int)(w:World) :
 Calls Tryz.prog 82 #[.agg (aA 54 (rv .i64 x))] w fun e w'=>e = .returned (.bool (may x))/\Below w.heap.size w w':=by
 refine Kent Tryz.func82 81 ?_;refine ay<|rF fun c w1 ng m1 s1 z1 => ?_;have b1:=bG s1.old (Below.refl w.heap.size w);have sw:=iB ng;have wu:=m1.lt;refine av aF<|aC<|ay<|av (au 0)<|aC<|Ws<|ay<|av (au 0)<|aC<|Wb<|Wo (fun f q => ∃ i:Nat,i<=6/\Kz x i/\f 1=(pt c)/\f 3=au (zo x i)/\f 4=au (i:Int)/\aQ q c 54 (rv .i64 x) 59/\Below w.heap.size w q) (fun f _=>(6-(intOf (f 4)).toNat)) ⟨0,by omega,P8 x,(by rfl),Fx.ic,Fx.ic,m1,b1⟩ ?_;rintro f1 d ⟨i,hi,B,n,h2,l,o,r⟩;have hG:=Ol B;have HG:zo x (i+1)=zo x i+x i:=rfl;refine Ws<|ay<|aR l ?_;by_cases Z:(i:Int)<6
 ·refine Lv aG (gU Z)<|aC<|aO<|Wk<|sN<|Ws<|Wb<|Ws<|Ws ?_;refine zQ<|eG l<|Qv (pt c) (fun a b=>je n 0)<|Qv (pf c i) (fun a b=>jC 6 1)<|Qv (au (x i)) (fun a b=>aM (o.aI.dr b) i) ?_;by_cases s:(zR (x i))=true
  ·refine pU (fun _ _=>mY (x i) _) aG (by rw[s])<|aU aF<|aU aF<|eG l<|Qv (pf c 6) (fun a b=>je n 6)<|Qv (pf c (i+6)) (fun a b=>jC 6 1)<|Qv (au (x (i+6))) (fun a b=>aM (o.aI.dr b) (i+6)) ?_;by_cases v:(zR (x (i+6)))=true
   ·refine pU (fun _ _=>mY (x (i+6)) _) aG (by rw[v])<|aU aF<|aU aF<|aU aF<|eG l<|Qv (pf c 12) (fun a b=>je n 12)<|Qv (pf c (i+12)) (fun a b=>jC 6 1)<|Qv (au (x (i+12))) (fun a b=>aM (o.aI.dr b) (i+12)) ?_;by_cases y:(zR (x (i+12)))=true
    ·refine pU (fun _ _=>mY (x (i+12)) _) aG (by rw[y])<|aU aF<|aU aF<|aU aF<|eG l<|Qv (pf c 12) (fun a b=>je n 12)<|Qv (pf c (i+12)) (fun a b=>jC 6 1)<|Qv (au (x (i+12))) (fun a b=>aM (o.aI.dr b) (i+12))<|eG l<|Qv (pf c 6) (fun a b=>je n 6)<|Qv (pf c (i+6)) (fun a b=>jC 6 1)<|Qv (au (x (i+6))) (fun a b=>aM (o.aI.dr b) (i+6)) ?_;by_cases H:(x (i+6))<(x (i+12))
     ·refine Qv aG (fun a b=>lW H)<|aU aG<|aU aG<|aP<|aP<|aP<|aP<|aP<|aP<|aP<|aU aG<|Qn ?_;rintro _ ⟨g,rfl⟩;obtain⟨DJ,K⟩ : ∃ a,a=World.drewN d g:=⟨_,rfl⟩;rw[<- K];have s2:Stp d.heap.size d DJ:=(by rw[K]; exact Sb (jM d g));have b3:=bG s2.old r;clear K;refine sN (aO (ay (av aF (aC (Wr (sR (bL (sR (qc (bL (sR (aJ aF (⟨gY (Eq.symm ?_),b3⟩)))))))))))));exact agw (i:=i) (by omega) H
     refine Qv aF (fun a b=>lX H)<|aU aF<|aU aF<|eG l<|eG l<|Qv (pf c 18) (fun a b=>je n 18)<|Qv (pf c (6*i+18)) (fun a b=>jC 6 6)<|Qv (pf c (7*i+18)) (fun a b=>jC 6 1)<|Qv (au (x (7*i+18))) (fun a b=>aM (o.aI.dr b) (7*i+18)) ?_;by_cases C:(x (7*i+18))=0
     ·refine Qv aF (fun a b=>kr C)<|aU aF<|Qn ?_;rintro _ ⟨g,rfl⟩;obtain⟨wq2,M⟩ : ∃ a,a=World.drewN d g:=⟨_,rfl⟩;rw[<- M];have s3:Stp d.heap.size d wq2:=(by rw[M]; exact Sb (jM d g));have⟨m4,b4⟩:=fF s3.old o r;clear M;refine sN<|aK<|Wk<|sN<|Ws ?_;have hR:Ub x i:=⟨s,v,y,by omega,C⟩;have b15:=zV s;refine Wl<|aR h2<|aR l<|Lv (pt c) (je n 0)<|Lv (pf c i) (jC 6 1)<|Lv (au (x i)) (aM m4.aI i)<|Lv (au ((zo x i)+(x i))) dZ<|av (au ((zo x i)+(x i)))<|aC<|ay<|av (au 0)<|aC<|Wb<|Wo (fun f q => ∃ j:Nat,j<=6/\ET x i j/\f 1=(pt c)/\f 3=au (zo x (i+1))/\f 4=au (i:Int)/\f 5=au (j:Int)/\aQ q c 54 (rv .i64 x) 59/\Below w.heap.size w q) (fun f _=>(6-(intOf (f 5)).toNat)) ⟨0,by omega,ML x i,n,Fx.ic,(l.trans Fx.ic),Fx.ic,m4,b4⟩ ?_;rintro f2 w3 ⟨j,hj,T,R,h5,S,E,U,G⟩;refine Ws<|ay<|aR E ?_;by_cases X:(j:Int)<6
      ·refine Lv aG (gU X)<|aC<|aO<|Wk<|sN<|Ws<|Wb<|ay<|aR S<|aR E<|Lv (pf c 18) (je R 18)<|Lv (pf c (6*i+18)) (jC 6 6)<|Lv (pf c (6*i+j+18)) (jC 6 1)<|Lv (au (x (6*i+j+18))) (aM U.aI (6*i+j+18)) ?_;by_cases z:(zR (x (6*i+j+18)))=true
       ·refine lM (mY (x (6*i+j+18)) _) aG (by rw[z])<|av aF<|aC<|aK<|Wk<|bM<|sN<|Wl<|aR E<|Lv (au ((j:Int)+1)) dZ<|av (au ((j:Int)+1))<|Ln<|fZ ⟨j+1,by omega,MN T z,R,(h5.trans Fx.ic),(S.trans Fx.ic),Fx.ic,U,G⟩ ?_;show(6-(intOf (au ((j:Int)+1))).toNat)<_;simp only[E,intOf]; omega
       rw[S_]at z;refine lM (mY (x (6*i+j+18)) _) aF (by rw[z]) (av aG (aC (aO (ay (av aF (aC (Wr (bL (sR (qc (bL (bL (sR (qc (bL (sR (aJ aF (⟨gY (Eq.symm ?_),G⟩))))))))))))))))));exact I6 (p:=6*i+j+18) (by omega) z
      refine Lv aF (gV X)<|aC<|aK<|Wx<|cB<|gG<|cK<|bM<|sN<|Wl<|aR S<|Lv (au ((i:Int)+1)) dZ<|av (au ((i:Int)+1))<|Ln ?_;have A:j=6:=(by omega);have hT6:ET x i 6:=(by rw[A]at T; exact T);refine fZ ⟨i+1,by omega,P9 B hR hT6,R,(h5.trans Fx.ic),Fx.ic,U,G⟩ ?_;show(6-(intOf (au ((i:Int)+1))).toNat)<_;simp only[l,intOf]; omega
     refine Qv aG (fun a b=>nH C)<|aU aG<|Qn ?_;rintro _ ⟨g,rfl⟩;obtain⟨Qa,N⟩ : ∃ a,a=World.drewN d g:=⟨_,rfl⟩;rw[<- N];have s4:Stp d.heap.size d Qa:=(by rw[N]; exact Sb (jM d g));have b6:=bG s4.old r;clear N;refine sN (aO (ay (av aF (aC (Wr (sR (bL (sR (qc (bL (sR (aJ aF (⟨gY (Eq.symm ?_),b6⟩)))))))))))));exact agx (i:=i) (by omega) C
    rw[S_]at y;refine pU (fun _ _=>mY (x (i+12)) _) aF (by rw[y])<|aU aG<|aU aG<|aU aG<|aP<|aP<|aP<|aP<|aP<|aP<|aP<|aP<|aP<|aU aG<|aU aG<|aP<|aP<|aP<|aP<|aP<|aP<|aP<|aU aG<|Qn ?_;rintro _ ⟨g,rfl⟩;obtain⟨wq4,O⟩ : ∃ a,a=World.drewN d g:=⟨_,rfl⟩;rw[<- O];have s5:Stp d.heap.size d wq4:=(by rw[O]; exact Sb (jM d g));have b7:=bG s5.old r;clear O;refine sN (aO (ay (av aF (aC (Wr (sR (bL (sR (qc (bL (sR (aJ aF (⟨gY (Eq.symm ?_),b7⟩)))))))))))));exact I6 (p:=i+12) (by omega) y
   rw[S_]at v;refine pU (fun _ _=>mY (x (i+6)) _) aF (by rw[v])<|aU aG<|aU aG<|aU aG<|aP<|aP<|aP<|aP<|aP<|aP<|aU aG<|aU aG<|aP<|aP<|aP<|aP<|aP<|aP<|aP<|aP<|aP<|aU aG<|aU aG<|aP<|aP ?_;refine aP<|aP<|aP<|aP<|aP<|aU aG<|Qn ?_;rintro _ ⟨g,rfl⟩;obtain⟨wq5,P⟩ : ∃ a,a=World.drewN d g:=⟨_,rfl⟩;rw[<- P];have s6:Stp d.heap.size d wq5:=(by rw[P]; exact Sb (jM d g));have b8:=bG s6.old r;clear P;refine sN (aO (ay (av aF (aC (Wr (sR (bL (sR (qc (bL (sR (aJ aF (⟨gY (Eq.symm ?_),b8⟩)))))))))))));exact I6 (p:=i+6) (by omega) v
  rw[S_]at s;refine pU (fun _ _=>mY (x i) _) aF (by rw[s])<|aU aG<|aU aG<|aP<|aP<|aP<|aP<|aP<|aP<|aU aG<|aU aG<|aP<|aP<|aP<|aP<|aP<|aP<|aU aG<|aU aG<|aP<|aP<|aP<|aP<|aP<|aP ?_;refine aP<|aP<|aP<|aU aG<|aU aG<|aP<|aP<|aP<|aP<|aP<|aP<|aP<|aU aG<|Qn ?_;rintro _ ⟨g,rfl⟩;obtain⟨wq6,Q⟩ : ∃ a,a=World.drewN d g:=⟨_,rfl⟩;rw[<- Q];have s7:Stp d.heap.size d wq6:=by rw[Q]; exact Sb (jM d g)
  have b9:=bG s7.old r;clear Q;refine sN (aO (ay (av aF (aC (Wr (sR (bL (sR (qc (bL (sR (aJ aF (⟨gY (Eq.symm ?_),b9⟩)))))))))))));exact I6 (p:=i) (by omega) s
 refine Lv aF (gV Z)<|aC<|aK<|Wx<|cB<|gG<|cK<|sN<|Ws<|ay<|av (au 1)<|aC<|Wb ?_;have A:i=6:=by omega
 rw[A]at B;have HE:=KA B;have V:Kz x 6:=B;refine Wo (fun f q => ∃ m:Nat,m<=6/\(∀ k,k<m->0<=L x k)/\f 1=(pt c)/\f 3=au (zo x i)/\f 6=au ((m:Int)+1)/\aQ q c 54 (rv .i64 x) 59/\Below w.heap.size w q) (fun f _=>(7-(intOf (f 6)).toNat)) ⟨0,by omega,(fun _ h=>L_ h (by omega)),n,(h2.trans Fx.ic),Fx.ic,o,r⟩ ?_;rintro f3 w4 ⟨m,hm,u,h8,h9,D,m10,F⟩;refine Ws<|ay<|aR D ?_;by_cases Y:((m:Int)+1)<=6
 ·refine Lv aG (mZ Y)<|aC<|aO<|Wk<|sN<|Ws<|Wb<|ay<|Lv (.agg (aA 54 (rv .i64 x))) (gD m10.aI 0 (ha:=h8))<|aR D<|dX (ES x m _ (by omega) HE) _ rfl ?_;intro w5 hb1;have⟨m11,W⟩:=fF hb1 m10 F;by_cases I:(L x m)<0
  ·refine Lv aG (gU I) (aC (aO (ay (av aF (aC (Wr (bL (sR (qc (bL (sR (aJ aF (⟨gY (Eq.symm ?_),W⟩)))))))))))));exact ach (i:=m) (by omega) I
  refine Lv aF (gV I)<|aC<|aK<|Wk<|bM<|sN<|Wl<|aR D<|Lv (au ((m:Int)+2)) dZ<|av (au ((m:Int)+2))<|Ln<|fZ ⟨m+1,by omega,Uc u (by omega),h8,(h9.trans Fx.ic),Fx.ic,m11,W⟩ ?_;show(7-(intOf (au ((m:Int)+2))).toNat)<_;simp only[D,intOf]; omega
 refine Lv aF (nG Y)<|aC<|aK<|Wx<|cB<|gG<|cK<|sN<|ay<|aR h9 ?_;by_cases t:(zo x i)<=1125899906842624
 ·refine Lv aG (mZ t) (av aG (aC (Wr (aJ aG (⟨gY (Eq.symm ?_),F⟩)))));have J:m=6:=by omega
  rw[J]at u;rw[A]at t;rw[Om V u]; exact f_ t
 refine Lv aF (nG t) (av aF (aC (Wr (aJ aF (⟨gY (Eq.symm ?_),F⟩)))));have J:m=6:=by omega
 rw[J]at u;rw[A]at t;rw[Om V u]; exact g_ t
namespace Rt
def eH(x:Nat->Int)(i n:Int):Int:=if may x&&decide (1<=n)&&decide (n<=1125899906842624)then(if gK i then 0 else 10)else 1
end Rt
theorem EU(x:Nat->Int)(i n:Int)(w:World) :
 Calls Tryz.prog 112 #[.agg (aA 54 (rv .i64 x)),au i,au n] w fun e w'=>e = .returned (au (eH x i n))/\Below w.heap.size w w':=by
 refine Kent Tryz.func112 21 ?_;refine ay<|rF fun p s k h o v => ?_;have d:=bG o.old (Below.refl w.heap.size w);have q:=iB k;have r:=h.lt;refine av (au 0)<|aC<|Ws<|ay<|Lv (.agg (aA 54 (rv .i64 x))) (gD h.aI 0) ?_;by_cases a:(may x)=true
 ·refine dX (Ud x _) aG (by rw[a]) ?_;intro t l;have c:=bG l d;refine av aF<|av aF<|av (au n) ?_;by_cases f:n<1
  ·refine Lv aG (gU f) (av aG (av aG (bX (bX (av aG (aC (aO (ay (av (au 1) (aC (Wr (sR (aJ (au 1) (⟨pz ?_,c⟩))))))))))))));unfold eH; rw[a,g_ (show ¬ 1<=n by omega)]; simp
  refine Lv aF (gV f)<|av aF<|av aF<|av (au n) ?_;by_cases g:1125899906842624<n
  ·refine Lv aG (lW g) (av aG (aC (aO (ay (av (au 1) (aC (Wr (sR (aJ (au 1) (⟨pz ?_,c⟩))))))))));unfold eH; rw[a,f_ (show 1<=n by omega),g_ (show ¬ n<=1125899906842624 by omega)]; simp
  refine Lv aF (lX g)<|av aF<|aC<|aK<|Wk<|sN<|Ws<|ay<|av (au i) ?_;by_cases b:(gK i)=true
  ·refine lM (yN i _) aG (by rw[b]) (av aF (aC (aK (Wk (sN (ay (av (au 0) (aC (Wr (aJ (au 0) (⟨pz ?_,c⟩)))))))))));unfold eH; rw[a,f_ (show 1<=n by omega),f_ (show n<=1125899906842624 by omega),b]; simp
  rw[S_]at b;refine lM (yN i _) aF (by rw[b]) (av aG (aC (aO (ay (av (au 10) (aC (Wr (sR (aJ (au 10) (⟨pz ?_,c⟩))))))))));unfold eH; rw[a,f_ (show 1<=n by omega),f_ (show n<=1125899906842624 by omega),b]; simp
 rw[S_]at a;refine dX (Ud x _) aF (by rw[a]) ?_;intro u m;have j:=bG m d;refine av aG (av aG (bX (bX (av aG (av aG (bX (bX (av aG (aC (aO (ay (av (au 1) (aC (Wr (sR (aJ (au 1) (⟨pz ?_,j⟩)))))))))))))))));unfold eH; rw[a]; simp
namespace Rt
theorem EW{x:Nat->Int}{i n:Int}(h:eH x i n=0):may x=true/\1<=n/\n<=1125899906842624/\gK i=true:=by
 unfold eH at h;by_cases a:may x=true
 ·by_cases b:1<=n
  ·by_cases c:n<=1125899906842624
   ·rw[a,f_ b,f_ c]at h
    cases h4:gK i
    ·rw[h4]at h; simp at h
    exact⟨a,b,c,rfl⟩
   rw[g_ c]at h; simp at h
  rw[g_ b]at h; simp at h
 rw[show may x=false by simpa using a]at h; simp at h
theorem KC{x:Nat->Int}{i n b:Int}{off:Nat}(h : ¬ eH x i n=0):bT x n (gK i) b off=(zero,eH x i n):=by
 unfold eH at *;unfold bT;by_cases a:(may x&&decide (1<=n)&&decide (n<=1125899906842624))=true
 ·simp only[d_ a]at *
  cases h4:gK i
  ·simp
  simp[h4]at h
 simp only[b_ a]at *
theorem BP{x:Nat->Int}{n a:Int}{is:Bool}{off:Nat}(h1:may x=true)(b:1<=n)(c:n<=1125899906842624)(d:is=true) :
 bT x n is a off=if a=0 then(if x off+n<=1125899906842624 then(upd x off (x off+n),0)else(zero,6))else(zero,a):=by
 unfold bT; rw[h1,f_ b,f_ c,d]; simp
theorem Aa{x:Nat->Int}{n a:Int}{is:Bool}{off:Nat}(h1:may x=true)(b:1<=n)(c:n<=1125899906842624)(d:is=true)(e:a=0)(f:x off+n<=1125899906842624):bT x n is a off=(upd x off (x off+n),0):=by
 rw[BP h1 b c d,d_ e,d_ f]
theorem CJ{x:Nat->Int}{n a:Int}{is:Bool}{off:Nat}(h1:may x=true)(b:1<=n)(c:n<=1125899906842624)(d:is=true)(e:a=0)(f : ¬ x off+n<=1125899906842624):bT x n is a off=(zero,6):=by
 rw[BP h1 b c d,d_ e,b_ f]
theorem wL{x:Nat->Int}{n a e:Int}{is:Bool}{off:Nat}(h1:may x=true)(b:1<=n)(c:n<=1125899906842624)(d:is=true)(f:a=e)(g:e≠0):bT x n is a off=(zero,e):=by
 rw[BP h1 b c d,f,b_ g]
theorem Qc{x:Nat->Int}{n a:Int}{off:Nat}(h1:may x=true)(b:1<=n)(c:n<=1125899906842624):bT x n false a off=(zero,10):=by
 unfold bT; rw[h1,f_ b,f_ c]; simp
theorem pl(k:Nat):((k:Int)+1).toNat-1=k:=by omega
theorem Qd{x:Nat->Int}{i j n:Int}(h : ¬ eH x i n=0):dw x i j n=(zero,eH x i n):=by
 unfold dw;unfold eH at *;unfold bT;by_cases a:(may x&&decide (1<=n)&&decide (n<=1125899906842624))=true
 ·simp only[d_ a]at *
  cases h4:gK i
  ·simp
  simp[h4]at h
 simp only[b_ a]at *
theorem KD(k q:Nat):kL ((k:Int)+1) ((q:Int)+1)=6*k+q+18:=by unfold kL; omega
theorem Ue{x:Nat->Int}{k:Nat}(a:may x=true)(b:k<6):x (k+6)<=1125899906842624:=(kZ a (k+6) (by omega)).2
end Rt
set_option maxRecDepth 10000 in
theorem XJ(x:Nat->Int)(i n:Int)(w:World) :
 Calls Tryz.prog 109 #[.agg (aA 54 (rv .i64 x)),au i,au n] w fun e w'=>e = .returned (.tuple #[.agg (aA 54 (rv .i64 (bC x i n).1)),au (bC x i n).2])/\Below w.heap.size w w':=by
 refine Kent Tryz.func109 42 ?_;refine ay<|rF fun b w1 Q p s1 z1 => ?_;have u:=bG s1.old (Below.refl w.heap.size w);have sw:=iB Q;have wu:=p.lt;refine xD 54 (rv .i64 (fun _=>0)) fun l w2 z B s2 z2 => ?_;have⟨C,K⟩:=fF s2.old p u;have sP:=jE z u.size;have NW:=dn z p.lt;have Bl:=B.lt;refine av (au 0)<|aC<|ay<|Lv (.agg (aA 54 (rv .i64 x))) (gD C.aI 0)<|av (au i)<|av (au n)<|dX (EU x i n _) _ rfl ?_;intro w3 S;have⟨q,D,m⟩:=kI S C B K;refine av (au (eH x i n))<|aC<|Ws<|ay<|av (au (eH x i n)) ?_;by_cases j:(eH x i n)=0
 ·refine Lv aF (kr j)<|aC<|aK<|Wk<|sN<|Ws<|Ws ?_;obtain⟨a,s,t,h⟩:=EW j;have J:=kZ a;obtain⟨k,o,R,_⟩:=oP h;subst R;refine Wl<|av (au n)<|Lv (.agg (aA 54 (rv .i64 x))) (gD q.aI 0)<|av (au ((k:Int)+1))<|dX (ES x k _ (by omega) (kZ a)) _ rfl ?_;intro w4 T;have⟨g,r,d⟩:=kI T q D m;by_cases f:(L x k)<n
  ·refine Lv aG (lW f)<|aC<|aO<|ay<|av (.agg (aA 54 (rv .i64 (fun _=>0))))<|fI r 0 fun w5 m8 E z3 => ?_;have m9:aQ w5 l 54 (rv .i64 (fun _=>0)) 59:=aW m8;have m10:=g.dh E (by omega);have M:=E.below d d.size (by omega);refine av (au 11) (aC (Wr (sR (⟨.tuple #[.agg (aA 54 (rv .i64 (fun _=>0))),au 11],gT Tryz.results109 ⟨_,rfl,aX m9.aI (by kernel_rfl) (by kernel_rfl)⟩ (by exact rfl),?_⟩))));refine⟨?_,M⟩;have c:bC x ((k:Int)+1) n=(zero,11):=by
    unfold bC qC;rw[mo a k o,f_ f];exact wL a s t h rfl (by decide)
   rw[c]
   all_goals rfl
  refine Lv aF (lX f)<|aC<|aK<|Wk<|sN<|Ws<|Ws ?_;have q1:=J (k+6);refine Wl<|av (au ((k:Int)+1))<|Lv (au k) gF<|av (pf b 6)<|Lv (pf b (k+6)) (jC 6 1)<|Lv (au (x (k+6))) (aM g.aI (k+6))<|av (au n)<|Lv (au ((x (k+6))+n)) dZ ?_;by_cases y:1125899906842624<((x (k+6))+n)
  ·refine Lv aG (lW y)<|aC<|aO<|ay<|av (.agg (aA 54 (rv .i64 (fun _=>0))))<|fI r 0 fun w6 U F z4 => ?_;have V:aQ w6 l 54 (rv .i64 (fun _=>0)) 59:=aW U;have m13:=g.dh F (by omega);have N:=F.below d d.size (by omega);refine av (au 6) (aC (Wr (sR (⟨.tuple #[.agg (aA 54 (rv .i64 (fun _=>0))),au 6],gT Tryz.results109 ⟨_,rfl,aX V.aI (by kernel_rfl) (by kernel_rfl)⟩ (by exact rfl),?_⟩))));refine⟨?_,N⟩;have c:bC x ((k:Int)+1) n=(zero,6):=by
    unfold bC qC;rw[mo a k o,g_ f,pl,Nat.add_comm 6 k];exact CJ a s t h rfl (by omega)
   rw[c]
   all_goals rfl
  refine Lv aF (lX y)<|aC<|aK<|Wk<|sN<|ay<|av (au ((k:Int)+1))<|Lv (au k) gF<|av (pf b 6)<|Lv (pf b (k+6)) (jC 6 1)<|Lv (au (x (k+6))) (aM g.aI (k+6))<|av (au n)<|Lv (au ((x (k+6))+n)) dZ<|av (pf b 6)<|Lv (pf b (k+6)) (jC 6 1)<|jh g (k+6) (au ((x (k+6))+n)) fun w7 W G z5 => ?_;have A:aQ w7 b 54 (rv .i64 (upd x (k+6) ((x (k+6))+n))) 59:=W.to (Fx.yC _ _ _ _);have X:=r.dh G (by omega);have v:=G.below d d.size (by omega);refine aC<|ay<|Lv (.agg (aA 54 (rv .i64 (upd x (k+6) ((x (k+6))+n))))) (gD A.aI 0)<|fI X 0 fun w8 Y H z6 => ?_;have Z:aQ w8 l 54 (rv .i64 (upd x (k+6) ((x (k+6))+n))) 59:=aW Y;have m19:=A.dh H (by omega);have O:=H.below v v.size (by omega);refine av (au 0) (aC (Wr (⟨.tuple #[.agg (aA 54 (rv .i64 (upd x (k+6) ((x (k+6))+n)))),au 0],gT Tryz.results109 ⟨_,rfl,aX Z.aI (by kernel_rfl) (by kernel_rfl)⟩ (by exact rfl),?_⟩)));refine⟨?_,O⟩;have c:bC x ((k:Int)+1) n=(upd x (k+6) (x (k+6)+n),0):=by
   unfold bC qC;rw[mo a k o,g_ f,pl,Nat.add_comm 6 k];exact Aa a s t h rfl (by omega)
  rw[c]
  all_goals rfl
 refine Lv aG (nH j)<|aC<|aO<|ay<|av (.agg (aA 54 (rv .i64 (fun _=>0))))<|av (au (eH x i n))<|fI D 0 fun w9 aa I z7 => ?_;have ab:aQ w9 l 54 (rv .i64 (fun _=>0)) 59:=aW aa;have m22:=q.dh I (by omega);have P:=I.below m m.size (by omega);refine av (au (eH x i n)) (aC (Wr (sR (⟨.tuple #[.agg (aA 54 (rv .i64 (fun _=>0))),au (eH x i n)],gT Tryz.results109 ⟨_,rfl,aX ab.aI (by kernel_rfl) (by kernel_rfl)⟩ (by exact rfl),?_⟩))));refine⟨?_,P⟩;have c:bC x i n=(zero,eH x i n):=by
  exact KC j
 rw[c]
 all_goals rfl
set_option maxRecDepth 10000 in
theorem XK(x:Nat->Int)(i n:Int)(w:World) :
 Calls Tryz.prog 111 #[.agg (aA 54 (rv .i64 x)),au i,au n] w fun e w'=>e = .returned (.tuple #[.agg (aA 54 (rv .i64 (bF x i n).1)),au (bF x i n).2])/\Below w.heap.size w w':=by
 refine Kent Tryz.func111 41 ?_;refine ay<|rF fun c w1 T t s1 z1 => ?_;have y:=bG s1.old (Below.refl w.heap.size w);have sw:=iB T;have wu:=t.lt;refine xD 54 (rv .i64 (fun _=>0)) fun s w2 D H s2 z2 => ?_;have⟨I,P⟩:=fF s2.old t y;have sP:=jE D y.size;have NW:=dn D t.lt;have Bl:=H.lt;refine av (au 0)<|aC<|ay<|Lv (.agg (aA 54 (rv .i64 x))) (gD I.aI 0)<|av (au i)<|av (au n)<|dX (EU x i n _) _ rfl ?_;intro d V;have⟨g,u,l⟩:=kI V I H P;refine av (au (eH x i n))<|aC<|Ws<|ay<|av (au (eH x i n)) ?_;by_cases m:(eH x i n)=0
 ·refine Lv aF (kr m)<|aC<|aK<|Wk<|sN<|Ws<|Ws ?_;obtain⟨j,J,K,p⟩:=EW m;have v:=kZ j;obtain⟨k,W,U,_⟩:=oP p;subst U;have q1:=v (k+6);have q2:=v (k+12);refine zQ<|aU (au n)<|aU (au ((k:Int)+1))<|Qv (au k) (fun a b=>gF)<|aU (pf c 6)<|Qv (pf c (k+6)) (fun a b=>jC 6 1)<|Qv (au (x (k+6))) (fun a b=>aM (g.aI.dr b) (k+6))<|aU (au ((k:Int)+1))<|Qv (au k) (fun a b=>gF)<|aU (pf c 12)<|Qv (pf c (k+12)) (fun a b=>jC 6 1)<|Qv (au (x (k+12))) (fun a b=>aM (g.aI.dr b) (k+12))<|Qv (au ((x (k+6))-(x (k+12)))) (fun a b=>gF) ?_;by_cases o:((x (k+6))-(x (k+12)))<n
  ·refine Qv aG (fun a b=>lW o)<|Qn ?_;rintro _ ⟨h,rfl⟩;obtain⟨DJ,q⟩ : ∃ a,a=World.drewN d h:=⟨_,rfl⟩;rw[<- q];have s4:Stp d.heap.size d DJ:=(by rw[q]; exact Sb (jM d h));have⟨m6,m7,z⟩:=kI s4.old g u l;clear q;refine sN<|aO<|ay<|av (.agg (aA 54 (rv .i64 (fun _=>0))))<|fI m7 0 fun w4 m8 L z3 => ?_;have m9:aQ w4 s 54 (rv .i64 (fun _=>0)) 59:=aW m8;have m10:=m6.dh L (by omega);have Q:=L.below z z.size (by omega);refine av (au 12) (aC (Wr (sR (⟨.tuple #[.agg (aA 54 (rv .i64 (fun _=>0))),au 12],gT Tryz.results111 ⟨_,rfl,aX m9.aI (by kernel_rfl) (by kernel_rfl)⟩ (by exact rfl),?_⟩))));refine⟨?_,Q⟩;have f:bF x ((k:Int)+1) n=(zero,12):=by
    unfold bF qD C F;rw[pl,Nat.add_comm 6 k,Nat.add_comm 12 k,f_ o];exact wL j J K p rfl (by decide)
   rw[f]
   all_goals rfl
  refine Qv aF (fun a b=>lX o)<|Qn ?_;rintro _ ⟨h,rfl⟩;obtain⟨wq2,r⟩ : ∃ a,a=World.drewN d h:=⟨_,rfl⟩;rw[<- r];have s6:Stp d.heap.size d wq2:=by rw[r]; exact Sb (jM d h)
  have⟨E,X,A⟩:=kI s6.old g u l;clear r;refine sN<|aK<|Wk<|sN<|ay<|av (au ((k:Int)+1))<|Lv (au k) gF<|av (pf c 12)<|Lv (pf c (k+12)) (jC 6 1)<|Lv (au (x (k+12))) (aM E.aI (k+12))<|av (au n)<|Lv (au ((x (k+12))+n)) dZ<|av (pf c 12)<|Lv (pf c (k+12)) (jC 6 1)<|jh E (k+12) (au ((x (k+12))+n)) fun w5 Y M z4 => ?_;have G:aQ w5 c 54 (rv .i64 (upd x (k+12) ((x (k+12))+n))) 59:=Y.to (Fx.yC _ _ _ _);have Z:=X.dh M (by omega);have B:=M.below A A.size (by omega);refine aC<|ay<|Lv (.agg (aA 54 (rv .i64 (upd x (k+12) ((x (k+12))+n))))) (gD G.aI 0)<|fI Z 0 fun w6 aa N z5 => ?_;have ab:aQ w6 s 54 (rv .i64 (upd x (k+12) ((x (k+12))+n))) 59:=aW aa;have m18:=G.dh N (by omega);have R:=N.below B B.size (by omega);refine av (au 0) (aC (Wr (⟨.tuple #[.agg (aA 54 (rv .i64 (upd x (k+12) ((x (k+12))+n)))),au 0],gT Tryz.results111 ⟨_,rfl,aX ab.aI (by kernel_rfl) (by kernel_rfl)⟩ (by exact rfl),?_⟩)));refine⟨?_,R⟩;have f:bF x ((k:Int)+1) n=(upd x (k+12) (x (k+12)+n),0):=by
   unfold bF qD C F;rw[pl,Nat.add_comm 6 k,Nat.add_comm 12 k,g_ o];exact Aa j J K p rfl (by have:=Ue j W; omega)
  rw[f]
  all_goals rfl
 refine Lv aG (nH m)<|aC<|aO<|ay<|av (.agg (aA 54 (rv .i64 (fun _=>0))))<|av (au (eH x i n))<|fI u 0 fun w7 ac O z6 => ?_;have ad:aQ w7 s 54 (rv .i64 (fun _=>0)) 59:=aW ac;have m21:=g.dh O (by omega);have S:=O.below l l.size (by omega);refine av (au (eH x i n)) (aC (Wr (sR (⟨.tuple #[.agg (aA 54 (rv .i64 (fun _=>0))),au (eH x i n)],gT Tryz.results111 ⟨_,rfl,aX ad.aI (by kernel_rfl) (by kernel_rfl)⟩ (by exact rfl),?_⟩))));refine⟨?_,S⟩;have f:bF x i n=(zero,eH x i n):=by
  exact KC m
 rw[f]
 all_goals rfl
set_option maxRecDepth 10000 in
theorem XL(x:Nat->Int)(i j n:Int)(w:World) :
 Calls Tryz.prog 81 #[.agg (aA 54 (rv .i64 x)),au i,au j,au n] w fun e w'=>e = .returned (.tuple #[.agg (aA 54 (rv .i64 (dw x i j n).1)),au (dw x i j n).2])/\Below w.heap.size w w':=by
 refine Kent Tryz.func81 59 ?_;refine ay<|rF fun c w1 aa z s1 z1 => ?_;have B:=bG s1.old (Below.refl w.heap.size w);have sw:=iB aa;have wu:=z.lt;refine xD 54 (rv .i64 (fun _=>0)) fun h w2 F H s2 z2 => ?_;have⟨J,W⟩:=fF s2.old z B;have sP:=jE F B.size;have NW:=dn F z.lt;have Bl:=H.lt;refine av (au 0)<|aC<|ay<|Lv (.agg (aA 54 (rv .i64 x))) (gD J.aI 0)<|av (au i)<|av (au n)<|dX (EU x i n _) _ rfl ?_;intro w3 hb1;have⟨p,u,f⟩:=kI hb1 J H W;refine av (au (eH x i n))<|aC<|Ws<|ay<|av (au (eH x i n)) ?_;by_cases t:(eH x i n)=0
 ·refine Lv aF (kr t)<|aC<|aK<|Wk<|sN<|Ws<|Ws ?_;obtain⟨b,r,s,l⟩:=EW t;have S:=kZ b;obtain⟨k,y,ei,_⟩:=oP l;subst ei;refine Wl<|av (au j) ?_;by_cases d:(gK j)=true
  ·refine lM (yN j _) aG (by rw[d])<|av aF<|aC<|aK<|Wk<|sN<|Ws<|Ws ?_;obtain⟨q,hq,ej,_⟩:=oP d;subst ej;refine Wl<|av (au ((k:Int)+1))<|av (au ((q:Int)+1)) ?_;by_cases g:((k:Int)+1)=((q:Int)+1)
   ·refine Lv aG (eF g)<|aC<|aO<|ay<|av (.agg (aA 54 (rv .i64 (fun _=>0))))<|fI u 0 fun w4 m6 O z3 => ?_;have m7:aQ w4 h 54 (rv .i64 (fun _=>0)) 59:=aW m6;have m8:=p.dh O (by omega);have X:=O.below f f.size (by omega);refine av (au 1) (aC (Wr (sR (⟨.tuple #[.agg (aA 54 (rv .i64 (fun _=>0))),au 1],gT Tryz.results81 ⟨_,rfl,aX m7.aI (by kernel_rfl) (by kernel_rfl)⟩ (by exact rfl),?_⟩))));refine⟨?_,X⟩;have a:dw x ((k:Int)+1) ((q:Int)+1) n=(zero,1):=by
     unfold dw nN;rw[d_ g];exact wL b r s (by rw[l,d]; rfl) rfl (by decide)
    rw[a]
    all_goals rfl
   refine Lv aF (fE g)<|aC<|aK<|Wk<|sN<|Ws<|ay<|av (au n)<|Lv (.agg (aA 54 (rv .i64 x))) (gD p.aI 0)<|av (au ((k:Int)+1))<|dX (ES x k _ (by omega) (kZ b)) _ rfl ?_;intro w5 hb2;have⟨v,A,m⟩:=kI hb2 p u f;by_cases o:(L x k)<n
   ·refine Lv aG (lW o)<|aC<|aO<|ay<|av (.agg (aA 54 (rv .i64 (fun _=>0))))<|fI A 0 fun w6 m11 P z4 => ?_;have m12:aQ w6 h 54 (rv .i64 (fun _=>0)) 59:=aW m11;have m13:=v.dh P (by omega);have Y:=P.below m m.size (by omega);refine av (au 11) (aC (Wr (sR (⟨.tuple #[.agg (aA 54 (rv .i64 (fun _=>0))),au 11],gT Tryz.results81 ⟨_,rfl,aX m12.aI (by kernel_rfl) (by kernel_rfl)⟩ (by exact rfl),?_⟩))));refine⟨?_,Y⟩;have a:dw x ((k:Int)+1) ((q:Int)+1) n=(zero,11):=by
     unfold dw nN;rw[b_ g,mo b k y,f_ o];exact wL b r s (by rw[l,d]; rfl) rfl (by decide)
    rw[a]
    all_goals rfl
   refine Lv aF (lX o)<|aC<|aK<|Wk<|sN<|Ws<|Ws ?_;have q1:=S (6*k+q+18);refine Wl<|av (au ((k:Int)+1))<|Lv (au k) gF<|av (au ((q:Int)+1))<|Lv (au q) gF<|av (pf c 18)<|Lv (pf c (6*k+18)) (jC 6 6)<|Lv (pf c (6*k+q+18)) (jC 6 1)<|Lv (au (x (6*k+q+18))) (aM v.aI (6*k+q+18))<|av (au n)<|Lv (au ((x (6*k+q+18))+n)) dZ ?_;by_cases E:1125899906842624<((x (6*k+q+18))+n)
   ·refine Lv aG (lW E)<|aC<|aO<|ay<|av (.agg (aA 54 (rv .i64 (fun _=>0))))<|fI A 0 fun w7 m14 Q z5 => ?_;have m15:aQ w7 h 54 (rv .i64 (fun _=>0)) 59:=aW m14;have m16:=v.dh Q (by omega);have Z:=Q.below m m.size (by omega);refine av (au 6) (aC (Wr (sR (⟨.tuple #[.agg (aA 54 (rv .i64 (fun _=>0))),au 6],gT Tryz.results81 ⟨_,rfl,aX m15.aI (by kernel_rfl) (by kernel_rfl)⟩ (by exact rfl),?_⟩))));refine⟨?_,Z⟩;have a:dw x ((k:Int)+1) ((q:Int)+1) n=(zero,6):=by
     unfold dw nN;rw[b_ g,mo b k y,g_ o,KD];exact CJ b r s (by rw[l,d]; rfl) rfl (by omega)
    rw[a]
    all_goals rfl
   refine Lv aF (lX E)<|aC<|aK<|Wk<|sN<|Ws ?_;refine Wt 13 (by kernel_rfl) (by kernel_rfl) fun qA dS iy => ?_;have⟨G,m18,C⟩:=kI dS v A m;refine Ej (au ((k:Int)+1))<|qy (au k) gF<|Ej (au ((q:Int)+1))<|qy (au q) gF<|Ej (pf c 18)<|qy (pf c (6*k+18)) (jC 6 6)<|qy (pf c (6*k+q+18)) (jC 6 1)<|qy (au (x (6*k+q+18))) (aM G.aI (6*k+q+18))<|Ej (au n)<|qy (au ((x (6*k+q+18))+n)) dZ<|Ej (pf c 18)<|qy (pf c (6*k+18)) (jC 6 6)<|qy (pf c (6*k+q+18)) (jC 6 1)<|Fx.St.nil ?_;refine jh G (6*k+q+18) (au ((x (6*k+q+18))+n)) fun w8 m19 R z6 => ?_;have I:aQ w8 c 54 (rv .i64 (upd x (6*k+q+18) ((x (6*k+q+18))+n))) 59:=m19.to (Fx.yC _ _ _ _);have m21:=m18.dh R (by omega);have D:=R.below C C.size (by omega);refine aC<|ay<|Lv (.agg (aA 54 (rv .i64 (upd x (6*k+q+18) ((x (6*k+q+18))+n))))) (gD I.aI 0)<|fI m21 0 fun w9 m22 K z7 => ?_;have m23:aQ w9 h 54 (rv .i64 (upd x (6*k+q+18) ((x (6*k+q+18))+n))) 59:=aW m22;have m24:=I.dh K (by omega);have T:=K.below D D.size (by omega);refine av (au 0) (aC (Wr (⟨.tuple #[.agg (aA 54 (rv .i64 (upd x (6*k+q+18) ((x (6*k+q+18))+n)))),au 0],gT Tryz.results81 ⟨_,rfl,aX m23.aI (by kernel_rfl) (by kernel_rfl)⟩ (by exact rfl),?_⟩)));refine⟨?_,T⟩;have a:dw x ((k:Int)+1) ((q:Int)+1) n=(upd x (6*k+q+18) (x (6*k+q+18)+n),0):=by
    unfold dw nN;rw[b_ g,mo b k y,g_ o,KD];exact Aa b r s (by rw[l,d]; rfl) rfl (by omega)
   rw[a]
   all_goals rfl
  rw[S_]at d;refine lM (yN j _) aF (by rw[d])<|av aG<|aC<|aO<|ay<|av (.agg (aA 54 (rv .i64 (fun _=>0))))<|fI u 0 fun um nA M z8 => ?_;have oo:aQ um h 54 (rv .i64 (fun _=>0)) 59:=aW nA;have pE:=p.dh M (by omega);have U:=M.below f f.size (by omega);refine av (au 10) (aC (Wr (sR (⟨.tuple #[.agg (aA 54 (rv .i64 (fun _=>0))),au 10],gT Tryz.results81 ⟨_,rfl,aX oo.aI (by kernel_rfl) (by kernel_rfl)⟩ (by exact rfl),?_⟩))));refine⟨?_,U⟩;have a:dw x ((k:Int)+1) j n=(zero,10):=by
   unfold dw;rw[d,H_];exact Qc b r s
  rw[a]
  all_goals rfl
 refine Lv aG (nH t)<|aC<|aO<|ay<|av (.agg (aA 54 (rv .i64 (fun _=>0))))<|av (au (eH x i n))<|fI u 0 fun Ev oN N z9 => ?_;have pF:aQ Ev h 54 (rv .i64 (fun _=>0)) 59:=aW oN;have oq:=p.dh N (by omega);have V:=N.below f f.size (by omega);refine av (au (eH x i n)) (aC (Wr (sR (⟨.tuple #[.agg (aA 54 (rv .i64 (fun _=>0))),au (eH x i n)],gT Tryz.results81 ⟨_,rfl,aX pF.aI (by kernel_rfl) (by kernel_rfl)⟩ (by exact rfl),?_⟩))));refine⟨?_,V⟩;have a:dw x i j n=(zero,eH x i n):=by
  exact Qd t
 rw[a]
 all_goals rfl
namespace Rt
theorem DV{m:lD}{x:Int}(h:0<=m.node x) : ∃ q:Nat,q<m.s.nn/\gW (fun i=>decide (m.id i=x)) m.s.nn=(q:Int)/\m.id q=x:=by
 rcases jF (fun i=>decide (m.id i=x)) m.s.nn with ⟨q,b,e,a⟩|⟨e,_⟩
 ·exact⟨q,b,e,h_ a⟩
 unfold lD.node at h; omega
theorem Oo{n:Nat}{x:Nat->Int}{r:Int} : ∀ j,j<(n+1)*1->iA (rv .u64 x) (n*1) (bI (fun j=>rv .u64 (fun _=>0) (j % 1)) (0*1) 1 (fun _=>aD r)) j=rv .u64 (aH x n r) j:=by
 intro j a;unfold iA rv aH;by_cases h:j<n*1
 ·rw[d_ h,b_ (by omega)]
 rw[b_ h,d_ (by omega)];unfold bI;rw[d_ (by omega)]
theorem KE{P:Nat->Bool}{n k j:Nat}(e:k=j+1)(h : ∀ i,k<=i->i<n->P i=true)(c:P j=true) : ∀ i,j<=i->i<n->P i=true:=fun i d b=>by
 by_cases a:i=j
 ·subst a; exact c
 ·exact h i (by omega) b
end Rt
theorem AQ(m:lD)(p a:Nat)(o r:Int)(w:World)(h:CB w p m)(ha:a<6)(b:o=(a:Int)+1) :
 Calls Tryz.prog 108 #[(pt p),au o,aD r] w fun e w'=>e = .returned (.bool (decide (0<=m.kP a r)))/\Below w.heap.size w w':=by
 subst b; exact Xy m p a r w h ha
set_option maxRecDepth 20000 in
set_option maxHeartbeats 2000000 in
theorem XM(m:lD)(B p a D:Nat)(v:EvM)(w:World)(O:vP w B p m)(G:B<=w.heap.size)(ha:a<6)(ho:v.o=(a:Int)+1)(bgg:m.s.gn<=900000)(ZW : ∀ i,i<6->m.rn i<=900000)(hTN : ∀ x,m.node x=bE m.t m.tn x)(hD:bE m.t m.tn (bf m.t m.tn D v.node)<0)(hD2:D<=1000) :
 Calls Tryz.prog 79 #[(pt p),.agg (aA 14 (bQ v))] w fun e w'=>e = .returned (au (iQ m.core v))/\Below B w w'/\(iQ m.core v=0 -> ∃ m',m'.core=lS m.core v/\vP w' B p m'):=by
 have TM:=O.c;have hLn:=O.n;have hLg:=O.g;have TN:=O.tc;have TP:=O.t;have hLr:=O.r;have TQ:=O.pB;have Dq:=O.tB;have bn:=O.bn;have bg:=O.bg;have bt:=O.bt;have lpp:p<w.heap.size:=TM.lt;have QV:m.tb<w.heap.size:=TN.lt;refine Kent Tryz.func79 188 ?_;refine ay<|rF fun I w1 ng m1 s1 z1 => ?_;have⟨m2,m3,m4,m5,m6,m7⟩:=ql s1.old TM hLn hLg TN TP hLr;have b1:=eO s1.old (Below.refl B w) G;have sw:=jE ng (Below.refl B w).size;have⟨nK,tZ⟩:=vY ng TM.lt TN.lt;have wu:=m1.lt;refine av (au 0)<|aC<|Ws<|ay<|av (pt p)<|av (pt I)<|Lv (au v.o) (aM m1.aI 0)<|av (pf I 12)<|Lv (aD v.req) (aM m1.aI 12) ?_;have MO:CB w1 p m := { c:=m2.aI,an:=m3.arr,ag:=m4.arr,tc:=m5.aI,at2:=m6.arr,ar:=fun i N=>(m7.1 i N).arr,bn:=(by show m.s.nn<=1000000; omega),bg:=bg,bt:=(by show m.tn<=1000000; omega),br:=O.br };by_cases c17:(decide (0<=m.kP a v.req))=true
 ·refine dX (AQ m p a v.o v.req _ MO ha ho) aG (by rw[c17]) ?_;intro w2 hb1;have b2:=eO hb1 b1 G;refine aC<|aO<|ay<|av (au 14)<|aC<|Wr<|sR<|aJ (au 14) ?_;have eN:aL v=a:=by unfold aL; omega
  have Y:iQ m.core v=14:=by unfold iQ; rw[eN]; exact d_ (h_ c17)
  exact⟨pz Y.symm,b2,fun h0=>by rw[Y]at h0; cases h0⟩
 rw[S_]at c17;refine dX (AQ m p a v.o v.req _ MO ha ho) aF (by rw[c17]) ?_;intro w3 hb2;have⟨m15,m16,m17,m18,m19,m20,m21⟩:=jI hb2 m2 m3 m4 m5 m6 m7 m1;have b3:=eO hb2 b1 G;refine aC<|aK<|Wk<|sN<|Ws ?_;refine jO [0,1,2,4,3,5,6,7] [0,0,0,4,0,4,3,0] [(6,3,[3]),(6,5,[5]),(7,6,[6])] fun qA dS iy => ?_;have⟨m22,m23,m24,nA,oo,pE,oN⟩:=jI dS m15 m16 m17 m18 m19 m20 m21;have b4:=eO dS b3 G;refine aZ (pt p)<|aZ (pt p)<|aZ (pf p 20)<|aZ (pf I 9)<|Rs (pt m.tb) (aM m22.aI 20) ?_;refine Rs (aD v.node) (aM oN.aI 9) ?_;refine gI<|lV (IW m.tb m.ta m.tn m.tc m.t v.node D _ (tX nA oo bt) hD hD2) ?_;rintro e w4 ⟨K,vv,he,hown,rO,hK1,hb3⟩;obtain⟨a1,C,rfl⟩:=hown.val;refine⟨.slice a1 K C,he,?_⟩;clear he;have WH:K=bV m.t m.tn v.node:=vH rO hK1 hD hD2;have hKD:K<=1000:=by rw[WH]; exact DU _ _
 have⟨pF,oq,mJ,m32,qO,nX,pW⟩:=jI hb3 m22 m23 m24 nA oo pE oN;have b5:=eO hb3 b4 G;refine Ln<|aZ (.slice a1 (K) (C))<|bP<|Ws<|ay<|av (.slice a1 (K) (C))<|av (au K) ?_;by_cases c27:(K:Int)=0
 ·refine Lv aG (eF c27)<|aC<|aO<|ay<|av (au 9)<|aC<|Wr<|sR<|aJ (au 9) ?_;have eN:aL v=a:=by unfold aL; omega
  have ne1 : ¬ 0<=m.core.kP (aL v) v.req:=by rw[eN]; exact j_ c17
  have Y:iQ m.core v=9:=by unfold iQ; rw[b_ ne1]; exact d_ (WH.symm.trans (by omega))
  exact⟨pz Y.symm,b5,fun h0=>by rw[Y]at h0; cases h0⟩
 refine Lv aF (fE c27)<|aC<|aK<|Wk<|sN<|Ws<|ay<|av (au 0)<|aC<|Wb<|Wo (fun f H => ∃ k:Nat,∃ Rk:Nat->Nat->Int,k<=K/\dz (fun x=>bC x v.o v.aT) (oh m.core v.node) m.R k=(Rk,0)/\f 0=(pt p)/\f 3=(pt I)/\f 5 = .slice a1 (K) (C)/\f 6=au (k:Int)/\aQ H p 27 (mE m) 71/\Fx.Own H B 66 5 (.slice m.s.ga (m.s.gn) (m.s.gc)) m.s.gn (IU m)/\aQ H m.tb 1 (fun _ => .slice m.ta m.tn m.tc) 123/\Fx.Own H B 128 2 (.slice m.ta (m.tn) (m.tc)) m.tn (PV m.t)/\wI H B 6 m/\aQ H I 14 (bQ v) 32/\Fx.Own H qA.heap.size 28 1 (.slice a1 (K) (C)) K (rv .u64 (fun i=>bf m.t m.tn i v.node))/\Fx.Own H B 61 56 (.slice m.s.na (m.s.nn) (m.s.nc)) m.s.nn (flat 56 (fun l=>mD (m.id l) (m.par l) (Rk l)))/\Below B w H) (fun f _=>(K-(intOf (f 6)).toNat)) ⟨0,m.R,by omega,rfl,(by rfl),(by rfl),(by rfl),Fx.ic,pF,mJ,m32,qO,nX,pW,hown,oq,b5⟩ ?_;rintro f1 w5 ⟨k,Rk,hk,hRk,h1,Q,h3,h4,qm,rJ,qP,pX,sD,nY,mW,nC,b6⟩;refine Ws<|ay<|aR h4<|aR h3<|av (au K) ?_;by_cases c31:(k:Int)<(K:Int)
 ·refine Lv aG (gU c31)<|aC<|aO<|Wk<|sN<|Ws<|Wb<|Ws ?_;obtain⟨q,hq,eq0,_⟩:=DV (m:=m) (x:=bf m.t m.tn k v.node) (by rw[hTN]; exact rO k (by omega));have ex1:oh m.core v.node k=q:=by show(gW (fun i=>decide (m.id i=bf m.t m.tn k v.node)) m.s.nn).toNat=q; rw[eq0]; rfl
  refine Wl<|aR h1<|aR h3<|aR h4 ?_;obtain⟨CG,eq1⟩:=mW.addr (by omega);have sI:Fx.Own w5 qA.heap.size 28 1 (bK CG K C) K (rv .u64 (fun i=>bf m.t m.tn i v.node)):=mW.fq (K_ (fun q=>Value.slice q K C) eq1);refine Lv (pf CG k) (cZ 1 (hx:=(rfl.trans (K_ (fun q=>Value.slice q (K) (C)) eq1))))<|Lv (aD (bf m.t m.tn k v.node)) (aM sI.aI k) ?_;have qZ:Fx.Own w5 qA.heap.size 28 1 (.slice a1 (K) (C)) K (rv .u64 (fun i=>bf m.t m.tn i v.node)):=sI.fq (K_ (fun q=>Value.slice q K C) eq1.symm);have Uf:CB w5 p { m with R:=Rk } := { c:=qm.aI,an:=nC.arr,ag:=rJ.arr,tc:=qP.aI,at2:=pX.arr,ar:=fun i N=>(sD.1 i N).arr,bn:=(by show m.s.nn<=1000000; omega),bg:=bg,bt:=(by show m.tn<=1000000; omega),br:=O.br };refine dX ((IV { m with R:=Rk } p (bf m.t m.tn k v.node) _ Uf).mono (fun e w2 Q=>(⟨Q.1.trans (pz eq0),Q.2⟩:e = .returned (au (q:Int))/\_))) _ rfl ?_;intro w6 hb4;have⟨nZ,sF,xV,sJ,sK,uV,uo,tJ⟩:=mP hb4 qm rJ qP pX sD nY nC qZ;have b7:=eO hb4 b6 G;refine av (au q)<|aC<|Ws ?_;obtain⟨V,GU⟩:=uo.addr (by omega);have tK:Fx.Own w6 B 61 56 (bK V m.s.nn m.s.nc) m.s.nn (flat 56 (fun l=>mD (m.id l) (m.par l) (Rk l))):=uo.fq (K_ (fun q=>Value.slice q m.s.nn m.s.nc) GU);refine qI (T:=59) (T':=59) (a := .tmp 8) (v := .tmp 55) (m:=54) (z:=rv .i64 (fun _=>0)) (y:=rv .i64 ((bC (Rk q) v.o v.aT).1)) (u := .agg (aA 54 (rv .i64 ((bC (Rk q) v.o v.aT).1)))) 17 18 (List.replicate 20 (0,2,[],[])) #[(pt p),(pt p),(pt p),(pf p 18),.slice m.s.na (m.s.nn) (m.s.nc),au (q:Int),(pf V (56*q)),(pf V (56*q+2)),.agg (aA 54 (rv .i64 (Rk q))),(pt I),au v.o,(pf I 11),au v.aT,.tuple #[.agg (aA 54 (rv .i64 ((bC (Rk q) v.o v.aT).1))),au ((bC (Rk q) v.o v.aT).2)],.tuple #[.agg (aA 54 (rv .i64 ((bC (Rk q) v.o v.aT).1))),au ((bC (Rk q) v.o v.aT).2)],.agg (aA 54 (rv .i64 ((bC (Rk q) v.o v.aT).1))),au ((bC (Rk q) v.o v.aT).2),undef,undef,au ((bC (Rk q) v.o v.aT).2)] (by kernel_rfl) (by kernel_rfl) (by kernel_rfl) (by kernel_rfl) (by kernel_rfl) (by kernel_rfl) rfl (by kernel_rfl) rfl rfl (by kernel_rfl) (fun Z=>(show ev _ (.tmp 8)=(pt Z)from by kernel_rfl)) (fun Z=>(show ev _ (.tmp 55) = .agg (aA 54 (rv .i64 ((bC (Rk q) v.o v.aT).1)))from by kernel_rfl)) (bH _ _) (fun _ _=>rfl) (by kernel_rfl) (fun Z => ?_) ?_
  ·refine⟨?_,?_,?_,?_,?_,?_,?_,?_,?_,?_,?_,?_,?_,?_,?_,?_,?_,?_,?_,?_,trivial⟩
   ·exact .inr (.inr (oL (pt p) fun d b=>eP rfl ((bO (by kernel_rfl)).trans h1)))
   ·exact .inr (.inr nW)
   ·exact .inr (.inr nW)
   ·exact .inr (.inr nW)
   ·exact .inr (.inr (oL (.slice m.s.na (m.s.nn) (m.s.nc)) fun d b=>bB (x:=mE m) rfl (show ev _ (.tmp 44)=(pf p 18)from by kernel_rfl) (by kernel_rfl) (nZ.aI.below b (by have:=nZ.lt; omega)) (i:=18) (by omega) (by omega) rfl))
   ·exact .inr (.inr nW)
   ·exact .inr (.inr (oL (pf V (56*q)) fun d b=>dO rfl ((show ev _ (.tmp 45) = .slice m.s.na (m.s.nn) (m.s.nc)from by kernel_rfl).trans (K_ (fun q=>Value.slice q (m.s.nn) (m.s.nc)) GU)) (show ev _ (.tmp 46)=au (q:Int)from by kernel_rfl) Tryz.underlying50 (s:=56) (by kernel_rfl) (by omega) (by omega) (by omega)))
   ·exact .inr (.inr nW)
   ·exact .inr (.inr (oL (.agg (aA 54 (rv .i64 (Rk q)))) fun d b=>eT (x:=flat 56 (fun l=>mD (m.id l) (m.par l) (Rk l))) (y:=rv .i64 (Rk q)) rfl (show ev _ (.tmp 48)=(pf V (56*q+2))from by kernel_rfl) (by kernel_rfl) (by kernel_rfl) (tK.aI.below b (by have:=tK.lt; omega)) (i:=56*q+2) (by omega) (by omega) (fun jq hjq=>(Fx.kY (k:=q) (j:=2+jq) (by omega) (by omega)).trans ((fun jq _=>IQ _ _ _ jq) jq hjq))))
   ·exact .inr (.inr (oL (pt I) fun d b=>fK rfl ((bO (by kernel_rfl)).trans Q) Tryz.underlying32 rfl (s:=1) (by kernel_rfl) rfl rfl))
   ·exact .inr (.inr (oL (au v.o) fun d b=>bB (x:=bQ v) rfl (show ev _ (.tmp 50)=(pt I)from by kernel_rfl) (by kernel_rfl) (uV.aI.below b (by have:=uV.lt; omega)) (i:=0) (by omega) (by omega) rfl))
   ·exact .inr (.inr (oL (pf I 11) fun d b=>fK rfl ((bO (by kernel_rfl)).trans Q) Tryz.underlying32 rfl (s:=1) (by kernel_rfl) rfl (by show _+11=_; omega)))
   ·exact .inr (.inr (oL (au v.aT) fun d b=>bB (x:=bQ v) rfl (show ev _ (.tmp 52)=(pf I 11)from by kernel_rfl) (by kernel_rfl) (uV.aI.below b (by have:=uV.lt; omega)) (i:=11) (by omega) (by omega) rfl))
   ·exact .inr (.inr (Fx.Il (v := .tuple #[.agg (aA 54 (rv .i64 ((bC (Rk q) v.o v.aT).1))),au ((bC (Rk q) v.o v.aT).2)]) (by kernel_rfl) (by kernel_rfl) (Fx.qbC (fun d b=>rC (args := [.agg (aA 54 (rv .i64 (Rk q))),au v.o,au v.aT]) rfl (Fx.NA (show ev _ (.tmp 49) = .agg (aA 54 (rv .i64 (Rk q)))from by kernel_rfl) (show ev _ (.tmp 51)=au v.o from by kernel_rfl) (show ev _ (.tmp 53)=au v.aT from by kernel_rfl)) Tryz.func109 rfl rfl) (fun d b=>(XJ (Rk q) v.o v.aT _).mono fun e v2 h=>⟨h.1,h.2⟩))))
   ·exact .inr (.inr nW)
   ·exact .inr (.inr nW)
   ·exact .inr (.inr nW)
   ·exact .inl rfl
   ·exact .inr (.inl rfl)
   exact .inr (.inr nW)
  rintro Z w7 E A sP wZ hb5;have EH:p≠Z:=t_ (n_ (nZ.lt) sP);have alL:m.tb≠Z:=t_ (n_ (xV.lt) sP);have abT:I≠Z:=t_ (n_ (uV.lt) sP);have alM:V≠Z:=t_ (n_ (tK.lt) sP);have⟨uq,sM,sO,xg,pY,uI,nL,ru⟩:=mP hb5 nZ sF xV sJ sK uV tJ tK;have b8:=eO hb5 b7 G;have sP:w.heap.size<=Z:=m_ b7.size sP;have Bl:=wZ.lt;have q1:E 0=(pt p):=by rw[A]; exact(bO (by kernel_rfl)).trans h1
  have q2:E 3=(pt I):=by rw[A]; exact(bO (by kernel_rfl)).trans Q
  have q3:E 5 = .slice a1 (K) (C):=by rw[A]; exact(bO (by kernel_rfl)).trans h3
  have q4:E 6=au (k:Int):=by rw[A]; exact(bO (by kernel_rfl)).trans h4
  have q5:E 28=au (k:Int):=by rw[A]; kernel_rfl
  have q6:E 29 = .slice a1 (K) (C):=by rw[A]; kernel_rfl
  have q7:E 30=au (K:Int):=by rw[A]; kernel_rfl
  have q8:E 31 = .bool true:=by rw[A]; kernel_rfl
  have q9:E 34=(pt p):=by rw[A]; kernel_rfl
  have q10:E 35 = .slice a1 (K) (C):=by rw[A]; kernel_rfl
  have q11:E 36=au (k:Int):=by rw[A]; kernel_rfl
  have q12:E 37=(pf CG k):=by rw[A]; kernel_rfl
  have q13:E 38=aD (bf m.t m.tn k v.node):=by rw[A]; kernel_rfl
  have q14:E 39=au (q:Int):=by rw[A]; kernel_rfl
  have q15:E 7=au (q:Int):=by rw[A]; kernel_rfl
  have q16:E 41=(pt p):=by rw[A]; kernel_rfl
  have q17:E 42=(pt p):=by rw[A]; kernel_rfl
  have q18:E 43=(pt p):=by rw[A]; kernel_rfl
  have q19:E 44=(pf p 18):=by rw[A]; kernel_rfl
  have q20:E 45 = .slice m.s.na (m.s.nn) (m.s.nc):=by rw[A]; kernel_rfl
  have q21:E 46=au (q:Int):=by rw[A]; kernel_rfl
  have q22:E 47=(pf V (56*q)):=by rw[A]; kernel_rfl
  have q23:E 48=(pf V (56*q+2)):=by rw[A]; kernel_rfl
  have q24:E 49 = .agg (aA 54 (rv .i64 (Rk q))):=by rw[A]; kernel_rfl
  have q25:E 50=(pt I):=by rw[A]; kernel_rfl
  have q26:E 51=au v.o:=by rw[A]; kernel_rfl
  have q27:E 52=(pf I 11):=by rw[A]; kernel_rfl
  have q28:E 53=au v.aT:=by rw[A]; kernel_rfl
  have q29:E 54 = .tuple #[.agg (aA 54 (rv .i64 ((bC (Rk q) v.o v.aT).1))),au ((bC (Rk q) v.o v.aT).2)]:=by rw[A]; kernel_rfl
  have q30:E 40 = .tuple #[.agg (aA 54 (rv .i64 ((bC (Rk q) v.o v.aT).1))),au ((bC (Rk q) v.o v.aT).2)]:=by rw[A]; kernel_rfl
  have q31:E 55 = .agg (aA 54 (rv .i64 ((bC (Rk q) v.o v.aT).1))):=by rw[A]; kernel_rfl
  have q32:E 56=au ((bC (Rk q) v.o v.aT).2):=by rw[A]; kernel_rfl
  have q33:E 8=(pt Z):=by rw[A]; kernel_rfl
  have q34:E 9=au ((bC (Rk q) v.o v.aT).2):=by rw[A]; kernel_rfl
  clear A;refine sN<|Ws<|ay<|aR q34 ?_;by_cases c58:((bC (Rk q) v.o v.aT).2)=0
  ·refine Lv aF (kr c58)<|aC<|aK<|Wk<|sN ?_;refine jO [0,1,2,3,5,4,6,7,8,9] [0,0,0,0,4,0,4,0,0,3] [(9,4,[4]),(9,6,[6])] fun Cx gu nJ => ?_;have⟨m64,uW,uJ,wz,wB,rM,tL,uK,tN⟩:=Bq gu uq sM sO xg pY uI nL ru wZ;have b9:=eO gu b8 G;refine bY q1<|aZ (pt p)<|aZ (pt p)<|aZ (pf p 18)<|bY q15<|Rs (.slice m.s.na (m.s.nn) (m.s.nc)) (aM m64.aI 18) ?_;refine Rs (.agg (aA 54 (rv .i64 ((bC (Rk q) v.o v.aT).1)))) (gD tN.aI 0 (ha:=q33)) ?_;refine Rp (pf V (56*q)) (fun _=>cZ 56 (hx:=(rfl.trans (K_ (fun q=>Value.slice q (m.s.nn) (m.s.nc)) GU))))<|aZ (pf V (56*q+2))<|gI<|zP uK (56*q+2) fun w8 sG s9 z2 => ?_;have gM:=iw s9 uK.JK;have⟨xk,tO,uX,xq,xu,uY,uL⟩:=RD gM m64 uW uJ wz wB rM tL;have b10:=s9.below b9 (m_ G b9.size) uK.blk.1;have wC:Fx.Own w8 B 61 56 (bK V m.s.nn m.s.nc) m.s.nn (flat 56 (fun l=>mD (m.id l) (m.par l) (aH Rk q ((bC (Rk q) v.o v.aT).1) l))):=sG.congr (fun X W=>(Fx.Bp (k:=q) (j:=2) (by omega) (by omega) X W).trans (bJ (fun i N j hj=>BO i N j hj) X W));refine Ln<|Rn<|bM<|sN<|Wl<|aR q4<|Lv (au ((k:Int)+1)) dZ<|av (au ((k:Int)+1))<|Ln ?_;have yI:Fx.Own w8 B 61 56 (.slice m.s.na (m.s.nn) (m.s.nc)) m.s.nn (flat 56 (fun l=>mD (m.id l) (m.par l) (aH Rk q ((bC (Rk q) v.o v.aT).1) l))):=wC.fq (K_ (fun q=>Value.slice q m.s.nn m.s.nc) GU.symm);refine fZ ⟨k+1,(aH Rk q (bC (Rk q) v.o v.aT).1),by omega,(EP hRk ex1 (by first|exact c58|exact Classical.not_not.1 c58)),q1,q2,q3,Fx.ic,xk,tO,uX,xq,xu,uY,uL,yI,b10⟩ ?_
   show(K-(intOf (au ((k:Int)+1))).toNat)<_;simp only[h4,intOf]; omega
  refine Lv aG (nH c58)<|aC<|aO<|ay<|aR q34<|av (au ((bC (Rk q) v.o v.aT).2))<|aC<|Wr<|sR<|bL<|sR<|qc<|bL<|sR<|aJ (au ((bC (Rk q) v.o v.aT).2)) ?_;have eN:aL v=a:=by unfold aL; omega
  have ne1 : ¬ 0<=m.core.kP (aL v) v.req:=by rw[eN]; exact j_ c17
  have ne2 : ¬ bV m.core.t m.core.tn v.node=0:=fun e=>c27 (by rw[show K=0 from WH.trans e]; rfl);have ew:mU m.core v=dz (fun x=>bC x v.o v.aT) (oh m.core v.node) m.R K:=by unfold mU; rw[show bV m.core.t m.core.tn v.node=K from WH.symm]; rfl
  have Y:iQ m.core v=(bC (Rk q) v.o v.aT).2:=by
   unfold iQ; rw[b_ ne1,b_ ne2,ew];have e1:=GR hRk ex1 c58;rw[zZ (k:=k+1) (by rw[e1]; exact c58) K (by omega)]; exact e1
  exact⟨pz Y.symm,b8,fun h0=>L_ (Y.symm.trans h0) c58⟩
 refine Lv aF (gV c31)<|aC<|aK<|Wx<|cB<|gG<|cK<|sN<|Ws ?_;have hRK:dz (fun x=>bC x v.o v.aT) (oh m.core v.node) m.R K=(Rk,0):=by rw[show K=k by omega]; exact hRk
 refine Wl<|Lv (pt I) (je Q 0)<|Lv (au v.o) (aM nY.aI 0)<|Lv (pf I 12) (je Q 12)<|Lv (aD v.req) (aM nY.aI 12)<|Lv (pf I 9) (je Q 9)<|Lv (aD v.node) (aM nY.aI 9)<|Lv (pf I 11) (je Q 11)<|Lv (au v.aT) (aM nY.aI 11)<|av (.agg (aA 5 (bI (bI (bI (bI (fun J=>if J<1 then au 0 else if J<3 then aD 0 else if J<4 then au 0 else aD 0) 0 1 (fun _=>au v.o)) 1 1 (fun _=>aD v.req)) 2 1 (fun _=>aD v.node)) 3 1 (fun _=>au v.aT))))<|xD 5 (fun J=>if J<1 then au 0 else if J<3 then aD 0 else if J<4 then au 0 else aD 0) fun U w9 xX xw s10 z3 => ?_;have⟨yJ,zF,zG,zi,zk,zT,AJ⟩:=jI s10.old qm rJ qP pX sD nY nC;have b11:=eO s10.old b6 G;have Dz:=jE xX b6.size;have abU:=dn xX qm.lt;have IX:(.slice m.s.ga (m.s.gn) (m.s.gc):Value).ownBlock≠some U:=by rw[xX]; exact rJ.jw (z_ _)
 have⟨abV,alO⟩:=vY xX qP.lt nY.lt;have LK:=xw.lt;refine fI xw 0 (h1:=(bW (bW (bW (bW (fun jq _=>by show((fun J=>if J<1 then au 0 else if J<3 then aD 0 else if J<4 then au 0 else aD 0:Nat->Value) jq).oneCell'=true; simp only[]; repeat (first|rfl|split)) (fun _ _=>rfl)) (fun _ _=>rfl)) (fun _ _=>rfl)) (fun _ _=>rfl))) fun um yM s11 z4 => ?_
 have zl:aQ um U 5 (bI (bI (bI (bI (fun J=>if J<1 then au 0 else if J<3 then aD 0 else if J<4 then au 0 else aD 0) 0 1 (fun _=>au v.o)) 1 1 (fun _=>aD v.req)) 2 1 (fun _=>aD v.node)) 3 1 (fun _=>au v.aT)) 66:=aW yM;have jQ:=iw s11 xw.ty;have xB:=lN jQ yJ;have zW:=zF.dh s11 IX;have⟨Bn,DT,EG,rX,sS⟩:=qL jQ zG zi zk zT AJ;have b12:=s11.below b11 (m_ G b11.size) (by omega);refine aC<|Ws ?_;have qQ:aQ um U 5 (iZ (qb v)) 66:=zl.congr (fun j hj=>by rcases j with _|_|_|_|_|j <;> first|rfl|omega)
 refine Wl<|aR h1<|av (pt p)<|av (pt p)<|av (pf p 19)<|Lv (.slice m.s.ga (m.s.gn) (m.s.gc)) (aM xB.aI 19)<|av (au m.s.gn)<|av (au m.s.gn)<|aC<|Ws ?_;refine Ar [0,1,2,3,4,5,6,7,8,9,10,11,12] [0,0,0,0,0,1,4,2,2,0,0,0,3] (iP [66]) vX Fx.iP.trans (fH := [(12,5,[5]),(7,6,[6]),(8,6,[7,6]),(12,6,[6]),(8,7,[7]),(9,7,[7]),(10,7,[7]),(11,7,[7]),(12,7,[7]),(9,8,[8]),(10,8,[8]),(11,8,[8]),(12,8,[8])]) (by kernel_rfl) (by kernel_rfl) (by kernel_rfl) (by kernel_rfl) (by kernel_rfl) fun QW lK Ay => ?_;have⟨nP,nQ,oG,og,pJ,rY,vF,qR⟩:=mP lK xB zW Bn DT EG rX sS qQ;have b13:=eO lK b12 G;refine bY h1<|bY h1<|aZ (pt p)<|aZ (pt p)<|aZ (pf p 19)<|Rd (v := .slice m.s.ga (m.s.gn) (m.s.gc)) (by rfl) (by rfl) (vX _) (fun d b=>bB (x:=mE m) rfl rfl (by kernel_rfl) (nP.jZ b (by decide)).aI (i:=19) (by omega) (by omega) rfl) ?_;refine Rs (.agg (aA 5 (iZ (qb v)))) (gD qR.aI 0) ?_;refine Cw<|yD (vs := [(0,.agg (aA 5 (iZ (qb v))))]) (s:=5) (zc:=fun J=>if J<1 then au 0 else if J<3 then aD 0 else if J<4 then au 0 else aD 0) (y:=bI (fun j=>(fun J=>if J<1 then au 0 else if J<3 then aD 0 else if J<4 then au 0 else aD 0) (j % 5)) (0*5) 5 (iZ (qb v))) (by rfl) rfl rfl Tryz.underlying51 (by kernel_rfl) (by rfl) (by rfl) (by kernel_rfl) (by rw[bD (off:=0*5) (s:=5) (y:=iZ (qb v)) rfl (bH _ _) (by rfl)]; rfl) rfl fun g4 Ev Ml uy s13 z5 => ?_;have⟨zm,vG,zn,BI,xH,uz,qw,xZ⟩:=mP s13.old nP nQ oG og pJ rY vF qR;have b14:=eO s13.old b13 G;have WI:=jE Ml b13.size;have XO:=dn Ml nP.lt;have XP:(.slice m.s.ga (m.s.gn) (m.s.gc):Value).ownBlock≠some g4:=by rw[Ml]; exact nQ.jw (z_ _)
 have⟨ajm,XQ,ajn⟩:=Iy Ml oG.lt rY.lt qR.lt;have Ug:=uy.lt;refine Ln ⟨Fx.iP.of_below s13.old,?_⟩;refine Cw<|yZ (B:=B) (s:=5) (bytes:=40) (k:=m.s.gn) (m:=1) (v := .slice m.s.ga (m.s.gn) (m.s.gc)) (x:=IU m) (by rfl) rfl rfl rfl Tryz.underlying51 (by kernel_rfl) (by kernel_rfl) rfl rfl vG uy.aI (wJ (tY _)) (by omega) (by omega) (by omega) (m_ G b14.size) fun F C Dn ho1 hg1 uh hlt1 => ?_;have qN:=za hg1 vG;have⟨uD,BJ,IY,EI,AL,EJ⟩:=RB qN zm zn BI xH uz qw;have Ga:=xZ.grown hg1 IX;have ajo:U≠F:=fun e=>uh.elim (fun e2=>IX (by rw[e]; exact e2)) (fun e2=>by have:=xZ.lt; omega);have yc:Fx.Own Dn B 66 5 (bK F (m.s.gn+1) C) (m.s.gn+1) (flat 5 (Fx.JL (fun l=>iZ (m.g l)) (iZ (qb v)) m.s.gn m.s.gn)):=(ho1.congr (fun j hj=>(Fx.xO j hj).trans (bJ (fun i N q _=>Fx.xP i N q) j hj)));have b15:Below B w Dn:=yY b14 hg1 (m_ G b14.size) (fun q hq=>(vG.ge hq).1);refine Ln ⟨qN,?_⟩;refine aZ (pt p)<|aZ (pt p)<|aZ (pf p 19)<|gI<|jh uD 19 (bK F (m.s.gn+1) C) fun GD BK Dm z6 => ?_;have zS:=iw Dm uD.ty;have⟨zX,I7,Kv,EK,EL,Gb,Gc⟩:=RD zS BJ IY EI AL EJ Ga yc;have b16:=Dm.below b15 (m_ G b15.size) (by omega);refine Ln<|bP<|Dl (fun f H => ∃ k:Nat,k<=m.s.gn/\k=down (fun i=>ER v (m.g i)) m.s.gn/\f 0=(pt p)/\f 3=(pt I)/\f 10=(pt U)/\f 11=au (k:Int)/\aQ H m.tb 1 (fun _ => .slice m.ta m.tn m.tc) 123/\Fx.Own H B 128 2 (.slice m.ta (m.tn) (m.tc)) m.tn (PV m.t)/\wI H B 6 m/\aQ H I 14 (bQ v) 32/\Fx.Own H B 61 56 (.slice m.s.na (m.s.nn) (m.s.nc)) m.s.nn (flat 56 (fun l=>mD (m.id l) (m.par l) (Rk l)))/\aQ H U 5 (iZ (qb v)) 66/\aQ H p 27 (dB (mE m) 19 (bK F (m.s.gn+1) C)) 71/\Fx.Own H B 66 5 (bK F (m.s.gn+1) C) (m.s.gn+1) (flat 5 (Fx.JL (fun l=>iZ (m.g l)) (iZ (qb v)) m.s.gn k))/\Below B w H) ?_ ?_
 ·refine Wb<|Wo (fun f H => ∃ k:Nat,k<=m.s.gn/\(∀ i,k<=i->i<m.s.gn->ER v (m.g i)=true)/\f 0=(pt p)/\f 3=(pt I)/\f 10=(pt U)/\f 11=au (k:Int)/\aQ H m.tb 1 (fun _ => .slice m.ta m.tn m.tc) 123/\Fx.Own H B 128 2 (.slice m.ta (m.tn) (m.tc)) m.tn (PV m.t)/\wI H B 6 m/\aQ H I 14 (bQ v) 32/\Fx.Own H B 61 56 (.slice m.s.na (m.s.nn) (m.s.nc)) m.s.nn (flat 56 (fun l=>mD (m.id l) (m.par l) (Rk l)))/\aQ H U 5 (iZ (qb v)) 66/\aQ H p 27 (dB (mE m) 19 (bK F (m.s.gn+1) C)) 71/\Fx.Own H B 66 5 (bK F (m.s.gn+1) C) (m.s.gn+1) (flat 5 (Fx.JL (fun l=>iZ (m.g l)) (iZ (qb v)) m.s.gn k))/\Below B w H) (fun f _=>(intOf (f 11)).toNat) ⟨m.s.gn,by omega,(fun i h1 Q=>L_ h1 (by omega)),h1,Q,(by rfl),Fx.ic,zX,I7,Kv,EK,EL,Gb,BK,Gc,b16⟩ ?_;rintro f3 L ⟨k,hk,hgt,S,h6,h7,M,BL,EM,BM,EX,EN,zY,BN,AO,b17⟩;refine Ws<|Ws ?_;refine zQ<|eG M ?_;by_cases c97:0<(k:Int)
  ·obtain⟨j,ej⟩ : ∃ j,k=j+1:=⟨k-1,by omega⟩;refine Qv aG (fun d b=>lW c97)<|aU aG<|eG S<|aU (pt p)<|aU (pt p)<|aU (pf p 19)<|Qv (bK F (m.s.gn+1) C) (fun d b=>aM (BN.aI.dr b) 19 (Fx.kW (by omega)))<|eG M<|Qv (au j) (fun d b=>gF)<|Qv (pf F (5*j)) (fun d b=>cZ 5)<|aU (pf F (5*j))<|Qv (au ((m.g j) 0)) (fun d b=>aM (AO.aI.dr b) (5*j) (Fx.dF (k:=j) (j:=0) (by omega) (by omega) ((congrFun (Fx.zy (by omega) (by omega)) 0).trans rfl)))<|Qv (pt U) (fun d b=>je h7 0)<|Qv (au v.o) (fun d b=>aM (zY.aI.dr b) 0) ?_;by_cases Uh:v.o<((m.g j) 0)
   ·refine Qv aG (fun d b=>lW Uh)<|aU aG<|aP<|aP<|aP<|aP<|aP<|aP<|aP<|aP<|aP<|aP<|aP<|aP<|aP<|aP<|aP<|aP<|aP<|aP<|aP<|aP<|aP<|aP<|aP ?_;refine aP<|aP<|aP<|aP<|aP<|aU aG<|aU aG<|Qn ?_;rintro _ ⟨P,rfl⟩;obtain⟨DJ,rW⟩ : ∃ d,d=World.drewN L P:=⟨_,rfl⟩;rw[<- rW];have s15:Stp L.heap.size L DJ:=(by rw[rW]; exact Sb (jM L P));have⟨IZ,TR,Ui,TS,TT,aco,TU,abW⟩:=mP s15.old BL EM BM EX EN zY BN AO;have b18:=eO s15.old b17 G;clear rW;refine sN<|aO<|Wk<|sN<|Wb<|Ws ?_;refine jO [0,1,2,3,5,6,7,8,9,11,12,4,10,13,14,15,16] [0,0,0,0,4,0,0,0,0,0,4,0,0,0,4,0,3] [(16,4,[4]),(16,10,[10]),(16,14,[14])] fun wt4 qB GA => ?_;have⟨TV,PZ,TW,TY,abX,abY,acp,P5⟩:=mP qB IZ TR Ui TS TT aco TU abW;have b19:=eO qB b18 G;refine bY S<|aZ (pt p)<|aZ (pt p)<|aZ (pf p 19)<|bY M<|bY S<|aZ (pt p)<|aZ (pt p)<|aZ (pf p 19)<|bY M<|Rp (au j) (fun _=>gF)<|Rs (bK F (m.s.gn+1) C) (aM acp.aI 19 (Fx.kW (by omega))) ?_;refine Rs (bK F (m.s.gn+1) C) (aM acp.aI 19 (Fx.kW (by omega))) ?_;refine Rp (pf F (5*j)) (fun _=>cZ 5)<|Rs (.agg (aA 5 (iZ (m.g j)))) (gD P5.aI (5*j) (fun jq hjq=>(Fx.kY (k:=j) (by omega) hjq).trans (congrFun (Fx.zy (by omega) (by omega)) jq))) ?_;refine Rp (pf F (5*k)) (fun _=>cZ 5)<|gI<|zP P5 (5*k) (h1:=(fun j _=>tY _ j)) fun Mt abZ Jv z7 => ?_;have zf:=iw Jv P5.JK;have⟨ags,acd,ace,acf,alP⟩:=qL zf TV PZ TW TY abX;have alQ:=abY.dh Jv (by omega);have alR:=lN zf acp;have b20:=Jv.below b19 (m_ G b19.size) P5.blk.1;have alS:Fx.Own Mt B 66 5 (bK F (m.s.gn+1) C) (m.s.gn+1) (flat 5 (Fx.JL (fun l=>iZ (m.g l)) (iZ (qb v)) m.s.gn j)):=abZ.congr (fun X W=>(Fx.uQ (k:=k) (by omega) X W).trans (bJ (fun i N q _=>Fx.yE ej (by omega) i N q) X W));refine Ln<|bP<|Wl<|aR M<|Lv (au j) gF<|av (au j)<|Ln<|bM<|fZ ⟨j,by omega,(KE ej hgt (by unfold ER; rw[f_ Uh]; rfl)),S,h6,h7,Fx.ic,ags,acd,ace,acf,alP,alQ,alR,alS,b20⟩ ?_;show(intOf (au j)).toNat<_;simp only[M,intOf]; omega
   refine Qv aF (fun d b=>lX Uh)<|aU aF<|eG S<|aU (pt p)<|aU (pt p)<|aU (pf p 19)<|Qv (bK F (m.s.gn+1) C) (fun d b=>aM (BN.aI.dr b) 19 (Fx.kW (by omega)))<|eG M<|Qv (au j) (fun d b=>gF)<|Qv (pf F (5*j)) (fun d b=>cZ 5)<|aU (pf F (5*j))<|Qv (au ((m.g j) 0)) (fun d b=>aM (AO.aI.dr b) (5*j) (Fx.dF (k:=j) (j:=0) (by omega) (by omega) ((congrFun (Fx.zy (by omega) (by omega)) 0).trans rfl)))<|Qv (pt U) (fun d b=>je h7 0)<|Qv (au v.o) (fun d b=>aM (zY.aI.dr b) 0) ?_;by_cases XR:((m.g j) 0)=v.o
   ·refine Qv aG (fun d b=>eF XR)<|aU aG<|eG S<|aU (pt p)<|aU (pt p)<|aU (pf p 19)<|Qv (bK F (m.s.gn+1) C) (fun d b=>aM (BN.aI.dr b) 19 (Fx.kW (by omega)))<|eG M<|Qv (au j) (fun d b=>gF)<|Qv (pf F (5*j)) (fun d b=>cZ 5)<|aU (pf F (5*j+1))<|Qv (aD ((m.g j) 1)) (fun d b=>aM (AO.aI.dr b) (5*j+1) (Fx.dF (k:=j) (j:=1) (by omega) (by omega) ((congrFun (Fx.zy (by omega) (by omega)) 1).trans rfl)))<|Qv (pf U 1) (fun d b=>je h7 1)<|Qv (aD v.req) (fun d b=>aM (zY.aI.dr b) 1) ?_;by_cases c139:v.req<((m.g j) 1)
    ·refine Qv aG (fun d b=>lW c139)<|aU aG<|aU aG<|aU aG<|Qn ?_;rintro _ ⟨P,rfl⟩;obtain⟨wq2,wK⟩ : ∃ d,d=World.drewN L P:=⟨_,rfl⟩;rw[<- wK];have LP:Stp L.heap.size L wq2:=(by rw[wK]; exact Sb (jM L P));have⟨alT,alU,alV,alW,alX,alY,alZ,ama⟩:=mP LP.old BL EM BM EX EN zY BN AO;have F9:=eO LP.old b17 G;clear wK;refine sN<|aO<|Wk<|sN<|Wb<|Ws ?_;refine jO [0,1,2,3,5,6,7,8,9,11,12,4,10,13,14,15,16] [0,0,0,0,4,0,0,0,0,0,4,0,0,0,4,0,3] [(16,4,[4]),(16,10,[10]),(16,14,[14])] fun wt5 zD Sj => ?_;have⟨amb,amc,amd,ame,amf,amg,acr,XT⟩:=mP zD alT alU alV alW alX alY alZ ama;have J8:=eO zD F9 G;refine bY S<|aZ (pt p)<|aZ (pt p)<|aZ (pf p 19)<|bY M<|bY S<|aZ (pt p)<|aZ (pt p)<|aZ (pf p 19)<|bY M<|Rp (au j) (fun _=>gF)<|Rs (bK F (m.s.gn+1) C) (aM acr.aI 19 (Fx.kW (by omega))) ?_;refine Rs (bK F (m.s.gn+1) C) (aM acr.aI 19 (Fx.kW (by omega))) ?_;refine Rp (pf F (5*j)) (fun _=>cZ 5)<|Rs (.agg (aA 5 (iZ (m.g j)))) (gD XT.aI (5*j) (fun jq hjq=>(Fx.kY (k:=j) (by omega) hjq).trans (congrFun (Fx.zy (by omega) (by omega)) jq))) ?_;refine Rp (pf F (5*k)) (fun _=>cZ 5)<|gI<|zP XT (5*k) (h1:=(fun j _=>tY _ j)) fun w16 amh s20 z8 => ?_;have zh:=iw s20 XT.JK;have⟨ami,amj,amk,aml,amm⟩:=qL zh amb amc amd ame amf;have amn:=amg.dh s20 (by omega);have amo:=lN zh acr;have Sd:=s20.below J8 (m_ G J8.size) XT.blk.1;have amq:Fx.Own w16 B 66 5 (bK F (m.s.gn+1) C) (m.s.gn+1) (flat 5 (Fx.JL (fun l=>iZ (m.g l)) (iZ (qb v)) m.s.gn j)):=amh.congr (fun X W=>(Fx.uQ (k:=k) (by omega) X W).trans (bJ (fun i N q _=>Fx.yE ej (by omega) i N q) X W));refine Ln<|bP<|Wl<|aR M<|Lv (au j) gF<|av (au j)<|Ln<|bM<|fZ ⟨j,by omega,(KE ej hgt (by unfold ER; rw[f_ XR,f_ c139]; cases decide (v.o<m.g j 0) <;> rfl)),S,h6,h7,Fx.ic,ami,amj,amk,aml,amm,amn,amo,amq,Sd⟩ ?_
     show(intOf (au j)).toNat<_;simp only[M,intOf]; omega
    refine Qv aF (fun d b=>lX c139)<|aU aF<|aU aF<|aU aF<|Qn ?_;rintro _ ⟨P,rfl⟩;obtain⟨Qa,EY⟩ : ∃ d,d=World.drewN L P:=⟨_,rfl⟩;rw[<- EY];have s21:Stp L.heap.size L Qa:=(by rw[EY]; exact Sb (jM L P));have⟨amr,ams,amu,amv,amw,amx,amy,amA⟩:=mP s21.old BL EM BM EX EN zY BN AO;have Sg:=eO s21.old b17 G;clear EY;refine sN<|aK<|Wx<|cB<|gG<|cK ?_;exact xE ⟨k,hk,(Fx.oK hk hgt (.inr (fun j2 e=>by rw[show j2=j by omega]; unfold ER; rw[g_ Uh,g_ c139,H_]; rfl))),S,h6,h7,(M.trans Fx.ic),amr,ams,amu,amv,amw,amx,amy,amA,Sg⟩
   refine Qv aF (fun d b=>fE XR)<|aU aF<|aP<|aP<|aP<|aP<|aP<|aP<|aP<|aP<|aP<|aP<|aP<|aP<|aP<|aU aF<|aU aF<|aU aF<|Qn ?_;rintro _ ⟨P,rfl⟩;obtain⟨wq4,EZ⟩ : ∃ d,d=World.drewN L P:=⟨_,rfl⟩;rw[<- EZ];have s22:Stp L.heap.size L wq4:=(by rw[EZ]; exact Sb (jM L P));have⟨amB,amC,amD,amE,amF,amG,amH,amI⟩:=mP s22.old BL EM BM EX EN zY BN AO;have b25:=eO s22.old b17 G;clear EZ;refine sN<|aK<|Wx<|cB<|gG<|cK ?_;exact xE ⟨k,hk,(Fx.oK hk hgt (.inr (fun j2 e=>by rw[show j2=j by omega]; unfold ER; rw[g_ Uh,g_ XR]; rfl))),S,h6,h7,(M.trans Fx.ic),amB,amC,amD,amE,amF,amG,amH,amI,b25⟩
  refine Qv aF (fun d b=>lX c97)<|aU aF<|aP<|aP<|aP<|aP<|aP<|aP<|aP<|aP<|aP<|aP<|aP<|aP<|aP<|aP<|aP<|aP<|aP<|aP<|aP<|aP<|aP<|aP<|aP ?_;refine aP<|aP<|aP<|aP<|aP<|aP<|aP<|aP<|aP<|aP<|aP<|aP<|aP<|aP<|aP<|aP<|aP<|aP<|aP<|aP<|aU aF<|Qn ?_;rintro _ ⟨P,rfl⟩;obtain⟨wq5,MP⟩ : ∃ d,d=World.drewN L P:=⟨_,rfl⟩;rw[<- MP];have s23:Stp L.heap.size L wq5:=by rw[MP]; exact Sb (jM L P)
  have⟨amJ,amK,amL,amM,amN,amO,amP,amQ⟩:=mP s23.old BL EM BM EX EN zY BN AO;have b26:=eO s23.old b17 G;clear MP;refine sN<|aK<|Wx<|cB<|gG<|cK ?_;exact xE ⟨k,hk,(Fx.oK hk hgt (.inl (by omega))),S,h6,h7,(M.trans Fx.ic),amJ,amK,amL,amM,amN,amO,amP,amQ,b26⟩
 rintro f4 Sn ⟨k,hk,ek,h9,h10,h11,h12,amR,amS,amT,amU,amV,amW,amX,amY,b27⟩;refine Ws ?_;refine jO [0,1,2,3,5,4,6,7,8] [0,0,0,0,4,0,4,0,3] [(8,4,[4]),(8,6,[6])] fun wt6 J9 afK => ?_;have⟨amZ,ana,anb,anc,ane,agC,agD,acs⟩:=mP J9 amR amS amT amU amV amW amX amY;have b28:=eO J9 b27 G;refine bY h9<|aZ (pt p)<|aZ (pt p)<|aZ (pf p 19)<|bY h12<|Rs (bK F (m.s.gn+1) C) (aM agD.aI 19 (Fx.kW (by omega))) ?_;refine Rs (.agg (aA 5 (iZ (qb v)))) (gD agC.aI 0 (ha:=h11)) ?_;refine Rp (pf F (5*k)) (fun _=>cZ 5)<|gI<|zP acs (5*k) (h1:=(fun j _=>tY _ j)) fun LJ anf ZH z9 => ?_;have AB:=iw ZH acs.JK;have⟨ang,anh,agE,ani,anj⟩:=qL AB amZ ana anb anc ane;have ank:=agC.dh ZH (by omega);have anl:=lN AB agD;have b29:=ZH.below b28 (m_ G b28.size) acs.blk.1;have anm:Fx.Own LJ B 66 5 (bK F (m.s.gn+1) C) (m.s.gn+1) (flat 5 (Fx.Ir (fun l=>iZ (m.g l)) k (iZ (qb v)))):=anf.congr (fun X W=>(Fx.uQ (k:=k) (by omega) X W).trans (bJ (fun i N q _=>Fx.tu (by omega) i N q) X W));refine Ln<|bP<|Ws ?_;have ano:Fx.Own LJ B 28 1 (.slice (m.ra a) (m.rn a) (m.rc a)) (m.rn a) (rv .u64 (m.rq a)):=agE.1 a ha;have bra:=O.br a ha;refine Ar [0,1,4,5,8,9,12,16,17,2,3,6,7,10,11,13,14,15,18,19] [0,0,1,0,0,0,1,0,0,0,0,1,0,4,2,2,0,0,0,3] (iP [28]) vX Fx.iP.trans (fH := [(19,2,[2]),(19,6,[6]),(19,11,[11]),(14,13,[13]),(15,13,[14,13]),(19,13,[13]),(15,14,[14]),(18,14,[14]),(19,14,[14]),(18,15,[15]),(19,15,[15])]) (by kernel_rfl) (by kernel_rfl) (by kernel_rfl) (by kernel_rfl) (by kernel_rfl) fun wt7 Ka afM => ?_;have⟨agF,anp,anq,XU,anr,ant,acu,agG,agH⟩:=Bq Ka ang anh agE ani anj ank anl anm ano;have b30:=eO Ka b29 G;refine bY h9<|Rp (pt I) (fun _=>je h10 0)<|bY h9<|Rp (pt I) (fun _=>je h10 0)<|aZ (pt p)<|aZ (pf p 21)<|Rp (pf I 12) (fun _=>je h10 12)<|aZ (pt p)<|aZ (pf p 21)<|Rd (v:=au v.o) (by rfl) (by rfl) (vX _) (fun d b=>bB (x:=bQ v) rfl rfl (by kernel_rfl) (XU.jZ b (by decide)).aI (i:=0) (by omega) (by omega) rfl) ?_;refine Rp (au a) (fun _=>gF)<|Rd (v:=au v.o) (by rfl) (by rfl) (vX _) (fun d b=>bB (x:=bQ v) rfl rfl (by kernel_rfl) (XU.jZ b (by decide)).aI (i:=0) (by omega) (by omega) rfl) ?_;refine Rp (au a) (fun _=>gF)<|Rp (pf p (a+21)) (fun _=>jC 6 1)<|Rd (v := .slice (m.ra a) (m.rn a) (m.rc a)) (by rfl) (by rfl) (vX _) (fun d b=>bB (x:=dB (mE m) 19 (bK F (m.s.gn+1) C)) rfl rfl (by kernel_rfl) (acu.jZ b (by decide)).aI (i:=a+21) (by omega) (by omega) (Fx.Ao (by omega) (wH _ (by omega)))) ?_;refine Rs (aD v.req) (aM XU.aI 12) ?_;refine Cw<|yD (vs := [(0,aD v.req)]) (s:=1) (zc:=rv .u64 (fun _=>0)) (y:=bI (fun j=>(rv .u64 (fun _=>0)) (j % 1)) (0*1) 1 (fun _=>aD v.req)) (by rfl) rfl rfl Tryz.underlying63 (by kernel_rfl) (by rfl) (by rfl) (by kernel_rfl) (by rw[bD (off:=0*1) (s:=1) (y:=fun _=>aD v.req) rfl (cells_one (by rfl)) (by rfl)]; rfl) rfl fun g6 ZI eg6 agI s27 z10 => ?_;have⟨anu,anv,anw,anx,anz,anA,acw⟩:=jI s27.old agF anp anq anr acu agG agH;have b31:=eO s27.old b30 G;have lg6:=jE eg6 b30.size;have⟨ajp,ajq,ajr,ajs,ajt⟩:=Dh eg6 agF.lt XU.lt ant.lt acu.lt agG.lt;have aju:(.slice (m.ra a) (m.rn a) (m.rc a):Value).ownBlock≠some g6:=by rw[eg6]; exact agH.jw (z_ _)
 have tg6:=agI.lt;refine Ln ⟨Fx.iP.of_below s27.old,?_⟩;refine Cw<|yZ (B:=B) (s:=1) (bytes:=8) (k:=(m.rn a)) (m:=1) (v := .slice (m.ra a) (m.rn a) (m.rc a)) (x:=rv .u64 (m.rq a)) (by rfl) rfl rfl rfl Tryz.underlying63 (by kernel_rfl) (by kernel_rfl) rfl rfl acw agI.aI (wJ (fun _=>rfl)) (by omega) (by omega) (by omega) (m_ G b31.size) fun g7 cap2 Mv ho2 hg2 MI hlt2 => ?_;have EF:=za hg2 acw;have⟨anB,anC,anD,agJ,anE⟩:=qL EF anu anv anx anz anA;have anF:Fx.Own Mv B 28 1 (.slice (some ⟨g7,0,none⟩) ((m.rn a)+1) cap2) ((m.rn a)+1) (rv .u64 (aH (m.rq a) (m.rn a) v.req)):=(ho2.congr (fun j hj=>Oo j hj));have b32:Below B w Mv:=yY b31 hg2 (m_ G b31.size) (fun q hq=>(acw.ge hq).1);have anG:wI Mv B 6 { m with ra:=aH m.ra a (some ⟨g7,0,none⟩),rn:=aH m.rn a (m.rn a+1),rc:=aH m.rc a cap2,rq:=aH m.rq a (aH (m.rq a) (m.rn a) v.req) }:=wI.app anw ha rfl rfl rfl rfl anF hg2 MI;refine Ln ⟨EF,?_⟩;refine Rp (pf p (a+21)) (fun _=>jC 6 1)<|gI<|jh agJ (a+21) (.slice (some ⟨g7,0,none⟩) ((m.rn a)+1) (cap2)) fun w21 anH s28 z11 => ?_;have acy:=iw s28 agJ.ty;have⟨anI,anJ,anK,anL,anM⟩:=qL acy anB anC anD anE anG;have b33:=s28.below b32 (m_ G b32.size) (by omega);refine Ln<|bP<|ay<|av (au 0)<|aC<|Wr<|aJ (au 0) ?_;have eN:aL v=a:=by unfold aL; omega
 have ne1 : ¬ 0<=m.core.kP (aL v) v.req:=by rw[eN]; exact j_ c17
 have ne2 : ¬ bV m.core.t m.core.tn v.node=0:=fun e=>c27 (by rw[show K=0 from WH.trans e]; rfl);have ew:mU m.core v=dz (fun x=>bC x v.o v.aT) (oh m.core v.node) m.R K:=by unfold mU; rw[show bV m.core.t m.core.tn v.node=K from WH.symm]; rfl
 have Y:iQ m.core v=0:=by unfold iQ; rw[b_ ne1,b_ ne2,ew,hRK]
 have eW:mU m.core v=(Rk,0):=ew.trans hRK;have anN:Fx.Own w21 B 66 5 (bK F (m.s.gn+1) C) (m.s.gn+1) (flat 5 fun l=>iZ (cO m.g k (qb v) l)):=by rw[<- XI]; exact anL
 refine⟨pz Y.symm,b33,fun _=>⟨{ m with s := { m.s with ga:=some ⟨F,0,none⟩,gn:=m.s.gn+1,gc:=C },R:=Rk,g:=cO m.g k (qb v),ra:=aH m.ra a (some ⟨g7,0,none⟩),rn:=aH m.rn a (m.rn a+1),rc:=aH m.rc a cap2,rq:=aH m.rq a (aH (m.rq a) (m.rn a) v.req) },?_,?_⟩⟩
 ·unfold lS qx; rw[eW,eN]; rw[show down (fun i=>ER v (m.core.g i)) m.core.gn=k from ek.symm]; rfl
 exact { c:=anH.to ((K_ (fun z=>dB z (a+21) _) (MK m _ _ _)).trans (Ky _ rfl _ _ _)),n:=anK,g:=anN,tc:=anI,t:=anJ,r:=anM,pB:=TQ,tB:=Dq,bn:=bn,bg:=(by show m.s.gn+1<=1000000; omega),bt:=bt,br:=(fun i N=>by show aH m.rn a (m.rn a+1) i<=1000000; have:=ZW i N; have:=ZW a ha; unfold aH; split <;> omega) }
namespace Rt
def zI(L:fQ)(v:EvM):Nat:=(L.grant v.o v.of).toNat
def lU(L:fQ)(v:EvM):(Nat->Nat->Int) × Int:=dz (fun x=>bF x v.o (L.g (zI L v) 3)) (oh L (L.g (zI L v) 2)) L.R (bV L.t L.tn (L.g (zI L v) 2))
def iF(L:fQ)(v:EvM):Int:=if 0<=L.kP (aL v) v.req then 14 else if L.grant v.o v.of<0\/L.g (zI L v) 4≠0 then 12 else(lU L v).2
def jW(L:fQ)(v:EvM):fQ:=qx { L with R:=(lU L v).1,g:=aH L.g (zI L v) (aH (L.g (zI L v)) 4 v.req) } (aL v) v.req
theorem Uj{m:lD}{o r:Int}(h : ¬ m.grant o r<0) : ∃ q:Nat,q<m.s.gn/\m.grant o r=(q:Int)/\m.g q 0=o/\m.g q 1=r:=by
 rcases jF (fun i=>decide (m.g i 0=o)&&decide (m.g i 1=r)) m.s.gn with ⟨q,b,e,a⟩|⟨e,_⟩
 ·rw[R_]at a;exact⟨q,b,e,h_ a.1,h_ a.2⟩
 unfold lD.grant at h; omega
theorem Qe{n q:Nat}{g:Nat->Nat->Int}{r:Int} : ∀ i,i<n -> ∀ j,j<5->Fx.qK (fun a=>iZ (g a)) q (dB (iZ (g q)) 4 (aD r)) i j=iZ (aH g q (aH (g q) 4 r) i) j:=fun i _ j b=>by
 unfold Fx.qK;by_cases h:i=q
 ·subst h;rw[d_ rfl];unfold aH dB iZ;rw[d_ rfl]
  rcases j with _|_|_|_|_|j <;> first|rfl|omega
 ·rw[b_ h]; unfold aH; rw[b_ h]
end Rt
set_option maxRecDepth 20000 in
set_option maxHeartbeats 2000000 in
theorem XV(m:lD)(B p a:Nat)(v:EvM)(w:World)(H:vP w B p m)(F:B<=w.heap.size)(ha:a<6)(ho:v.o=(a:Int)+1)(bgg:m.s.gn<=900000)(ZW : ∀ i,i<6->m.rn i<=900000)(hTN : ∀ x,m.node x=bE m.t m.tn x)(hDx : ∀ x,∃ D,D<=1000/\bE m.t m.tn (bf m.t m.tn D x)<0) :
 Calls Tryz.prog 80 #[(pt p),.agg (aA 14 (bQ v))] w fun e w'=>e = .returned (au (iF m.core v))/\Below B w w'/\(iF m.core v=0 -> ∃ m',m'.core=jW m.core v/\vP w' B p m'):=by
 have TM:=H.c;have hLn:=H.n;have hLg:=H.g;have TN:=H.tc;have TP:=H.t;have hLr:=H.r;have TQ:=H.pB;have Dq:=H.tB;have bn:=H.bn;have bg:=H.bg;have bt:=H.bt;have lpp:p<w.heap.size:=TM.lt;have QV:m.tb<w.heap.size:=TN.lt;refine Kent Tryz.func80 128 ?_;refine ay<|rF fun G w1 ng m1 s1 z1 => ?_;have⟨m2,m3,m4,m5,m6,m7⟩:=ql s1.old TM hLn hLg TN TP hLr;have b1:=eO s1.old (Below.refl B w) F;have sw:=jE ng (Below.refl B w).size;have⟨nK,tZ⟩:=vY ng TM.lt TN.lt;have wu:=m1.lt;refine av (au 0)<|aC<|Ws<|ay<|av (pt p)<|av (pt G)<|Lv (au v.o) (aM m1.aI 0)<|av (pf G 12)<|Lv (aD v.req) (aM m1.aI 12) ?_;have MO:CB w1 p m := { c:=m2.aI,an:=m3.arr,ag:=m4.arr,tc:=m5.aI,at2:=m6.arr,ar:=fun i N=>(m7.1 i N).arr,bn:=(by show m.s.nn<=1000000; omega),bg:=bg,bt:=(by show m.tn<=1000000; omega),br:=H.br };by_cases V:(decide (0<=m.kP a v.req))=true
 ·refine dX (AQ m p a v.o v.req _ MO ha ho) aG (by rw[V]) ?_;intro w2 hb1;have b2:=eO hb1 b1 F;refine aC<|aO<|ay<|av (au 14)<|aC<|Wr<|sR<|aJ (au 14) ?_;have O:aL v=a:=by unfold aL; omega
  have J:iF m.core v=14:=by unfold iF; rw[O]; exact d_ (h_ V)
  exact⟨pz J.symm,b2,fun P=>by rw[J]at P; cases P⟩
 rw[S_]at V;refine dX (AQ m p a v.o v.req _ MO ha ho) aF (by rw[V]) ?_;intro w3 hb2;have⟨m15,m16,m17,m18,m19,m20,m21⟩:=jI hb2 m2 m3 m4 m5 m6 m7 m1;have b3:=eO hb2 b1 F;refine aC<|aK<|Wk<|sN<|ay<|av (pt p)<|av (pt G)<|Lv (au v.o) (aM m21.aI 0)<|av (pf G 13)<|Lv (aD v.of) (aM m21.aI 13) ?_;have Uf:CB w3 p m := { c:=m15.aI,an:=m16.arr,ag:=m17.arr,tc:=m18.aI,at2:=m19.arr,ar:=fun i N=>(m20.1 i N).arr,bn:=(by show m.s.nn<=1000000; omega),bg:=bg,bt:=(by show m.tn<=1000000; omega),br:=H.br };refine dX (Xx m p v.o v.of _ Uf) _ rfl ?_;intro w4 hb3;have⟨m22,m23,m24,nA,oo,pE,oN⟩:=jI hb3 m15 m16 m17 m18 m19 m20 m21;have b4:=eO hb3 b3 F;refine av (au (m.grant v.o v.of))<|aC<|Ws<|ay<|av (au (m.grant v.o v.of)) ?_;by_cases ab:(m.grant v.o v.of)<0
 ·refine Lv aG (gU ab)<|av aG<|bX<|bX<|bX<|bX<|bX<|bX<|bX<|bX<|bX<|bX<|av aG<|aC<|aO<|ay<|av (au 12)<|aC<|Wr<|sR<|aJ (au 12) ?_;have O:aL v=a:=by unfold aL; omega
  have aa : ¬ 0<=m.core.kP (aL v) v.req:=by rw[O]; exact j_ V
  have J:iF m.core v=12:=by unfold iF; rw[b_ aa]; exact d_ (.inl ab)
  exact⟨pz J.symm,b4,fun P=>by rw[J]at P; cases P⟩
 obtain⟨b,hkg,ekg,_,_⟩:=Uj ab;have ac:zI m.core v=b:=by show(m.grant v.o v.of).toNat=b; rw[ekg]; rfl
 refine Lv aF (gV ab)<|av aF<|av (pt p)<|av (pt p)<|av (pt p)<|av (pf p 19)<|Lv (.slice m.s.ga (m.s.gn) (m.s.gc)) (aM m22.aI 19)<|aR (K_ (Value.int .i64) ekg) ?_;obtain⟨af,eq1⟩:=m24.addr (by omega);have pF:Fx.Own w4 B 66 5 (bK af m.s.gn m.s.gc) m.s.gn (IU m):=m24.fq (K_ (fun q=>Value.slice q m.s.gn m.s.gc) eq1);refine Lv (pf af (5*b)) (cZ 5 (hx:=(rfl.trans (K_ (fun q=>Value.slice q (m.s.gn) (m.s.gc)) eq1))))<|av (pf af (5*b+4))<|Lv (aD ((m.g b) 4)) (aM pF.aI (5*b+4) (Fx.dF (k:=b) (j:=4) (by omega) (by omega) rfl)) ?_;by_cases ae:((m.g b) 4)=0
 ·refine Lv aF (kr ae)<|av aF<|aC<|aK<|Wk<|sN<|Ws ?_;obtain⟨D,hD2,hD⟩:=hDx (m.g b 2);refine jO [0,1,2,4,5,6,7,9,3,8,10,11,12,13,14] [0,0,0,4,0,0,0,0,4,0,0,0,4,3,0] [(13,3,[3]),(13,8,[12,11,10,8]),(13,12,[12]),(14,13,[13])] fun qA dS iy => ?_;have⟨oq,mJ,m32,qO,nX,pW,qm⟩:=jI dS m22 m23 nA oo pE oN pF;have b5:=eO dS b4 F;refine aZ (pt p)<|aZ (pt p)<|aZ (pf p 20)<|aZ (pt p)<|aZ (pt p)<|aZ (pt p)<|aZ (pf p 19)<|bY (K_ (Value.int .i64) ekg)<|Rs (pt m.tb) (aM oq.aI 20) ?_;refine Rs (.slice m.s.ga (m.s.gn) (m.s.gc)) (aM oq.aI 19) ?_;refine Rp (pf af (5*b)) (fun _=>cZ 5 (hx:=(rfl.trans (K_ (fun q=>Value.slice q (m.s.gn) (m.s.gc)) eq1))))<|aZ (pf af (5*b+2))<|Rs (aD ((m.g b) 2)) (aM qm.aI (5*b+2) (Fx.dF (k:=b) (j:=2) (by omega) (by omega) rfl)) ?_;refine gI<|lV (IW m.tb m.ta m.tn m.tc m.t (m.g b 2) D _ (tX m32 qO bt) hD hD2) ?_;rintro e w5 ⟨K,vv,he,hown,rO,hK1,hb4⟩;obtain⟨U,E,rfl⟩:=hown.val;refine⟨.slice U K E,he,?_⟩;clear he;have WH:K=bV m.t m.tn (m.g b 2):=vH rO hK1 hD hD2;have hKD:K<=1000:=by rw[WH]; exact DU _ _
  have⟨rJ,qP,pX,sD,nY,mW,nC⟩:=jI hb4 oq mJ m32 qO nX pW qm;have b6:=eO hb4 b5 F;refine Ln<|aZ (.slice U (K) (E))<|bP<|Ws<|ay<|av (au 0)<|aC<|Wb ?_;have sI:Fx.Own w5 B 66 5 (.slice m.s.ga (m.s.gn) (m.s.gc)) m.s.gn (IU m):=nC.fq (K_ (fun q=>Value.slice q m.s.gn m.s.gc) eq1.symm);refine Wo (fun f S => ∃ k:Nat,∃ Rk:Nat->Nat->Int,k<=K/\dz (fun x=>bF x v.o (m.g b 3)) (oh m.core (m.g b 2)) m.R k=(Rk,0)/\f 0=(pt p)/\f 3=(pt G)/\f 6 = .slice U (K) (E)/\f 7=au (k:Int)/\f 5=au (b:Int)/\aQ S p 27 (mE m) 71/\aQ S m.tb 1 (fun _ => .slice m.ta m.tn m.tc) 123/\Fx.Own S B 128 2 (.slice m.ta (m.tn) (m.tc)) m.tn (PV m.t)/\wI S B 6 m/\aQ S G 14 (bQ v) 32/\Fx.Own S B 66 5 (.slice m.s.ga (m.s.gn) (m.s.gc)) m.s.gn (IU m)/\Fx.Own S qA.heap.size 28 1 (.slice U (K) (E)) K (rv .u64 (fun i=>bf m.t m.tn i (m.g b 2)))/\Fx.Own S B 61 56 (.slice m.s.na (m.s.nn) (m.s.nc)) m.s.nn (flat 56 (fun C=>mD (m.id C) (m.par C) (Rk C)))/\Below B w S) (fun f _=>(K-(intOf (f 7)).toNat)) ⟨0,m.R,by omega,rfl,(by rfl),(by rfl),(by rfl),Fx.ic,((K_ (Value.int .i64) ekg).trans Fx.ic),rJ,pX,sD,nY,mW,sI,hown,qP,b6⟩ ?_;rintro f1 w6 ⟨k,Rk,hk,hRk,Y,Q,h3,h4,h5,qZ,nZ,sF,xV,sJ,sK,uV,uo,b7⟩;refine Ws<|ay<|aR h4<|aR h3<|av (au K) ?_;by_cases c54:(k:Int)<(K:Int)
  ·refine Lv aG (gU c54)<|aC<|aO<|Wk<|sN<|Ws<|Wb<|Ws ?_;obtain⟨q,hq,eq0,_⟩:=DV (m:=m) (x:=bf m.t m.tn k (m.g b 2)) (by rw[hTN]; exact rO k (by omega));have ex1:oh m.core (m.g b 2) k=q:=(by show(gW (fun i=>decide (m.id i=bf m.t m.tn k (m.g b 2))) m.s.nn).toNat=q; rw[eq0]; rfl);refine Wl<|aR Y<|aR h3<|aR h4 ?_;obtain⟨QZ,GU⟩:=uV.addr (by omega);have tJ:Fx.Own w6 qA.heap.size 28 1 (bK QZ K E) K (rv .u64 (fun i=>bf m.t m.tn i (m.g b 2))):=uV.fq (K_ (fun q=>Value.slice q K E) GU);refine Lv (pf QZ k) (cZ 1 (hx:=(rfl.trans (K_ (fun q=>Value.slice q (K) (E)) GU))))<|Lv (aD ((fun i=>bf m.t m.tn i (m.g b 2)) k)) (aM tJ.aI k) ?_;have tK:Fx.Own w6 qA.heap.size 28 1 (.slice U (K) (E)) K (rv .u64 (fun i=>bf m.t m.tn i (m.g b 2))):=tJ.fq (K_ (fun q=>Value.slice q K E) GU.symm);have anO:CB w6 p { m with R:=Rk } := { c:=qZ.aI,an:=uo.arr,ag:=sK.arr,tc:=nZ.aI,at2:=sF.arr,ar:=fun i N=>(xV.1 i N).arr,bn:=(by show m.s.nn<=1000000; omega),bg:=bg,bt:=(by show m.tn<=1000000; omega),br:=H.br };refine dX ((IV { m with R:=Rk } p (bf m.t m.tn k (m.g b 2)) _ anO).mono (fun e w2 Q=>(⟨Q.1.trans (pz eq0),Q.2⟩:e = .returned (au (q:Int))/\_))) _ rfl ?_;intro w7 hb5;have⟨ad,uq,sM,sO,xg,pY,uI,nL⟩:=mP hb5 qZ nZ sF xV sJ sK uo tK;have b8:=eO hb5 b7 F;refine av (au q)<|aC<|Ws ?_;obtain⟨M,eq3⟩:=uI.addr (by omega);have ru:Fx.Own w7 B 61 56 (bK M m.s.nn m.s.nc) m.s.nn (flat 56 (fun C=>mD (m.id C) (m.par C) (Rk C))):=uI.fq (K_ (fun q=>Value.slice q m.s.nn m.s.nc) eq3);obtain⟨W,eq4⟩:=pY.addr (by omega);have m64:Fx.Own w7 B 66 5 (bK W m.s.gn m.s.gc) m.s.gn (IU m):=pY.fq (K_ (fun q=>Value.slice q m.s.gn m.s.gc) eq4);refine qI (T:=59) (T':=59) (a := .tmp 9) (v := .tmp 85) (m:=54) (z:=rv .i64 (fun _=>0)) (y:=rv .i64 ((bF (Rk q) v.o ((m.g b) 3)).1)) (u := .agg (aA 54 (rv .i64 ((bF (Rk q) v.o ((m.g b) 3)).1)))) 24 25 (List.replicate 27 (0,2,[],[])) #[(pt p),(pt p),(pt p),(pf p 18),.slice m.s.na (m.s.nn) (m.s.nc),au (q:Int),(pf M (56*q)),(pf M (56*q+2)),.agg (aA 54 (rv .i64 (Rk q))),(pt G),au v.o,(pt p),(pt p),(pt p),(pf p 19),.slice m.s.ga (m.s.gn) (m.s.gc),au (b:Int),(pf W (5*b)),(pf W (5*b+3)),au ((m.g b) 3),.tuple #[.agg (aA 54 (rv .i64 ((bF (Rk q) v.o ((m.g b) 3)).1))),au ((bF (Rk q) v.o ((m.g b) 3)).2)],.tuple #[.agg (aA 54 (rv .i64 ((bF (Rk q) v.o ((m.g b) 3)).1))),au ((bF (Rk q) v.o ((m.g b) 3)).2)],.agg (aA 54 (rv .i64 ((bF (Rk q) v.o ((m.g b) 3)).1))),au ((bF (Rk q) v.o ((m.g b) 3)).2),undef,undef,au ((bF (Rk q) v.o ((m.g b) 3)).2)] (by kernel_rfl) (by kernel_rfl) (by kernel_rfl) (by kernel_rfl) (by kernel_rfl) (by kernel_rfl) rfl (by kernel_rfl) rfl rfl (by kernel_rfl) (fun L=>(show ev _ (.tmp 9)=(pt L)from by kernel_rfl)) (fun L=>(show ev _ (.tmp 85) = .agg (aA 54 (rv .i64 ((bF (Rk q) v.o ((m.g b) 3)).1)))from by kernel_rfl)) (bH _ _) (fun _ _=>rfl) (by kernel_rfl) (fun L => ?_) ?_
   ·refine⟨?_,?_,?_,?_,?_,?_,?_,?_,?_,?_,?_,?_,?_,?_,?_,?_,?_,?_,?_,?_,?_,?_,?_,?_,?_,?_,?_,trivial⟩
    ·exact .inr (.inr (oL (pt p) fun I A=>eP rfl ((bO (by kernel_rfl)).trans Y)))
    ·exact .inr (.inr nW)
    ·exact .inr (.inr nW)
    ·exact .inr (.inr nW)
    ·exact .inr (.inr (oL (.slice m.s.na (m.s.nn) (m.s.nc)) fun I A=>bB (x:=mE m) rfl (show ev _ (.tmp 67)=(pf p 18)from by kernel_rfl) (by kernel_rfl) (ad.aI.below A (by have:=ad.lt; omega)) (i:=18) (by omega) (by omega) rfl))
    ·exact .inr (.inr nW)
    ·exact .inr (.inr (oL (pf M (56*q)) fun I A=>dO rfl ((show ev _ (.tmp 68) = .slice m.s.na (m.s.nn) (m.s.nc)from by kernel_rfl).trans (K_ (fun q=>Value.slice q (m.s.nn) (m.s.nc)) eq3)) (show ev _ (.tmp 69)=au (q:Int)from by kernel_rfl) Tryz.underlying50 (s:=56) (by kernel_rfl) (by omega) (by omega) (by omega)))
    ·exact .inr (.inr nW)
    ·exact .inr (.inr (oL (.agg (aA 54 (rv .i64 (Rk q)))) fun I A=>eT (x:=flat 56 (fun C=>mD (m.id C) (m.par C) (Rk C))) (y:=rv .i64 (Rk q)) rfl (show ev _ (.tmp 71)=(pf M (56*q+2))from by kernel_rfl) (by kernel_rfl) (by kernel_rfl) (ru.aI.below A (by have:=ru.lt; omega)) (i:=56*q+2) (by omega) (by omega) (fun jq hjq=>(Fx.kY (k:=q) (j:=2+jq) (by omega) (by omega)).trans ((fun jq _=>IQ _ _ _ jq) jq hjq))))
    ·exact .inr (.inr (oL (pt G) fun I A=>fK rfl ((bO (by kernel_rfl)).trans Q) Tryz.underlying32 rfl (s:=1) (by kernel_rfl) rfl rfl))
    ·exact .inr (.inr (oL (au v.o) fun I A=>bB (x:=bQ v) rfl (show ev _ (.tmp 73)=(pt G)from by kernel_rfl) (by kernel_rfl) (xg.aI.below A (by have:=xg.lt; omega)) (i:=0) (by omega) (by omega) rfl))
    ·exact .inr (.inr (oL (pt p) fun I A=>eP rfl ((bO (by kernel_rfl)).trans Y)))
    ·exact .inr (.inr nW)
    ·exact .inr (.inr nW)
    ·exact .inr (.inr nW)
    ·exact .inr (.inr (oL (.slice m.s.ga (m.s.gn) (m.s.gc)) fun I A=>bB (x:=mE m) rfl (show ev _ (.tmp 78)=(pf p 19)from by kernel_rfl) (by kernel_rfl) (ad.aI.below A (by have:=ad.lt; omega)) (i:=19) (by omega) (by omega) rfl))
    ·exact .inr (.inr (oL (au b) fun I A=>eP rfl ((bO (by kernel_rfl)).trans h5)))
    ·exact .inr (.inr (oL (pf W (5*b)) fun I A=>dO rfl ((show ev _ (.tmp 79) = .slice m.s.ga (m.s.gn) (m.s.gc)from by kernel_rfl).trans (K_ (fun q=>Value.slice q (m.s.gn) (m.s.gc)) eq4)) (show ev _ (.tmp 80)=au (b:Int)from by kernel_rfl) Tryz.underlying51 (s:=5) (by kernel_rfl) (by omega) (by omega) (by omega)))
    ·exact .inr (.inr nW)
    ·exact .inr (.inr (oL (au ((m.g b) 3)) fun I A=>bB (x:=IU m) rfl (show ev _ (.tmp 82)=(pf W (5*b+3))from by kernel_rfl) (by kernel_rfl) (m64.aI.below A (by have:=m64.lt; omega)) (i:=5*b+3) (by omega) (by omega) (Fx.dF (k:=b) (j:=3) (by omega) (by omega) rfl)))
    ·exact .inr (.inr (Fx.Il (v := .tuple #[.agg (aA 54 (rv .i64 ((bF (Rk q) v.o ((m.g b) 3)).1))),au ((bF (Rk q) v.o ((m.g b) 3)).2)]) (by kernel_rfl) (by kernel_rfl) (Fx.qbC (fun I A=>rC (args := [.agg (aA 54 (rv .i64 (Rk q))),au v.o,au ((m.g b) 3)]) rfl (Fx.NA (show ev _ (.tmp 72) = .agg (aA 54 (rv .i64 (Rk q)))from by kernel_rfl) (show ev _ (.tmp 74)=au v.o from by kernel_rfl) (show ev _ (.tmp 83)=au ((m.g b) 3)from by kernel_rfl)) Tryz.func111 rfl rfl) (fun I A=>(XK (Rk q) v.o ((m.g b) 3) _).mono fun e v2 h=>⟨h.1,h.2⟩))))
    ·exact .inr (.inr nW)
    ·exact .inr (.inr nW)
    ·exact .inr (.inr nW)
    ·exact .inl rfl
    ·exact .inr (.inl rfl)
    exact .inr (.inr nW)
   rintro L w8 l d Z uW hb6;have acz:p≠L:=t_ (n_ (ad.lt) Z);have acA:m.tb≠L:=t_ (n_ (uq.lt) Z);have acB:G≠L:=t_ (n_ (xg.lt) Z);have acC:M≠L:=t_ (n_ (ru.lt) Z);have anP:W≠L:=t_ (n_ (m64.lt) Z);have⟨uJ,wz,wB,rM,tL,uK,tN,sG⟩:=mP hb6 ad uq sM sO xg nL ru m64;have b9:=eO hb6 b8 F;have Z:w.heap.size<=L:=m_ b8.size Z;have Bl:=uW.lt;have q1:l 0=(pt p):=(by rw[d]; exact(bO (by kernel_rfl)).trans Y);have q2:l 3=(pt G):=(by rw[d]; exact(bO (by kernel_rfl)).trans Q);have q3:l 6 = .slice U (K) (E):=(by rw[d]; exact(bO (by kernel_rfl)).trans h3);have q4:l 7=au (k:Int):=(by rw[d]; exact(bO (by kernel_rfl)).trans h4);have q5:l 5=au (b:Int):=(by rw[d]; exact(bO (by kernel_rfl)).trans h5);have q6:l 51=au (k:Int):=(by rw[d]; kernel_rfl);have q7:l 52 = .slice U (K) (E):=(by rw[d]; kernel_rfl);have q8:l 53=au (K:Int):=(by rw[d]; kernel_rfl);have q9:l 54 = .bool true:=(by rw[d]; kernel_rfl);have q10:l 57=(pt p):=(by rw[d]; kernel_rfl);have q11:l 58 = .slice U (K) (E):=(by rw[d]; kernel_rfl);have q12:l 59=au (k:Int):=(by rw[d]; kernel_rfl);have q13:l 60=(pf QZ k):=(by rw[d]; kernel_rfl);have q14:l 61=aD ((fun i=>bf m.t m.tn i (m.g b 2)) k):=(by rw[d]; kernel_rfl);have q15:l 62=au (q:Int):=(by rw[d]; kernel_rfl);have q16:l 8=au (q:Int):=(by rw[d]; kernel_rfl);have q17:l 64=(pt p):=(by rw[d]; kernel_rfl);have q18:l 65=(pt p):=(by rw[d]; kernel_rfl);have q19:l 66=(pt p):=(by rw[d]; kernel_rfl);have q20:l 67=(pf p 18):=(by rw[d]; kernel_rfl);have q21:l 68 = .slice m.s.na (m.s.nn) (m.s.nc):=(by rw[d]; kernel_rfl);have q22:l 69=au (q:Int):=(by rw[d]; kernel_rfl);have q23:l 70=(pf M (56*q)):=(by rw[d]; kernel_rfl);have q24:l 71=(pf M (56*q+2)):=(by rw[d]; kernel_rfl);have q25:l 72 = .agg (aA 54 (rv .i64 (Rk q))):=(by rw[d]; kernel_rfl);have q26:l 73=(pt G):=(by rw[d]; kernel_rfl);have q27:l 74=au v.o:=(by rw[d]; kernel_rfl);have q28:l 75=(pt p):=(by rw[d]; kernel_rfl);have q29:l 76=(pt p):=(by rw[d]; kernel_rfl);have q30:l 77=(pt p):=(by rw[d]; kernel_rfl);have q31:l 78=(pf p 19):=(by rw[d]; kernel_rfl);have q32:l 79 = .slice m.s.ga (m.s.gn) (m.s.gc):=(by rw[d]; kernel_rfl);have q33:l 80=au (b:Int):=(by rw[d]; kernel_rfl);have q34:l 81=(pf W (5*b)):=(by rw[d]; kernel_rfl);have q35:l 82=(pf W (5*b+3)):=(by rw[d]; kernel_rfl);have q36:l 83=au ((m.g b) 3):=(by rw[d]; kernel_rfl);have q37:l 84 = .tuple #[.agg (aA 54 (rv .i64 ((bF (Rk q) v.o ((m.g b) 3)).1))),au ((bF (Rk q) v.o ((m.g b) 3)).2)]:=(by rw[d]; kernel_rfl);have q38:l 63 = .tuple #[.agg (aA 54 (rv .i64 ((bF (Rk q) v.o ((m.g b) 3)).1))),au ((bF (Rk q) v.o ((m.g b) 3)).2)]:=(by rw[d]; kernel_rfl);have q39:l 85 = .agg (aA 54 (rv .i64 ((bF (Rk q) v.o ((m.g b) 3)).1))):=(by rw[d]; kernel_rfl);have q40:l 86=au ((bF (Rk q) v.o ((m.g b) 3)).2):=(by rw[d]; kernel_rfl);have q41:l 9=(pt L):=(by rw[d]; kernel_rfl);have q42:l 10=au ((bF (Rk q) v.o ((m.g b) 3)).2):=(by rw[d]; kernel_rfl);clear d;refine sN<|Ws<|ay<|aR q42 ?_;by_cases X:((bF (Rk q) v.o ((m.g b) 3)).2)=0
   ·refine Lv aF (kr X)<|aC<|aK<|Wk<|sN ?_;refine jO [0,1,2,3,5,4,6,7,8,9] [0,0,0,0,4,0,4,0,0,3] [(9,4,[4]),(9,6,[6])] fun Cx gu nJ => ?_;have⟨xk,tO,uX,xq,xu,uY,uL,tQ,wC⟩:=Bq gu uJ wz wB rM tL uK tN sG uW;have b10:=eO gu b9 F;refine bY q1<|aZ (pt p)<|aZ (pt p)<|aZ (pf p 18)<|bY q16<|Rs (.slice m.s.na (m.s.nn) (m.s.nc)) (aM xk.aI 18) ?_;refine Rs (.agg (aA 54 (rv .i64 ((bF (Rk q) v.o ((m.g b) 3)).1)))) (gD wC.aI 0 (ha:=q41)) ?_;refine Rp (pf M (56*q)) (fun _=>cZ 56 (hx:=(rfl.trans (K_ (fun q=>Value.slice q (m.s.nn) (m.s.nc)) eq3))))<|aZ (pf M (56*q+2))<|gI<|zP uL (56*q+2) fun w9 yI s10 z2 => ?_;have gM:=iw s10 uL.JK;have⟨xw,yJ,zF,zG,zi,zk,zT⟩:=RD gM xk tO uX xq xu uY tQ;have b11:=s10.below b10 (m_ F b10.size) uL.blk.1;have AJ:Fx.Own w9 B 61 56 (bK M m.s.nn m.s.nc) m.s.nn (flat 56 (fun C=>mD (m.id C) (m.par C) (aH Rk q ((bF (Rk q) v.o ((m.g b) 3)).1) C))):=yI.congr (fun pq hp=>(Fx.Bp (k:=q) (j:=2) (by omega) (by omega) pq hp).trans (bJ (fun i N j hj=>BO i N j hj) pq hp));refine Ln<|Rn<|bM<|sN<|Wl<|aR q4<|Lv (au ((k:Int)+1)) dZ<|av (au ((k:Int)+1))<|Ln ?_;have yM:Fx.Own w9 B 66 5 (.slice m.s.ga (m.s.gn) (m.s.gc)) m.s.gn (IU m):=zT.fq (K_ (fun q=>Value.slice q m.s.gn m.s.gc) eq4.symm);have zl:Fx.Own w9 B 61 56 (.slice m.s.na (m.s.nn) (m.s.nc)) m.s.nn (flat 56 (fun C=>mD (m.id C) (m.par C) (aH Rk q ((bF (Rk q) v.o ((m.g b) 3)).1) C))):=AJ.fq (K_ (fun q=>Value.slice q m.s.nn m.s.nc) eq3.symm);refine fZ ⟨k+1,(aH Rk q (bF (Rk q) v.o (m.g b 3)).1),by omega,(EP hRk ex1 (by first|exact X|exact Classical.not_not.1 X)),q1,q2,q3,Fx.ic,(q5.trans Fx.ic),xw,yJ,zF,zG,zi,yM,zk,zl,b11⟩ ?_
    show(K-(intOf (au ((k:Int)+1))).toNat)<_;simp only[h4,intOf]; omega
   refine Lv aG (nH X)<|aC<|aO<|ay<|aR q42<|av (au ((bF (Rk q) v.o ((m.g b) 3)).2))<|aC<|Wr<|sR<|bL<|sR<|qc<|bL<|sR<|aJ (au ((bF (Rk q) v.o ((m.g b) 3)).2)) ?_;have O:aL v=a:=(by unfold aL; omega);have aa : ¬ 0<=m.core.kP (aL v) v.req:=(by rw[O]; exact j_ V);have ne2 : ¬ (m.core.grant v.o v.of<0\/m.core.g (zI m.core v) 4≠0):=(by rw[ac]; exact fun h=>h.elim ab (fun h=>h ae));have ew:lU m.core v=dz (fun x=>bF x v.o (m.g b 3)) (oh m.core (m.g b 2)) m.R K:=(by unfold lU; rw[ac,show bV m.core.t m.core.tn (m.core.g b 2)=K from WH.symm]; rfl);have J:iF m.core v=(bF (Rk q) v.o (m.g b 3)).2:=by
    unfold iF; rw[b_ aa,b_ ne2,ew];have e1:=GR hRk ex1 X;rw[zZ (k:=k+1) (by rw[e1]; exact X) K (by omega)]; exact e1
   exact⟨pz J.symm,b9,fun P=>L_ (J.symm.trans P) X⟩
  refine Lv aF (gV c54)<|aC<|aK<|Wx<|cB<|gG<|cK<|sN<|Ws ?_;have hRK:dz (fun x=>bF x v.o (m.g b 3)) (oh m.core (m.g b 2)) m.R K=(Rk,0):=by rw[show K=k by omega]; exact hRk
  refine jO [0,1,2,3,5,6,4,7,8,9,10] [0,0,0,0,4,0,0,4,0,0,3] [(10,4,[4]),(10,7,[7])] fun QW lK Ay => ?_;have⟨xB,zW,Bn,DT,EG,rX,sS⟩:=jI lK qZ nZ sF xV sJ sK uo;have b12:=eO lK b7 F;refine bY Y<|aZ (pt p)<|aZ (pt p)<|aZ (pf p 19)<|bY h5<|Rp (pf G 12) (fun _=>je Q 12)<|Rs (.slice m.s.ga (m.s.gn) (m.s.gc)) (aM xB.aI 19) ?_;refine Rs (aD v.req) (aM EG.aI 12) ?_;obtain⟨gq5,Qf⟩:=rX.addr (by omega);have qQ:Fx.Own QW B 66 5 (bK gq5 m.s.gn m.s.gc) m.s.gn (IU m):=rX.fq (K_ (fun q=>Value.slice q m.s.gn m.s.gc) Qf);refine Rp (pf gq5 (5*b)) (fun _=>cZ 5 (hx:=(rfl.trans (K_ (fun q=>Value.slice q (m.s.gn) (m.s.gc)) Qf))))<|aZ (pf gq5 (5*b+4))<|gI<|pV qQ (5*b+4) (aD v.req) fun um nP s12 z3 => ?_;have jQ:=iw s12 qQ.JK;have⟨nQ,oG,og,pJ,rY,qR⟩:=RB jQ xB zW Bn DT EG sS;have b13:=s12.below b12 (m_ F b12.size) qQ.blk.1;have uy:Fx.Own um B 66 5 (bK gq5 m.s.gn m.s.gc) m.s.gn (flat 5 (fun C=>iZ (aH m.g b (aH (m.g b) 4 v.req) C))):=nP.congr (fun pq hp=>(Fx.Gs (k:=b) (j:=4) (by omega) (by omega) pq hp).trans (bJ (fun i N j hj=>Qe i N j hj) pq hp));refine Ln<|bP<|Ws ?_;have zm:Fx.Own um B 66 5 (.slice m.s.ga (m.s.gn) (m.s.gc)) m.s.gn (flat 5 (fun C=>iZ (aH m.g b (aH (m.g b) 4 v.req) C))):=uy.fq (K_ (fun q=>Value.slice q m.s.gn m.s.gc) Qf.symm);have vG:Fx.Own um B 28 1 (.slice (m.ra a) (m.rn a) (m.rc a)) (m.rn a) (rv .u64 (m.rq a)):=pJ.1 a ha;have bra:=H.br a ha;refine Ar [0,1,4,5,8,9,12,16,17,2,3,6,7,10,11,13,14,15,18,19] [0,0,1,0,0,0,1,0,0,0,0,1,0,4,2,2,0,0,0,3] (iP [28]) vX Fx.iP.trans (fH := [(19,2,[2]),(19,6,[6]),(19,11,[11]),(14,13,[13]),(15,13,[14,13]),(19,13,[13]),(15,14,[14]),(18,14,[14]),(19,14,[14]),(18,15,[15]),(19,15,[15])]) (by kernel_rfl) (by kernel_rfl) (by kernel_rfl) (by kernel_rfl) (by kernel_rfl) fun wt4 qB GA => ?_;have⟨zn,BI,xH,uz,qw,xZ,yc,uD⟩:=mP qB nQ oG og pJ rY qR zm vG;have b14:=eO qB b13 F;refine bY Y<|Rp (pt G) (fun _=>je Q 0)<|bY Y<|Rp (pt G) (fun _=>je Q 0)<|aZ (pt p)<|aZ (pf p 21)<|Rp (pf G 12) (fun _=>je Q 12)<|aZ (pt p)<|aZ (pf p 21)<|Rd (v:=au v.o) (by rfl) (by rfl) (vX _) (fun I A=>bB (x:=bQ v) rfl rfl (by kernel_rfl) (qw.jZ A (by decide)).aI (i:=0) (by omega) (by omega) rfl) ?_;refine Rp (au a) (fun _=>gF)<|Rd (v:=au v.o) (by rfl) (by rfl) (vX _) (fun I A=>bB (x:=bQ v) rfl rfl (by kernel_rfl) (qw.jZ A (by decide)).aI (i:=0) (by omega) (by omega) rfl) ?_;refine Rp (au a) (fun _=>gF)<|Rp (pf p (a+21)) (fun _=>jC 6 1)<|Rd (v := .slice (m.ra a) (m.rn a) (m.rc a)) (by rfl) (by rfl) (vX _) (fun I A=>bB (x:=mE m) rfl rfl (by kernel_rfl) (zn.jZ A (by decide)).aI (i:=a+21) (by omega) (by omega) (wH _ (by omega))) ?_;refine Rs (aD v.req) (aM qw.aI 12) ?_;refine Cw<|yD (vs := [(0,aD v.req)]) (s:=1) (zc:=rv .u64 (fun _=>0)) (y:=bI (fun j=>(rv .u64 (fun _=>0)) (j % 1)) (0*1) 1 (fun _=>aD v.req)) (by rfl) rfl rfl Tryz.underlying63 (by kernel_rfl) (by rfl) (by rfl) (by kernel_rfl) (by rw[bD (off:=0*1) (s:=1) (y:=fun _=>aD v.req) rfl (cells_one (by rfl)) (by rfl)]; rfl) rfl fun g3 Ev xX BJ Dm z4 => ?_;have⟨IY,EI,AL,EJ,BK,zX,I7⟩:=jI Dm.old zn BI xH uz xZ yc uD;have b15:=eO Dm.old b14 F;have Dz:=jE xX b14.size;have⟨ajy,ajz,ajA⟩:=Iy xX zn.lt BI.lt qw.lt;have ajB:(.slice (m.ra a) (m.rn a) (m.rc a):Value).ownBlock≠some g3:=by rw[xX]; exact uD.jw (z_ _)
  have LK:=BJ.lt;refine Ln ⟨Fx.iP.of_below Dm.old,?_⟩;refine Cw<|yZ (B:=B) (s:=1) (bytes:=8) (k:=(m.rn a)) (m:=1) (v := .slice (m.ra a) (m.rn a) (m.rc a)) (x:=rv .u64 (m.rq a)) (by rfl) rfl rfl rfl Tryz.underlying63 (by kernel_rfl) (by kernel_rfl) rfl rfl I7 BJ.aI (wJ (fun _=>rfl)) (by omega) (by omega) (by omega) (m_ F b15.size) fun g4 E Dn ho1 hg1 uh hlt1 => ?_;have qN:=za hg1 I7;have⟨EK,EL,Gb,BL,EM⟩:=qL qN IY EI AL BK zX;have Kv:Fx.Own Dn B 28 1 (.slice (some ⟨g4,0,none⟩) ((m.rn a)+1) E) ((m.rn a)+1) (rv .u64 (aH (m.rq a) (m.rn a) v.req)):=(ho1.congr (fun j hj=>Oo j hj));have b16:Below B w Dn:=yY b15 hg1 (m_ F b15.size) (fun q hq=>(I7.ge hq).1);have BM:wI Dn B 6 { m with ra:=aH m.ra a (some ⟨g4,0,none⟩),rn:=aH m.rn a (m.rn a+1),rc:=aH m.rc a E,rq:=aH m.rq a (aH (m.rq a) (m.rn a) v.req) }:=wI.app EJ ha rfl rfl rfl rfl Kv hg1 uh;refine Ln ⟨qN,?_⟩;refine Rp (pf p (a+21)) (fun _=>jC 6 1)<|gI<|jh EK (a+21) (.slice (some ⟨g4,0,none⟩) ((m.rn a)+1) (E)) fun GD EX s15 z5 => ?_;have zS:=iw s15 EK.ty;have⟨EN,zY,AO,IZ,Ui⟩:=qL zS EL Gb BL EM BM;have b17:=s15.below b16 (m_ F b16.size) (by omega);refine Ln<|bP<|ay<|av (au 0)<|aC<|Wr<|aJ (au 0) ?_;have O:aL v=a:=by unfold aL; omega
  have aa : ¬ 0<=m.core.kP (aL v) v.req:=by rw[O]; exact j_ V
  have ne2 : ¬ (m.core.grant v.o v.of<0\/m.core.g (zI m.core v) 4≠0):=by rw[ac]; exact fun h=>h.elim ab (fun h=>h ae)
  have ew:lU m.core v=dz (fun x=>bF x v.o (m.g b 3)) (oh m.core (m.g b 2)) m.R K:=by unfold lU; rw[ac,show bV m.core.t m.core.tn (m.core.g b 2)=K from WH.symm]; rfl
  have J:iF m.core v=0:=by unfold iF; rw[b_ aa,b_ ne2,ew,hRK]
  have eW:lU m.core v=(Rk,0):=ew.trans hRK;refine⟨pz J.symm,b17,fun _=>⟨{ m with s := { m.s with ga:=m.s.ga,gn:=m.s.gn,gc:=m.s.gc },R:=Rk,g:=aH m.g b (aH (m.g b) 4 v.req),ra:=aH m.ra a (some ⟨g4,0,none⟩),rn:=aH m.rn a (m.rn a+1),rc:=aH m.rc a E,rq:=aH m.rq a (aH (m.rq a) (m.rn a) v.req) },?_,?_⟩⟩
  ·unfold jW qx; rw[eW,O]; rw[ac]; rfl
  exact { c:=EX.to (Ky _ rfl _ _ _),n:=AO,g:=IZ,tc:=EN,t:=zY,r:=Ui,pB:=TQ,tB:=Dq,bn:=bn,bg:=(by show m.s.gn<=1000000; omega),bt:=bt,br:=(fun i N=>by show aH m.rn a (m.rn a+1) i<=1000000; have:=ZW i N; have:=ZW a ha; unfold aH; split <;> omega) }
 refine Lv aG (nH ae)<|av aG<|aC<|aO<|ay<|av (au 12)<|aC<|Wr<|sR<|aJ (au 12) ?_;have O:aL v=a:=by unfold aL; omega
 have aa : ¬ 0<=m.core.kP (aL v) v.req:=by rw[O]; exact j_ V
 have J:iF m.core v=12:=by unfold iF; rw[b_ aa,ac]; exact d_ (.inr ae)
 exact⟨pz J.symm,b4,fun P=>by rw[J]at P; cases P⟩
namespace Rt
def wM(L:fQ)(v:EvM):Int:=if L.node v.node<0 then 9 else if 140737488355328<L.R (L.node v.node).toNat (aL v)+v.aT then 6 else 0
def E5(L:fQ)(v:EvM):fQ := { L with R:=aH L.R (L.node v.node).toNat (upd (L.R (L.node v.node).toNat) (aL v) (L.R (L.node v.node).toNat (aL v)+v.aT)) }
def yg(L:fQ)(v:EvM):(Nat->Int) × Int:=dw (L.R (L.node v.node).toNat) v.o v.dst v.aT
def oH(L:fQ)(v:EvM):Int:=if L.node v.node<0 then 9 else if v.dst<1\/6<v.dst\/L.inn (v.dst-1).toNat=false then 10 else(yg L v).2
def E8(L:fQ)(v:EvM):fQ := { L with R:=aH L.R (L.node v.node).toNat (yg L v).1 }
noncomputable def dU(L:fQ)(v:EvM):Int :=
 if v.kind=1 then jV L v else if v.kind=2 then wM L v else if v.kind=3 then iQ L v else if v.kind=4 then iF L v else if v.kind=5 then oH L v else 0
def iG(L:fQ)(v:EvM):fQ :=
 if v.kind=1 then qp L v else if v.kind=2 then E5 L v else if v.kind=3 then lS L v else if v.kind=4 then jW L v else if v.kind=5 then E8 L v
 else if v.kind=6 then { L with inn:=aH L.inn (v.dst-1).toNat true } else { L with left:=aH L.left (aL v) true }
theorem MQ{n q a:Nat}{id par:Nat->Int}{R:Nat->Nat->Int}{x:Int} : ∀ i,i<n -> ∀ j,j<56->Fx.qK (fun b=>mD (id b) (par b) (R b)) q (dB (mD (id q) (par q) (R q)) (a+2) (au x)) i j=mD (id i) (par i) (aH R q (upd (R q) a x) i) j:=fun i _ j _=>by
 unfold Fx.qK;by_cases h:i=q
 ·subst h; rw[d_ rfl,Og rfl]; unfold aH; rw[d_ rfl]
 ·rw[b_ h]; unfold aH; rw[b_ h]
theorem XW(m:lD){i:Nat}(hi:i<6):dB (mE m) i (.bool true)=mE { m with s := { m.s with inn:=aH m.s.inn i true } }:=by
 funext p
 unfold dB mE;by_cases h:p=i
 ·subst h; rw[d_ rfl,d_ (by omega)]; unfold pI; rw[d_ hi]; simp[aH]
 rw[b_ h];by_cases a:p<20
 ·rw[d_ a,d_ a]; unfold pI;by_cases b:p<6
  ·rw[d_ b,d_ b]; simp[aH,h]
  rw[b_ b,b_ b]
 rw[b_ a,b_ a]
theorem Uk(m:lD){i q:Nat}(hi:i<6)(d:q=i+6):dB (mE m) q (.bool true)=mE { m with s := { m.s with left:=aH m.s.left i true } }:=by
 subst d
 funext p
 unfold dB mE;by_cases h:p=i+6
 ·subst h; rw[d_ rfl,d_ (by omega)]; unfold pI; rw[b_ (by omega),d_ (by omega)]; simp[aH]
 rw[b_ h];by_cases a:p<20
 ·rw[d_ a,d_ a]; unfold pI;by_cases b:p<6
  ·rw[d_ b,d_ b]
  rw[b_ b,b_ b];by_cases c:p<12
  ·rw[d_ c,d_ c]; simp[aH,show ¬ p-6=i by omega]
  rw[b_ c,b_ c]
 rw[b_ a,b_ a]
theorem Qg(m:lD){i q:Nat}(hi:i<6)(e:q=i+12)(x:Int):dB (mE m) q (aD x)=mE { m with s := { m.s with known:=aH m.s.known i x } }:=by
 subst e
 funext p
 unfold dB mE;by_cases h:p=i+12
 ·subst h; rw[d_ rfl,d_ (by omega)]; unfold pI; rw[b_ (by omega),b_ (by omega),d_ (by omega)]; simp[aH]
 rw[b_ h];by_cases a:p<20
 ·rw[d_ a,d_ a]; unfold pI;by_cases b:p<6
  ·rw[d_ b,d_ b]
  rw[b_ b,b_ b];by_cases c:p<12
  ·rw[d_ c,d_ c]
  rw[b_ c,b_ c];by_cases d:p<18
  ·rw[d_ d,d_ d]; simp[aH,show ¬ p-12=i by omega]
  rw[b_ d,b_ d]
 rw[b_ a,b_ a]
theorem iW{v:EvM}(h:bR v=true):1<=v.kind/\v.kind<=7:=by
 unfold bR at h;simp only[R_]at h;have a:=h.2;unfold dK at a;split at a; · omega
 split at a; · omega
 split at a; · omega
 split at a; · omega
 split at a; · omega
 split at a; · omega
 have:=h_ a; omega
theorem kQ{v:EvM}(h:bR v=true)(c:v.kind=2\/v.kind=3\/v.kind=5):1<=v.aT/\v.aT<=1125899906842624:=by
 unfold bR at h;simp only[R_]at h;have a:=h.2;unfold dK at a;rw[b_ (by omega)]at a;have b:someE v=true->1<=v.aT/\v.aT<=1125899906842624:=fun h=>by unfold someE at h; simpa using h
 split at a; · exact b a
 split at a; · rw[R_]at a; exact b a.1
 rw[b_ (by omega)]at a;split at a; · rw[R_]at a; exact b a.1
 omega
theorem GV{v:EvM}(h:bR v=true)(c:v.kind=6) : ∃ b:Nat,b<6/\v.dst=(b:Int)+1:=by
 unfold bR at h;simp only[R_]at h;have a:=h.2;unfold dK at a;rw[b_ (by omega),b_ (by omega),b_ (by omega),b_ (by omega),b_ (by omega),d_ c]at a;unfold lQ at a;rw[R_]at a;exact fB a.1
end Rt
set_option maxRecDepth 20000 in
set_option maxHeartbeats 2000000 in
theorem acD(m:lD)(B p a:Nat)(v:EvM)(w:World)(S:vP w B p m)(H:B<=w.heap.size)(ha:a<6)(ho:v.o=(a:Int)+1)(bnn:m.s.nn<=900)(bgg:m.s.gn<=900000)(ZW : ∀ i,i<6->m.rn i<=900000)(hTN : ∀ x,m.node x=bE m.t m.tn x)(hDx : ∀ x,∃ D,D<=1000/\bE m.t m.tn (bf m.t m.tn D x)<0)(hv:fT v)(hmay:bR v=true)(hR : ∀ k,k<m.s.nn->may (m.R k)=true) :
 Calls Tryz.prog 54 #[(pt p),.agg (aA 14 (bQ v))] w fun e w'=>e = .returned (au (dU m.core v))/\Below B w w'/\(dU m.core v=0 -> ∃ m',m'.core=iG m.core v/\vP w' B p m'):=by
 have TQ:=S.pB;have Dq:=S.tB;have bn:=S.bn;have bg:=S.bg;have bt:=S.bt;have lpp:p<w.heap.size:=S.c.lt;have QV:m.tb<w.heap.size:=S.tc.lt;have hvk:=hv.kind;have hvt:=hv.dst;have hkr:=iW hmay;obtain⟨D,hD2,hD⟩:=hDx v.node;refine Kent Tryz.func54 152 ?_;refine ay<|rF fun I w1 ng W s1 z1 => ?_;have C:=bG s1.old S;have X:=eO s1.old (Below.refl B w) H;have sw:=jE ng (Below.refl B w).size;have wu:=W.lt;refine av (au 0)<|aC<|Ws<|ay<|av (pf I 8)<|Lv (.int .u8 (v.kind)) (aM W.aI 8)<|aC<|Wb<|ay ?_;by_cases F:v.kind=1
 ·refine Lv aG (eF F)<|av aG<|aC<|aO<|ay<|av (pt p)<|Lv (.agg (aA 14 (bQ v))) (gD W.aI 0)<|dX (XF m B p a D v _ C (m_ H X.size) ha ho bnn hD hD2) _ rfl ?_;rintro w2 ⟨hb1,hr1⟩;have b2:Below B w w2:=X.trans hb1;refine av (au (jV m.core v))<|aC<|Wr<|bL<|sR<|aJ (au (jV m.core v)) ?_;have A:dU m.core v=jV m.core v:=by unfold dU; rw[d_ F]
  have ec:iG m.core v=qp m.core v:=by unfold iG; rw[d_ F]
  exact⟨pz A.symm,b2,fun E=>by rw[ec]; exact hr1 (A.symm.trans E)⟩
 refine Lv aF (fE F)<|av aF<|aC<|aK<|ay ?_;by_cases G:v.kind=2
 ·refine Lv aG (eF G)<|av aG<|aC<|aO<|Ws ?_;have aa:=C.c;have ac:=C.n;have ab:=C.g;have ae:=C.tc;have af:=C.t;have ad:=C.r;refine Wl<|av (pt p)<|av (pf I 9)<|Lv (aD v.node) (aM W.aI 9) ?_;have MO:CB w1 p m := { c:=aa.aI,an:=ac.arr,ag:=ab.arr,tc:=ae.aI,at2:=af.arr,ar:=fun i hi=>(ad.1 i hi).arr,bn:=(by show m.s.nn<=1000000; omega),bg:=bg,bt:=(by show m.tn<=1000000; omega),br:=S.br };refine dX (IV m p v.node _ MO) _ rfl ?_;intro w3 hb2;have⟨m3,m4,m5,m6,m7,m8,m9⟩:=jI hb2 W aa ac ab ae af ad;have b3:=eO hb2 X H;refine av (au (m.node v.node))<|aC<|Ws<|ay<|av (au (m.node v.node)) ?_;by_cases c23:(m.node v.node)<0
  ·refine Lv aG (gU c23)<|aC<|aO<|ay<|av (au 9)<|aC<|Wr<|sR<|bL<|sR<|aJ (au 9) ?_;have P:aL v=a:=(by unfold aL; omega);have A:dU m.core v=9:=(by unfold dU; rw[b_ F,d_ G]; unfold wM; exact d_ c23);exact⟨pz A.symm,b3,fun E=>by rw[A]at E; cases E⟩
  obtain⟨d,hkq,V,_⟩:=DV (m:=m) (x:=v.node) (by omega);have V:m.node v.node=(d:Int):=V;have ekN:(m.core.node v.node).toNat=d:=by show(m.node v.node).toNat=d; rw[V]; rfl
  refine Lv aF (gV c23)<|aC<|aK<|Wk<|sN<|Ws<|Ws ?_;have hRb:=kZ (hR d hkq) a (by omega);have hab:=kQ hmay (.inl G);refine zQ<|aU (pt p)<|aU (pt p)<|aU (pt p)<|aU (pf p 18)<|Qv (.slice m.s.na (m.s.nn) (m.s.nc)) (fun l f=>aM (m4.aI.dr f) 18)<|eG (K_ (Value.int .i64) V)<|aU (pt I)<|Qv (au v.o) (fun l f=>aM (m3.aI.dr f) 0)<|Qv (au a) (fun l f=>gF) ?_;obtain⟨Q,eq1⟩:=m5.addr (by omega);have m10:Fx.Own w3 B 61 56 (bK Q m.s.nn m.s.nc) m.s.nn (Jy m):=m5.fq (K_ (fun q=>Value.slice q m.s.nn m.s.nc) eq1);refine Qv (pf Q (56*d)) (fun l f=>cZ 56 (hx:=(rfl.trans (K_ (fun q=>Value.slice q (m.s.nn) (m.s.nc)) eq1))))<|aU (pf Q (56*d+2))<|aU (pf Q (56*d+2))<|Qv (pf Q (a+56*d+2)) (fun l f=>jC 6 1)<|Qv (au ((m.R d) a)) (fun l f=>aM (m10.aI.dr f) (a+56*d+2) (Fx.dF (k:=d) (j:=a+2) (by omega) (by omega) (TG _ _ _ (by omega))))<|aU (pf I 11)<|Qv (au v.aT) (fun l f=>aM (m3.aI.dr f) 11)<|Qv (au (((m.R d) a)+v.aT)) (fun l f=>dZ) ?_;by_cases c41:140737488355328<(((m.R d) a)+v.aT)
  ·refine Qv aG (fun l f=>lW c41)<|Qn ?_;rintro _ ⟨L,rfl⟩;obtain⟨DJ,rW⟩ : ∃ l,l=World.drewN w3 L:=⟨_,rfl⟩;rw[<- rW];have s3:Stp w3.heap.size w3 DJ:=(by rw[rW]; exact Sb (jM w3 L));have b4:=eO s3.old b3 H;clear rW;refine sN<|aO<|ay<|av (au 6)<|aC<|Wr<|sR<|bL<|sR<|aJ (au 6) ?_;have P:aL v=a:=(by unfold aL; omega);have A:dU m.core v=6:=(by unfold dU; rw[b_ F,d_ G]; unfold wM; rw[ekN,P,b_ (show ¬ m.core.node v.node<0 from c23)]; exact d_ c41);exact⟨pz A.symm,b4,fun E=>by rw[A]at E; cases E⟩
  refine Qv aF (fun l f=>lX c41)<|Qn ?_;rintro _ ⟨L,rfl⟩;obtain⟨wq2,wK⟩ : ∃ l,l=World.drewN w3 L:=⟨_,rfl⟩;rw[<- wK];have s4:Stp w3.heap.size w3 wq2:=by rw[wK]; exact Sb (jM w3 L)
  have⟨m18,m19,m20,m21,m22,m23,m24⟩:=jI s4.old m3 m4 m6 m7 m8 m9 m10;have b5:=eO s4.old b3 H;clear wK;refine sN<|aK<|Wk<|sN ?_;refine jO [0,1,2,3,5,6,14,4,9,10,11,17,18,19,7,8,12,13,15,16,20,21] [0,0,0,0,4,0,0,4,0,0,0,0,0,4,0,4,0,0,0,0,0,3] [(21,4,[4]),(21,7,[7]),(21,13,[13]),(21,15,[15])] fun qA dS iy => ?_;have⟨nA,oo,pE,oN,pF,oq,mJ⟩:=jI dS m18 m19 m20 m21 m22 m23 m24;have b6:=eO dS b5 H;refine aZ (pt p)<|aZ (pt p)<|aZ (pt p)<|aZ (pf p 18)<|bY (K_ (Value.int .i64) V)<|aZ (pt I)<|aZ (pf I 11)<|Rs (.slice m.s.na (m.s.nn) (m.s.nc)) (aM oo.aI 18) ?_;refine Rp (pf Q (56*d)) (fun _=>cZ 56 (hx:=(rfl.trans (K_ (fun q=>Value.slice q (m.s.nn) (m.s.nc)) eq1))))<|aZ (pf Q (56*d+2))<|aZ (pf Q (56*d+2))<|Rp (pf Q (56*d)) (fun _=>cZ 56 (hx:=(rfl.trans (K_ (fun q=>Value.slice q (m.s.nn) (m.s.nc)) eq1))))<|aZ (pf Q (56*d+2))<|aZ (pf Q (56*d+2))<|Rs (au v.o) (aM nA.aI 0) ?_;refine Rp (au a) (fun _=>gF)<|Rp (pf Q (a+56*d+2)) (fun _=>jC 6 1)<|Rs (au ((m.R d) a)) (aM mJ.aI (a+56*d+2) (Fx.dF (k:=d) (j:=a+2) (by omega) (by omega) (TG _ _ _ (by omega)))) ?_;refine Rs (au v.aT) (aM nA.aI 11) ?_;refine Rp (au (((m.R d) a)+v.aT)) (fun _=>dZ)<|Rp (pf Q (a+56*d+2)) (fun _=>jC 6 1)<|gI<|pV mJ (a+56*d+2) (au (((m.R d) a)+v.aT)) fun w4 m32 s6 z2 => ?_;have gM:=iw s6 mJ.JK;have⟨nX,pW,qm,rJ,qP⟩:=qL gM oo pE oN pF oq;have b7:=s6.below b6 (m_ H b6.size) mJ.blk.1;have pX:Fx.Own w4 B 61 56 (bK Q m.s.nn m.s.nc) m.s.nn (flat 56 (fun O=>mD (m.id O) (m.par O) (aH m.R d (upd (m.R d) a (((m.R d) a)+v.aT)) O))):=m32.congr (fun pq hp=>(Fx.Gs (k:=d) (j:=a+2) (by omega) (by omega) pq hp).trans (bJ (fun i hi j hj=>MQ (a:=a) (x:=((m.R d) a)+v.aT) (q:=d) (id:=m.id) (par:=m.par) (R:=m.R) i hi j hj) pq hp));refine Ln<|Rn<|bM<|sN<|ay<|av (au 0)<|aC<|Wr<|aJ (au 0) ?_;have P:aL v=a:=by unfold aL; omega
  have sD:Fx.Own w4 B 61 56 (.slice m.s.na (m.s.nn) (m.s.nc)) m.s.nn (flat 56 (fun O=>mD (m.id O) (m.par O) (aH m.R d (upd (m.R d) a (((m.R d) a)+v.aT)) O))):=pX.fq (K_ (fun q=>Value.slice q m.s.nn m.s.nc) eq1.symm);have A:dU m.core v=0:=by unfold dU; rw[b_ F,d_ G]; unfold wM; rw[ekN,P,b_ (show ¬ m.core.node v.node<0 from c23)]; exact b_ c41
  refine⟨pz A.symm,b7,fun _=>⟨{ m with R:=aH m.R d (upd (m.R d) a (m.R d a+v.aT)) },by symm; unfold iG; rw[b_ F,d_ G]; unfold E5; rw[ekN,P]; rfl,?_⟩⟩;exact { c:=nX,n:=sD,g:=pW,tc:=qm,t:=rJ,r:=qP,pB:=TQ,tB:=Dq,bn:=bn,bg:=bg,bt:=bt,br:=S.br }
 refine Lv aF (fE G)<|av aF<|aC<|aK<|ay ?_;by_cases K:v.kind=3
 ·refine Lv aG (eF K)<|av aG<|aC<|aO<|ay<|av (pt p)<|Lv (.agg (aA 14 (bQ v))) (gD W.aI 0)<|dX (XM m B p a D v _ C (m_ H X.size) ha ho bgg ZW hTN hD hD2) _ rfl ?_;rintro w5 ⟨hb3,hr2⟩;have b8:Below B w w5:=X.trans hb3;refine av (au (iQ m.core v))<|aC<|Wr<|bL<|sR<|aJ (au (iQ m.core v)) ?_;have A:dU m.core v=iQ m.core v:=by unfold dU; rw[b_ F,b_ G,d_ K]
  have ec:iG m.core v=lS m.core v:=by unfold iG; rw[b_ F,b_ G,d_ K]
  exact⟨pz A.symm,b8,fun E=>by rw[ec]; exact hr2 (A.symm.trans E)⟩
 refine Lv aF (fE K)<|av aF<|aC<|aK<|ay ?_;by_cases N:v.kind=4
 ·refine Lv aG (eF N)<|av aG<|aC<|aO<|ay<|av (pt p)<|Lv (.agg (aA 14 (bQ v))) (gD W.aI 0)<|dX (XV m B p a  v _ C (m_ H X.size) ha ho bgg ZW hTN hDx) _ rfl ?_;rintro w6 ⟨hb4,hr3⟩;have J:Below B w w6:=X.trans hb4;refine av (au (iF m.core v))<|aC<|Wr<|bL<|sR<|aJ (au (iF m.core v)) ?_;have A:dU m.core v=iF m.core v:=by unfold dU; rw[b_ F,b_ G,b_ K,d_ N]
  have ec:iG m.core v=jW m.core v:=by unfold iG; rw[b_ F,b_ G,b_ K,d_ N]
  exact⟨pz A.symm,J,fun E=>by rw[ec]; exact hr3 (A.symm.trans E)⟩
 refine Lv aF (fE N)<|av aF<|aC<|aK<|ay ?_;by_cases U:v.kind=5
 ·refine Lv aG (eF U)<|av aG<|aC<|aO<|Ws ?_;have aa:=C.c;have ac:=C.n;have ab:=C.g;have ae:=C.tc;have af:=C.t;have ad:=C.r;refine Wl<|av (pt p)<|av (pf I 9)<|Lv (aD v.node) (aM W.aI 9) ?_;have Uf:CB w1 p m := { c:=aa.aI,an:=ac.arr,ag:=ab.arr,tc:=ae.aI,at2:=af.arr,ar:=fun i hi=>(ad.1 i hi).arr,bn:=(by show m.s.nn<=1000000; omega),bg:=bg,bt:=(by show m.tn<=1000000; omega),br:=S.br };refine dX (IV m p v.node _ Uf) _ rfl ?_;intro M hb5;have⟨nY,mW,nC,sI,qZ,nZ,sF⟩:=jI hb5 W aa ac ab ae af ad;have b10:=eO hb5 X H;refine av (au (m.node v.node))<|aC<|Ws<|ay<|av (au (m.node v.node)) ?_;by_cases c80:(m.node v.node)<0
  ·refine Lv aG (gU c80)<|aC<|aO<|ay<|av (au 9)<|aC<|Wr<|sR<|bL<|sR<|aJ (au 9) ?_;have P:aL v=a:=(by unfold aL; omega);have A:dU m.core v=9:=(by unfold dU; rw[b_ F,b_ G,b_ K,b_ N,d_ U]; unfold oH; exact d_ c80);exact⟨pz A.symm,b10,fun E=>by rw[A]at E; cases E⟩
  obtain⟨d,hkq,V,_⟩:=DV (m:=m) (x:=v.node) (by omega);have V:m.node v.node=(d:Int):=V;have ekN:(m.core.node v.node).toNat=d:=by show(m.node v.node).toNat=d; rw[V]; rfl
  refine Lv aF (gV c80)<|aC<|aK<|Wk<|sN<|Ws<|Ws ?_;refine zQ<|aU (pf I 10)<|Qv (au v.dst) (fun l f=>aM (nY.aI.dr f) 10) ?_;by_cases c83:v.dst<1
  ·refine Qv aG (fun l f=>gU c83)<|aU aG<|aP<|aP<|aP<|aU aG<|aU aG<|aP<|aP<|aP<|aP<|aP<|aP<|aP<|aP<|aP<|aP<|aU aG<|Qn ?_;rintro _ ⟨L,rfl⟩;obtain⟨Qa,EY⟩ : ∃ l,l=World.drewN M L:=⟨_,rfl⟩;rw[<- EY];have s8:Stp M.heap.size M Qa:=(by rw[EY]; exact Sb (jM M L));have b11:=eO s8.old b10 H;clear EY;refine sN<|aO<|ay<|av (au 10)<|aC<|Wr<|sR<|bL<|sR<|aJ (au 10) ?_;have P:aL v=a:=(by unfold aL; omega);have A:dU m.core v=10:=(by unfold dU; rw[b_ F,b_ G,b_ K,b_ N,d_ U]; unfold oH; rw[b_ (show ¬ m.core.node v.node<0 from c80)]; exact d_ (.inl c83));exact⟨pz A.symm,b11,fun E=>by rw[A]at E; cases E⟩
  refine Qv aF (fun l f=>gV c83)<|aU aF<|aU (pf I 10)<|Qv (au v.dst) (fun l f=>aM (nY.aI.dr f) 10) ?_;by_cases c87:6<v.dst
  ·refine Qv aG (fun l f=>lW c87)<|aU aG<|aU aG<|aP<|aP<|aP<|aP<|aP<|aP<|aP<|aP<|aP<|aP<|aU aG<|Qn ?_;rintro _ ⟨L,rfl⟩;obtain⟨wq4,EZ⟩ : ∃ l,l=World.drewN M L:=⟨_,rfl⟩;rw[<- EZ];have s9:Stp M.heap.size M wq4:=(by rw[EZ]; exact Sb (jM M L));have b12:=eO s9.old b10 H;clear EZ;refine sN<|aO<|ay<|av (au 10)<|aC<|Wr<|sR<|bL<|sR<|aJ (au 10) ?_;have P:aL v=a:=(by unfold aL; omega);have A:dU m.core v=10:=(by unfold dU; rw[b_ F,b_ G,b_ K,b_ N,d_ U]; unfold oH; rw[b_ (show ¬ m.core.node v.node<0 from c80)]; exact d_ (.inr (.inl c87)));exact⟨pz A.symm,b12,fun E=>by rw[A]at E; cases E⟩
  obtain⟨J,WB,eb9⟩ : ∃ b:Nat,b<6/\v.dst=(b:Int)+1:=⟨(v.dst-1).toNat,by omega,by omega⟩;refine Qv aF (fun l f=>lX c87)<|aU aF<|aU aF<|aU (pt p)<|aU (pf I 10)<|Qv (au v.dst) (fun l f=>aM (nY.aI.dr f) 10)<|Qv (au J) (fun l f=>gF)<|aU (pt p)<|aU (pt p)<|aU (pt p)<|Qv (pf p J) (fun l f=>jC 6 1) ?_;by_cases c98:(m.s.inn J)=true
  ·refine Qv aG (fun l f=>aM (mW.aI.dr f) J ((kM _ (by omega) (EC _ (by omega))).trans (K_ Value.bool c98)))<|aU aF<|aU aF<|Qn ?_;rintro _ ⟨L,rfl⟩;obtain⟨wq5,MP⟩ : ∃ l,l=World.drewN M L:=⟨_,rfl⟩;rw[<- MP];have s10:Stp M.heap.size M wq5:=(by rw[MP]; exact Sb (jM M L));have⟨nL,ru,m64,uW,uJ,wz,wB⟩:=jI s10.old nY mW nC sI qZ nZ sF;have b13:=eO s10.old b10 H;clear MP;refine sN<|aK<|Wk<|sN<|Ws ?_;obtain⟨Z,GU⟩:=m64.addr (by omega);have rM:Fx.Own wq5 B 61 56 (bK Z m.s.nn m.s.nc) m.s.nn (Jy m):=m64.fq (K_ (fun q=>Value.slice q m.s.nn m.s.nc) GU);refine qI (T:=59) (T':=59) (a := .tmp 7) (v := .tmp 118) (m:=54) (z:=rv .i64 (fun _=>0)) (y:=rv .i64 ((dw (m.R d) v.o v.dst v.aT).1)) (u := .agg (aA 54 (rv .i64 ((dw (m.R d) v.o v.dst v.aT).1)))) 19 20 (List.replicate 22 (0,2,[],[])) #[(pt p),(pt p),(pt p),(pf p 18),.slice m.s.na (m.s.nn) (m.s.nc),au (d:Int),(pf Z (56*d)),(pf Z (56*d+2)),.agg (aA 54 (rv .i64 (m.R d))),(pt I),au v.o,(pf I 10),au v.dst,(pf I 11),au v.aT,.tuple #[.agg (aA 54 (rv .i64 ((dw (m.R d) v.o v.dst v.aT).1))),au ((dw (m.R d) v.o v.dst v.aT).2)],.tuple #[.agg (aA 54 (rv .i64 ((dw (m.R d) v.o v.dst v.aT).1))),au ((dw (m.R d) v.o v.dst v.aT).2)],.agg (aA 54 (rv .i64 ((dw (m.R d) v.o v.dst v.aT).1))),au ((dw (m.R d) v.o v.dst v.aT).2),undef,undef,au ((dw (m.R d) v.o v.dst v.aT).2)] (by kernel_rfl) (by kernel_rfl) (by kernel_rfl) (by kernel_rfl) (by kernel_rfl) (by kernel_rfl) rfl (by kernel_rfl) rfl rfl (by kernel_rfl) (fun Y=>(show ev _ (.tmp 7)=(pt Y)from by kernel_rfl)) (fun Y=>(show ev _ (.tmp 118) = .agg (aA 54 (rv .i64 ((dw (m.R d) v.o v.dst v.aT).1)))from by kernel_rfl)) (bH _ _) (fun _ _=>rfl) (by kernel_rfl) (fun Y => ?_) ?_
   ·refine⟨?_,?_,?_,?_,?_,?_,?_,?_,?_,?_,?_,?_,?_,?_,?_,?_,?_,?_,?_,?_,?_,?_,trivial⟩
    ·exact .inr (.inr nW)
    ·exact .inr (.inr nW)
    ·exact .inr (.inr nW)
    ·exact .inr (.inr nW)
    ·exact .inr (.inr (oL (.slice m.s.na (m.s.nn) (m.s.nc)) fun l f=>bB (x:=mE m) rfl (show ev _ (.tmp 105)=(pf p 18)from by kernel_rfl) (by kernel_rfl) (ru.aI.below f (by have:=ru.lt; omega)) (i:=18) (by omega) (by omega) rfl))
    ·exact .inr (.inr (oL (au d) fun l f=>eP rfl ((bO (by kernel_rfl)).trans (K_ (Value.int .i64) V))))
    ·exact .inr (.inr (oL (pf Z (56*d)) fun l f=>dO rfl ((show ev _ (.tmp 106) = .slice m.s.na (m.s.nn) (m.s.nc)from by kernel_rfl).trans (K_ (fun q=>Value.slice q (m.s.nn) (m.s.nc)) GU)) (show ev _ (.tmp 107)=au (d:Int)from by kernel_rfl) Tryz.underlying50 (s:=56) (by kernel_rfl) (by omega) (by omega) (by omega)))
    ·exact .inr (.inr nW)
    ·exact .inr (.inr (oL (.agg (aA 54 (rv .i64 (m.R d)))) fun l f=>eT (x:=Jy m) (y:=rv .i64 (m.R d)) rfl (show ev _ (.tmp 109)=(pf Z (56*d+2))from by kernel_rfl) (by kernel_rfl) (by kernel_rfl) (rM.aI.below f (by have:=rM.lt; omega)) (i:=56*d+2) (by omega) (by omega) (fun jq hjq=>(Fx.kY (k:=d) (j:=2+jq) (by omega) (by omega)).trans ((fun jq _=>IQ _ _ _ jq) jq hjq))))
    ·exact .inr (.inr nW)
    ·exact .inr (.inr (oL (au v.o) fun l f=>bB (x:=bQ v) rfl (show ev _ (.tmp 111)=(pt I)from by kernel_rfl) (by kernel_rfl) (nL.aI.below f (by have:=nL.lt; omega)) (i:=0) (by omega) (by omega) rfl))
    ·exact .inr (.inr nW)
    ·exact .inr (.inr (oL (au v.dst) fun l f=>bB (x:=bQ v) rfl (show ev _ (.tmp 113)=(pf I 10)from by kernel_rfl) (by kernel_rfl) (nL.aI.below f (by have:=nL.lt; omega)) (i:=10) (by omega) (by omega) rfl))
    ·exact .inr (.inr nW)
    ·exact .inr (.inr (oL (au v.aT) fun l f=>bB (x:=bQ v) rfl (show ev _ (.tmp 115)=(pf I 11)from by kernel_rfl) (by kernel_rfl) (nL.aI.below f (by have:=nL.lt; omega)) (i:=11) (by omega) (by omega) rfl))
    ·exact .inr (.inr (Fx.Il (v := .tuple #[.agg (aA 54 (rv .i64 ((dw (m.R d) v.o v.dst v.aT).1))),au ((dw (m.R d) v.o v.dst v.aT).2)]) (by kernel_rfl) (by kernel_rfl) (Fx.qbC (fun l f=>rC (args := [.agg (aA 54 (rv .i64 (m.R d))),au v.o,au v.dst,au v.aT]) rfl (Fx.Rb (show ev _ (.tmp 110) = .agg (aA 54 (rv .i64 (m.R d)))from by kernel_rfl) (show ev _ (.tmp 112)=au v.o from by kernel_rfl) (show ev _ (.tmp 114)=au v.dst from by kernel_rfl) (show ev _ (.tmp 116)=au v.aT from by kernel_rfl)) Tryz.func81 rfl rfl) (fun l f=>(XL (m.R d) v.o v.dst v.aT _).mono fun e v2 h=>⟨h.1,h.2⟩))))
    ·exact .inr (.inr nW)
    ·exact .inr (.inr nW)
    ·exact .inr (.inr nW)
    ·exact .inl rfl
    ·exact .inr (.inl rfl)
    exact .inr (.inr nW)
   rintro Y w8 f1 hf1 sP tL hb6;have anQ:I≠Y:=t_ (n_ (nL.lt) sP);have acC:p≠Y:=t_ (n_ (ru.lt) sP);have anR:m.tb≠Y:=t_ (n_ (uJ.lt) sP);have anS:Z≠Y:=t_ (n_ (rM.lt) sP);have⟨tN,sG,xk,tO,uX,xq⟩:=ql hb6 ru uW uJ wz wB rM;have b14:=eO hb6 b13 H;have sP:w.heap.size<=Y:=m_ b13.size sP;have Bl:=tL.lt;have q1:f1 0=(pt p):=(by rw[hf1]; kernel_rfl);have q2:f1 4=au 0:=(by rw[hf1]; kernel_rfl);have q3:f1 6=au (d:Int):=(by rw[hf1]; exact(bO (by kernel_rfl)).trans (K_ (Value.int .i64) V));have q4:f1 7=(pt Y):=(by rw[hf1]; kernel_rfl);have q5:f1 8=au ((dw (m.R d) v.o v.dst v.aT).2):=(by rw[hf1]; kernel_rfl);clear hf1;refine sN<|Ws<|ay<|aR q5 ?_;by_cases XY:((dw (m.R d) v.o v.dst v.aT).2)=0
   ·refine Lv aF (kr XY)<|aC<|aK<|Wk<|sN ?_;refine jO [0,1,2,3,5,4,6,7,8,9] [0,0,0,0,4,0,4,0,0,3] [(9,4,[4]),(9,6,[6])] fun Cx gu nJ => ?_;have⟨uY,uL,tQ,wC,yI,xw,yJ⟩:=jI gu tN sG xk tO uX xq tL;have b15:=eO gu b14 H;refine bY q1<|aZ (pt p)<|aZ (pt p)<|aZ (pf p 18)<|bY q3<|Rs (.slice m.s.na (m.s.nn) (m.s.nc)) (aM uY.aI 18) ?_;refine Rs (.agg (aA 54 (rv .i64 ((dw (m.R d) v.o v.dst v.aT).1)))) (gD yJ.aI 0 (ha:=q4)) ?_;refine Rp (pf Z (56*d)) (fun _=>cZ 56 (hx:=(rfl.trans (K_ (fun q=>Value.slice q (m.s.nn) (m.s.nc)) GU))))<|aZ (pf Z (56*d+2))<|gI<|zP xw (56*d+2) fun w9 zF s13 z3 => ?_;have jQ:=iw s13 xw.JK;have⟨zi,zk,zT,Ey,AJ⟩:=qL jQ uY uL tQ wC yI;have b16:=s13.below b15 (m_ H b15.size) xw.blk.1;have zl:Fx.Own w9 B 61 56 (bK Z m.s.nn m.s.nc) m.s.nn (flat 56 (fun O=>mD (m.id O) (m.par O) (aH m.R d ((dw (m.R d) v.o v.dst v.aT).1) O))):=zF.congr (fun pq hp=>(Fx.Bp (k:=d) (j:=2) (by omega) (by omega) pq hp).trans (bJ (fun i hi j hj=>BO (r:=(dw (m.R d) v.o v.dst v.aT).1) (q:=d) (id:=m.id) (par:=m.par) (R:=m.R) i hi j hj) pq hp));refine Ln<|Rn<|bM<|sN<|ay<|av (au 0)<|aC<|Wr<|aJ (au 0) ?_;have P:aL v=a:=(by unfold aL; omega);have eto : ¬ (v.dst<1\/6<v.dst\/m.core.inn (v.dst-1).toNat=false):=fun h=>h.elim c83 (fun h=>h.elim c87 (fun h=>by rw[show(v.dst-1).toNat=J by omega]at h; rw[show m.core.inn J=true from c98]at h; cases h))
    have eW:yg m.core v=dw (m.R d) v.o v.dst v.aT:=(by unfold yg; rw[ekN]; rfl);have xB:Fx.Own w9 B 61 56 (.slice m.s.na (m.s.nn) (m.s.nc)) m.s.nn (flat 56 (fun O=>mD (m.id O) (m.par O) (aH m.R d ((dw (m.R d) v.o v.dst v.aT).1) O))):=zl.fq (K_ (fun q=>Value.slice q m.s.nn m.s.nc) GU.symm);have A:dU m.core v=0:=(by unfold dU; rw[b_ F,b_ G,b_ K,b_ N,d_ U]; unfold oH; rw[b_ (show ¬ m.core.node v.node<0 from c80),b_ eto,eW]; exact XY);refine⟨pz A.symm,b16,fun _=>⟨{ m with R:=aH m.R d (dw (m.R d) v.o v.dst v.aT).1 },by symm; unfold iG; rw[b_ F,b_ G,b_ K,b_ N,d_ U]; unfold E8; rw[ekN,eW]; rfl,?_⟩⟩;exact { c:=zi,n:=xB,g:=zk,tc:=zT,t:=Ey,r:=AJ,pB:=TQ,tB:=Dq,bn:=bn,bg:=bg,bt:=bt,br:=S.br }
   refine Lv aG (nH XY)<|aC<|aO<|ay<|aR q5<|av (au ((dw (m.R d) v.o v.dst v.aT).2))<|aC<|Wr<|sR<|bL<|sR<|aJ (au ((dw (m.R d) v.o v.dst v.aT).2)) ?_;have P:aL v=a:=(by unfold aL; omega);have eto : ¬ (v.dst<1\/6<v.dst\/m.core.inn (v.dst-1).toNat=false):=fun h=>h.elim c83 (fun h=>h.elim c87 (fun h=>by rw[show(v.dst-1).toNat=J by omega]at h; rw[show m.core.inn J=true from c98]at h; cases h))
   have eW:yg m.core v=dw (m.R d) v.o v.dst v.aT:=(by unfold yg; rw[ekN]; rfl);have A:dU m.core v=(dw (m.R d) v.o v.dst v.aT).2:=(by unfold dU; rw[b_ F,b_ G,b_ K,b_ N,d_ U]; unfold oH; rw[b_ (show ¬ m.core.node v.node<0 from c80),b_ eto,eW]);exact⟨pz A.symm,b14,fun E=>by rw[A]at E; exact L_ E XY⟩
  rw[S_]at c98;refine Qv aF (fun l f=>aM (mW.aI.dr f) J ((kM _ (by omega) (EC _ (by omega))).trans (K_ Value.bool c98)))<|aU aG<|aU aG<|Qn ?_;rintro _ ⟨L,rfl⟩;obtain⟨wq6,acF⟩ : ∃ l,l=World.drewN M L:=⟨_,rfl⟩;rw[<- acF];have Dm:Stp M.heap.size M wq6:=by rw[acF]; exact Sb (jM M L)
  have b17:=eO Dm.old b10 H;clear acF;refine sN<|aO<|ay<|av (au 10)<|aC<|Wr<|sR<|bL<|sR<|aJ (au 10) ?_;have P:aL v=a:=by unfold aL; omega
  have A:dU m.core v=10:=by unfold dU; rw[b_ F,b_ G,b_ K,b_ N,d_ U]; unfold oH; rw[b_ (show ¬ m.core.node v.node<0 from c80)]; exact d_ (.inr (.inr (by rw[show(v.dst-1).toNat=J by omega]; exact c98)))
  exact⟨pz A.symm,b17,fun E=>by rw[A]at E; cases E⟩
 refine Lv aF (fE U)<|av aF<|aC<|aK<|ay ?_;by_cases Ul:v.kind=6
 ·refine Lv aG (eF Ul)<|av aG<|aC<|aO ?_;have aa:=C.c;have ac:=C.n;have ab:=C.g;have ae:=C.tc;have af:=C.t;have ad:=C.r;obtain⟨J,WB,eb9⟩:=GV hmay Ul;refine jO [0,1,4,5,6,2,3,7,8] [0,0,4,0,0,0,0,0,3] [(8,2,[2])] fun QW lK Ay => ?_;have⟨qQ,nP,nQ,oG,og,pJ,rY⟩:=jI lK W aa ac ab ae af ad;have b18:=eO lK X H;refine aZ (pt p)<|aZ (pf I 10)<|aZ (pt p)<|aZ (pt p)<|aZ (pt p)<|Rs (au v.dst) (aM qQ.aI 10) ?_;refine Rp (au J) (fun _=>gF)<|Rp (pf p J) (fun _=>jC 6 1)<|gI<|jh nP J aG fun um vF s16 z4 => ?_;have qN:=iw s16 nP.ty;have⟨uy,zm,vG,zn,BI⟩:=qL qN nQ oG og pJ rY;have b19:=s16.below b18 (m_ H b18.size) (by omega);refine Ln<|Rn<|bM<|sN<|ay<|av (au 0)<|aC<|Wr<|aJ (au 0) ?_;have P:aL v=a:=by unfold aL; omega
  have A:dU m.core v=0:=by unfold dU; rw[b_ F,b_ G,b_ K,b_ N,b_ U]
  refine⟨pz A.symm,b19,fun _=>⟨{ m with s := { m.s with inn:=aH m.s.inn J true } },by symm; unfold iG; rw[b_ F,b_ G,b_ K,b_ N,b_ U,d_ Ul]; rw[show(v.dst-1).toNat=J by omega]; rfl,?_⟩⟩;exact { c:=vF.to (XW m WB),n:=uy,g:=zm,tc:=vG,t:=zn,r:=BI,pB:=TQ,tB:=Dq,bn:=bn,bg:=bg,bt:=bt,br:=S.br }
 refine Lv aF (fE Ul)<|av aF<|aC<|aK<|ay<|Lv aG afh<|av aG<|aC<|aO ?_;have aa:=C.c;have ac:=C.n;have ab:=C.g;have ae:=C.tc;have af:=C.t;have ad:=C.r;refine jO [0,1,4,5,6,2,3,7,8] [0,0,4,0,0,0,0,0,3] [(8,2,[2])] fun wt4 qB GA => ?_;have⟨xH,uz,qw,xZ,yc,uD,BJ⟩:=jI qB W aa ac ab ae af ad;have b20:=eO qB X H;refine aZ (pt p)<|aZ (pt I)<|aZ (pt p)<|aZ (pt p)<|aZ (pf p 6)<|Rs (au v.o) (aM xH.aI 0) ?_;refine Rp (au a) (fun _=>gF)<|Rp (pf p (a+6)) (fun _=>jC 6 1)<|gI<|jh uz (a+6) aG fun Ev IY LP z5 => ?_;have zS:=iw LP uz.ty;have⟨AL,EJ,Ga,BK,zX⟩:=qL zS qw xZ yc uD BJ;have F9:=LP.below b20 (m_ H b20.size) (by omega);refine Ln<|Rn<|bM<|sN<|ay<|av (au 0)<|aC<|Wr<|aJ (au 0) ?_;have P:aL v=a:=by unfold aL; omega
 have A:dU m.core v=0:=by unfold dU; rw[b_ F,b_ G,b_ K,b_ N,b_ U]
 refine⟨pz A.symm,F9,fun _=>⟨{ m with s := { m.s with left:=aH m.s.left a true } },by symm; unfold iG; rw[b_ F,b_ G,b_ K,b_ N,b_ U,b_ Ul]; rw[P]; rfl,?_⟩⟩;exact { c:=IY.to (Uk m ha rfl),n:=AL,g:=EJ,tc:=Ga,t:=BK,r:=zX,pB:=TQ,tB:=Dq,bn:=bn,bg:=bg,bt:=bt,br:=S.br }
namespace Rt
structure acG(L:fQ)(T:Nat):Prop where
 nn:L.nn<=33
 gn:L.gn<=T
 rn : ∀ i,i<6->L.rn i<=T
 tn : ∀ x,L.node x=bE L.t L.tn x
 dx : ∀ x,∃ D,D<=1000/\bE L.t L.tn (bf L.t L.tn D x)<0
 may : ∀ k,k<L.nn->may (L.R k)=true
 kn:Ez L.known
open Classical in
noncomputable def bS(L:fQ)(v:EvM):Int :=
 if bR v=false then 1 else if mh L.known v=true then 14 else if dH L.known v=false then 13 else if L.inn (aL v)=false\/L.left (aL v)=true then 10 else dU L v
def GX(L:fQ)(v:EvM):fQ := { L with known:=aH L.known (aL v) (L.known (aL v)+1) }
open Classical in
noncomputable def bU(L:fQ)(v:EvM):fQ:=if bS L v=0 then GX (iG L v) v else L
theorem pK(L:fQ)(v:EvM):(iG L v).known=L.known:=by
 unfold iG;split; · unfold qp; rfl
 split; · unfold E5; rfl
 split; · unfold lS qx; rfl
 split; · unfold jW qx; rfl
 split; · unfold E8; rfl
 split <;> rfl
end Rt
set_option maxRecDepth 20000 in
set_option maxHeartbeats 2000000 in
theorem Oq(m:lD)(B p T:Nat)(v:EvM)(w:World)(L:vP w B p m)(z:fT v)(I:acG m.core T)(hT:T<=900000) :
 Calls Tryz.prog 25 #[(pt p),.agg (aA 14 (bQ v))] w fun e w' => ∃ p' m',e = .returned (.tuple #[(pt p'),au (bS m.core v)])/\m'.core=bU m.core v/\vP w' B p' m'/\Below w.heap.size w w':=by
 have O:=L.c;have lpp:p<w.heap.size:=O.lt;have hpB:=L.pB;refine Kent Tryz.func25 73 ?_;refine ay<|rF fun g1 w1 ng U s1 z1 => ?_;have⟨F,d,Y⟩:=kI s1.old L O (Below.refl w.heap.size w);have sw:=iB ng;have Oe:=dn ng O.lt;have wu:=U.lt;refine av (.pointer none)<|av (au 0)<|aC<|Ws<|ay<|Lv (.agg (aA 14 (bQ v))) (gD U.aI 0) ?_;by_cases l:(bR v)=true
 ·refine dX (GI v _ z) aG (by rw[l]) ?_;intro w2 hb1;have⟨m4,m5,m6,Z⟩:=qj hb1 F d U Y;refine av aF<|aC<|aK<|Wk<|sN<|Ws<|Ws ?_;refine mO<|aU (pt p)<|aU (pt p)<|aU (pt p)<|aU (pf p 12)<|Qv (.agg (aA 6 (rv .u64 m.s.known))) (fun W A=>gD (m5.cb A) 12 (fun j S=>kM _ (by omega) (lu _ S (by omega))))<|Qv (.agg (aA 14 (bQ v))) (fun W A=>gD (m6.cb A) 0) ?_;by_cases u:(mh m.s.known v)=true
  ·refine ze (fun _ _=>Tg m.s.known v _ z) aG (by rw[u])<|Qn ?_;intro Xg tH;have⟨m7,b3⟩:=fF tH m4 Z;refine sN<|aO<|ay<|av (pt p)<|av (pt p)<|av (au 14)<|aC<|Wr<|sR<|aJ (.tuple #[(pt p),au 14]) ?_;have b:bS m.core v=14:=(by unfold bS; rw[b_ (by rw[l]; decide)]; exact d_ u);have q:bU m.core v=m.core:=(by unfold bU; rw[b_ (by rw[b]; decide)]);exact⟨p,m,by rw[b],q.symm,m7,b3⟩
  rw[S_]at u;refine ze (fun _ _=>Tg m.s.known v _ z) aF (by rw[u])<|Qn ?_;intro ZG wX;have⟨m10,m11,m12,b4⟩:=qj wX m4 m5 m6 Z;refine sN<|aK<|Wk<|sN<|Ws<|Ws ?_;refine mO<|aU (pt p)<|aU (pt p)<|aU (pt p)<|aU (pf p 12)<|Qv (.agg (aA 6 (rv .u64 m.s.known))) (fun W A=>gD (m11.cb A) 12 (fun j S=>kM _ (by omega) (lu _ S (by omega))))<|Qv (.agg (aA 14 (bQ v))) (fun W A=>gD (m12.cb A) 0) ?_;by_cases x:(dH m.s.known v)=true
  ·refine ze (fun _ _=>NY m.s.known v _ z I.kn) aG (by rw[x])<|aU aF<|Qn ?_;intro N wY;have⟨K,M,m15,G⟩:=qj wY m10 m11 m12 b4;refine sN<|aK<|Wk<|sN<|Ws ?_;obtain⟨a,P,ho⟩:=fB (iJ l);refine Wl<|av (pt g1)<|Lv (au v.o) (aM m15.aI 0)<|Lv (au a) gF<|av (au a)<|aC<|Ws<|ay<|av (pt p)<|av (au a)<|av (pt p)<|av (pt p)<|av (pt p)<|Lv (pf p a) (jC 6 1) ?_;by_cases C:(m.s.inn a)=true
   ·refine Lv aG (aM M.aI a ((kM _ (by omega) (EC _ (by omega))).trans (K_ Value.bool C)))<|av aF<|av aF<|av (pt p)<|av (au a)<|av (pt p)<|av (pt p)<|av (pf p 6)<|Lv (pf p (a+6)) (jC 6 1) ?_;by_cases D:(m.s.left a)=true
    ·refine Lv aG (aM M.aI (a+6) ((kM _ (by omega) (Km _ (by omega) (by omega))).trans (K_ Value.bool D)))<|av aG<|aC<|aO<|ay<|av (pt p)<|av (pt p)<|av (au 10)<|aC<|Wr<|sR<|aJ (.tuple #[(pt p),au 10]) ?_;have y:aL v=a:=(by unfold aL; omega);have b:bS m.core v=10:=(by unfold bS; rw[b_ (by rw[l]; decide),b_ (by rw[show mh m.core.known v=false from u]; decide),b_ (by rw[show dH m.core.known v=true from x]; decide),y]; exact d_ (.inr D));have q:bU m.core v=m.core:=(by unfold bU; rw[b_ (by rw[b]; decide)]);exact⟨p,m,by rw[b],q.symm,K,G⟩
    rw[S_]at D;refine Lv aF (aM M.aI (a+6) ((kM _ (by omega) (Km _ (by omega) (by omega))).trans (K_ Value.bool D)))<|av aF<|aC<|aK<|Wk<|sN<|ay<|av (pt p)<|lV (abR m p _ K.ldg (by have:=I.nn; have e:m.core.nn=m.s.nn:=rfl; omega) K.bt) ?_;rintro e w3 ⟨f,F,J,R,hL2,Q⟩;refine⟨(pt f),J,?_⟩;clear J;have⟨m18,b6⟩:=fF Q m15 G;have E:acG F.core T:=(by rw[R]; exact I);refine av (pt f)<|aC<|Ws ?_;have anU:=hL2;refine Wl<|av (pt f)<|Lv (.agg (aA 14 (bQ v))) (gD m18.aI 0)<|lV (acD F N.heap.size f a v _ anU Q.size P ho (by have h9:F.s.nn<=33:=E.nn; omega) (m_ E.gn hT) (fun i hi=>m_ (E.rn i hi) hT) E.tn E.dx z l E.may) ?_;rintro e X ⟨J,hbd,hL3⟩;refine⟨au (dU m.core v),by rw[<- R]; exact J,?_⟩;clear J;rw[R]at hL3;have b8:Below N.heap.size N X:=Q.trans hbd;have b7:Below w.heap.size w X:=b6.trans (hbd.mono (m_ (z_ _) G.size));have m19:vP X B p m:=K.up b8;refine av (au (dU m.core v))<|aC<|Ws<|ay<|av (au (dU m.core v)) ?_;by_cases H:(dU m.core v)=0
    ·refine Lv aF (kr H)<|aC<|aK<|Wk<|sN<|Ws ?_;obtain⟨d,hc3,k⟩:=hL3 H;have hMc:=k.c;have hMn:=k.n;have hMg:=k.g;have hMt:=k.tc;have anV:=k.t;have hMr:=k.r;have ek3:d.s.known=m.s.known:=(by show d.core.known=_; rw[hc3,pK]; rfl);have hk3:=I.kn a P;have hk3:0<=d.s.known a/\d.s.known a<1099511627776:=(by rw[ek3]; exact hk3);have lp2:=k.pB;have sw1:=G.size;refine jO [0,1,2,3,4,5,8,9,10,6,7,11,12] [0,0,0,0,0,0,4,0,0,0,0,0,3] [(12,6,[6])] fun qA dS iy => ?_;have⟨V,m21,m22,m23,m24,nA,b9⟩:=jI dS hMc hMn hMg hMt anV hMr b7;refine aZ (pt f)<|aZ (au a)<|aZ (pt f)<|aZ (pt f)<|aZ (pf f 12)<|Rp (pf f (a+12)) (fun _=>jC 6 1)<|aZ (pt f)<|aZ (pt f)<|aZ (pf f 12)<|Rs (aD (d.s.known a)) (aM V.aI (a+12) (kM _ (by omega) (lu _ (by omega) (by omega)))) ?_;refine Rp (aD (d.s.known a+1)) (fun _=>dZ)<|Rp (pf f (a+12)) (fun _=>jC 6 1)<|gI<|jh V (a+12) (aD (d.s.known a+1)) fun w5 oo s8 z2 => ?_;have gM:=iw s8 V.ty;have⟨pE,oN,pF,oq,mJ⟩:=qL gM m21 m22 m23 m24 nA;have b10:=s8.below b9 b9.size (by omega);refine Ln<|bP<|ay<|av (pt f)<|av (pt f)<|av (au 0)<|aC<|Wr<|aJ (.tuple #[(pt f),au 0]) ?_;have y:aL v=a:=(by unfold aL; omega);have b:bS m.core v=0:=by unfold bS; rw[b_ (by rw[l]; decide),b_ (by rw[show mh m.core.known v=false from u]; decide),b_ (by rw[show dH m.core.known v=true from x]; decide),y]; rw[b_ (show ¬ (m.core.inn a=false\/m.core.left a=true)from fun h=>h.elim (fun h=>by rw[show m.core.inn a=true from C]at h; cases h) (fun h=>by rw[show m.core.left a=false from D]at h; cases h))]; exact H
     have hfin:vP w5 N.heap.size f { d with s := { d.s with known:=aH d.s.known a (d.s.known a+1) } } := { c:=oo.to (Qg d P rfl _),n:=pE,g:=oN,tc:=pF,t:=oq,r:=mJ,pB:=k.pB,tB:=k.tB,bn:=k.bn,bg:=k.bg,bt:=k.bt,br:=k.br };refine⟨f,{ d with s := { d.s with known:=aH d.s.known a (d.s.known a+1) } },by rw[b],?_,hfin.mono (by have:=L.pB; have:=lpp; omega),b10⟩;unfold bU; rw[d_ b]; unfold GX; rw[y,pK,<- hc3,show m.core.known=d.s.known from ek3.symm]; rfl
    refine Lv aG (nH H)<|aC<|aO<|ay<|av (pt p)<|av (au (dU m.core v))<|av (pt p)<|av (au (dU m.core v))<|aC<|Wr<|sR<|aJ (.tuple #[(pt p),au (dU m.core v)]) ?_;have y:aL v=a:=(by unfold aL; omega);have b:bS m.core v=dU m.core v:=by unfold bS; rw[b_ (by rw[l]; decide),b_ (by rw[show mh m.core.known v=false from u]; decide),b_ (by rw[show dH m.core.known v=true from x]; decide),y]; rw[b_ (show ¬ (m.core.inn a=false\/m.core.left a=true)from fun h=>h.elim (fun h=>by rw[show m.core.inn a=true from C]at h; cases h) (fun h=>by rw[show m.core.left a=false from D]at h; cases h))]
    have q:bU m.core v=m.core:=(by unfold bU; rw[b_ (by rw[b]; exact H)]);exact⟨p,m,by rw[b],q.symm,m19,b7⟩
   rw[S_]at C;refine Lv aF (aM M.aI a ((kM _ (by omega) (EC _ (by omega))).trans (K_ Value.bool C)))<|av aG<|av aG<|bX<|bX<|bX<|bX<|bX<|bX<|bX<|av aG<|aC<|aO<|ay<|av (pt p)<|av (pt p)<|av (au 10)<|aC<|Wr<|sR<|aJ (.tuple #[(pt p),au 10]) ?_;have y:aL v=a:=(by unfold aL; omega);have b:bS m.core v=10:=(by unfold bS; rw[b_ (by rw[l]; decide),b_ (by rw[show mh m.core.known v=false from u]; decide),b_ (by rw[show dH m.core.known v=true from x]; decide),y]; exact d_ (.inl C));have q:bU m.core v=m.core:=(by unfold bU; rw[b_ (by rw[b]; decide)]);exact⟨p,m,by rw[b],q.symm,K,G⟩
  rw[S_]at x;refine ze (fun _ _=>NY m.s.known v _ z I.kn) aF (by rw[x])<|aU aG<|Qn ?_;intro wb4 Az;have⟨m32,b11⟩:=fF Az m10 b4;refine sN<|aO<|ay<|av (pt p)<|av (pt p)<|av (au 13)<|aC<|Wr<|sR<|aJ (.tuple #[(pt p),au 13]) ?_;have b:bS m.core v=13:=by unfold bS; rw[b_ (by rw[l]; decide),b_ (by rw[show mh m.core.known v=false from u]; decide)]; exact d_ x
  have q:bU m.core v=m.core:=by unfold bU; rw[b_ (by rw[b]; decide)]
  exact⟨p,m,by rw[b],q.symm,m32,b11⟩
 rw[S_]at l;refine dX (GI v _ z) aF (by rw[l]) ?_;intro w6 hb2;have⟨pW,b12⟩:=fF hb2 F Y;refine av aG<|aC<|aO<|ay<|av (pt p)<|av (pt p)<|av (au 1)<|aC<|Wr<|sR<|aJ (.tuple #[(pt p),au 1]) ?_;have b:bS m.core v=1:=by unfold bS; exact d_ l
 have q:bU m.core v=m.core:=by unfold bU; rw[b_ (by rw[b]; decide)]
 exact⟨p,m,by rw[b],q.symm,pW,b12⟩
end Go.Proofs.YtahbiajdgealnaaGreatDoor
