/-
  What the proof of the law rests on, part 4: walks of functions, and plain laws; each says its conditions itself.
-/
import Derived.Laws.StructEq
import Derived.Test.YtahbiajdgealnaaGreatDoorZB3
set_option maxHeartbeats 1600000
set_option linter.unusedVariables false
set_option linter.unusedSimpArgs false
namespace Go.Proofs.YtahbiajdgealnaaGreatDoor
open Go.RowKit Rt
open Fx (fE eO fM bA gN gM dB dS gD jA eG jB fZ jC jf Lv sN Ln Ws Qv Wl Rp Wc Qs Wr Sb Lk Wk rC rV sR Rs Rn Rd Rk Wb Wx Wo DX Wt qY Qn FZ Bn yZ zx CP DU qo gI zy ng uy uw vL wX zw CV zQ rv aA aQ bI aM ev cB Stp dI aT flat dA Mp eU aW gU iQ bD down iO jP iP ni bK bJ cells_one iD bV tO unseen jL iB bX dJ bL bR cK cO gJ gV pV gP)
namespace Rt
def BK(t:Nat->Nat->Int)(n k:Nat):Nat->Nat->Int:=fun i=>if i<=k then(if i<n then t i else fun _=>0)else t (i-1)
def oD(t:Nat->Nat->Int)(k:Nat)(id par:Int):Nat->Nat->Int:=fun i=>if i<k then t i else if i=k then(fun j=>if j=0 then id else par)else t (i-1)
theorem tJ{w:World}{B tb tn tc:Nat}{ta:Option Addr}{t:Nat->Nat->Int}(b:aQ w tb 1 (fun _ => .slice ta tn tc) 123)(a:Fx.Own w B 128 2 (.slice ta tn tc) tn (rv .u64 (kQ t)))(j:tn<=1000):EL w tb ta tn tc t where
 tc:=b.aI
 t:=fun k h=>by
  obtain⟨g,d,e,_,_,_,c⟩:=a.form (by omega);simp only[Value.slice.injEq,true_and]at e;refine⟨g,0,e.1,fun i f => ?_⟩;have:=c (2*k+i) (by omega);rw[E_]at this;rw[E_,this];show some (Value.int .u64 (t ((2*k+i) / 2) ((2*k+i) % 2)))=some (Value.int .u64 (t k i));rw[show(2*k+i) / 2=k by omega,show(2*k+i) % 2=i by omega]
 bt:=by omega
theorem xK(t:Nat->Nat->Int)(n:Nat) : ∀ j,j<(n+1)*2->iB (rv .u64 (kQ t)) (n*2) (bI (fun j=>rv .u64 (fun _=>0) (j % 2)) (0*2) 2 (rv .u64 (fun _=>0))) j=rv .u64 (kQ (BK t n n)) j:=fun j a=>by
 unfold iB;by_cases h:j<n*2
 ·rw[d_ h];show Value.int .u64 (t (j / 2) (j % 2))=Value.int .u64 (BK t n n (j / 2) (j % 2));unfold BK; rw[d_ (by omega),d_ (by omega)]
 ·rw[b_ h];unfold bI; rw[d_ (by omega)];show Value.int .u64 0=Value.int .u64 (BK t n n (j / 2) (j % 2));unfold BK; rw[d_ (by omega),b_ (by omega)]
theorem zA{t:Nat->Nat->Int}{n k j p:Nat}(a:p=2*j)(h:j<k)(b:k<=n):rv .u64 (kQ (BK t n k)) p=aD (t j 0):=by
 subst a;show Value.int .u64 (BK t n k (2*j / 2) (2*j % 2))=_;unfold BK; rw[d_ (by omega),d_ (by omega),show 2*j / 2=j by omega,show 2*j % 2=0 by omega]
theorem TG{t:Nat->Nat->Int}{n k j i:Nat}(h:j<k)(a:k<=n)(hi:i<2):rv .u64 (kQ (BK t n k)) (2*j+i)=rv .u64 (t j) i:=by
 show Value.int .u64 (BK t n k ((2*j+i) / 2) ((2*j+i) % 2))=Value.int .u64 (t j i);unfold BK; rw[d_ (by omega),d_ (by omega),show(2*j+i) / 2=j by omega,show(2*j+i) % 2=i by omega]
theorem yA{t:Nat->Nat->Int}{n k j:Nat}(e:k=j+1)(_hk:k<=n) : ∀ p,p<(n+1)*2->bI (rv .u64 (kQ (BK t n k))) (2*k) 2 (rv .u64 (t j)) p=rv .u64 (kQ (BK t n j)) p:=fun p b=>by
 unfold bI;by_cases h:2*k<=p/\p<2*k+2
 ·rw[d_ h];show Value.int .u64 (t j (p-2*k))=Value.int .u64 (BK t n j (p / 2) (p % 2));unfold BK; rw[b_ (by omega),show p / 2-1=j by omega,show p-2*k=p % 2 by omega]
 ·rw[b_ h];show Value.int .u64 (BK t n k (p / 2) (p % 2))=Value.int .u64 (BK t n j (p / 2) (p % 2));unfold BK;by_cases a:p / 2<=j
  ·rw[d_ (by omega),d_ a]
  ·rw[b_ (by omega),b_ a]
theorem sP{t:Nat->Nat->Int}{n k:Nat}{id par:Int}(_hk:k<=n) : ∀ p,p<(n+1)*2->bI (rv .u64 (kQ (BK t n k))) (2*k) 2 (bI (bI (rv .u64 (fun _=>0)) 0 1 (fun _=>aD id)) 1 1 (fun _=>aD par)) p=rv .u64 (kQ (oD t k id par)) p:=fun p c=>by
 by_cases h:2*k<=p/\p<2*k+2
 ·rw[bI,d_ h];show _=Value.int .u64 (oD t k id par (p / 2) (p % 2));unfold oD; rw[b_ (by omega),d_ (by omega)];by_cases b:p=2*k
  ·subst b; rw[show 2*k-2*k=0 by omega,d_ (by omega)]; rfl
  ·rw[show p-2*k=1 by omega,b_ (by omega)]; rfl
 ·rw[bI,b_ h];show Value.int .u64 (BK t n k (p / 2) (p % 2))=Value.int .u64 (oD t k id par (p / 2) (p % 2));unfold BK oD;by_cases a:p / 2<k
  ·rw[d_ (by omega),d_ (by omega),d_ a]
  ·rw[b_ (by omega),b_ a,b_ (by omega)]
def C8(t:Nat->Nat->Int)(tn:Nat)(x:Int):Prop := ∀ i,i<4->0<=bC t tn (bF t tn i x)
theorem Km{t:Nat->Nat->Int}{tn K:Nat}{x:Int}(h : ∀ i,i<K->0<=bC t tn (bF t tn i x))(a:4<=K):C8 t tn x:=fun i b=>h i (by omega)
theorem D8{t:Nat->Nat->Int}{tn K:Nat}{x:Int}(h:bC t tn (bF t tn K x)<0)(a:K<4) : ¬ C8 t tn x:=fun b=>by have:=b K a; omega
open Classical in
noncomputable def jv(t:Nat->Nat->Int)(tn:Nat)(id par:Int):Int:=if id=0 then 1 else if 0<=bC t tn id then 14 else if par≠0/\bC t tn par<0 then 9 else if 32<=tn\/C8 t tn par then 6 else 0
theorem Od{t:Nat->Nat->Int}{n k j:Nat}{id:Int}(e:k=j+1)(h : ∀ i,k<=i->i<n->id<t i 0)(c:id<t j 0) : ∀ i,j<=i->i<n->id<t i 0:=fun i d b=>by
 by_cases a:i=j
 ·subst a; exact c
 ·exact h i (by omega) b
end Rt
set_option maxRecDepth 10000 in
theorem afv(B:Nat)(tb:Nat)(ta:Option Addr)(tn tc:Nat)(t:Nat->Nat->Int)(id par:Int)(D:Nat)(w:World)(P:aQ w tb 1 (fun _ => .slice ta tn tc) 123)(X:Fx.Own w B 128 2 (.slice ta tn tc) tn (rv .u64 (kQ t)))(hne:(Value.slice ta tn tc).ownBlock≠some tb)(hB:B<=w.heap.size)(Q:tn<=1000)(hD:bC t tn (bF t tn D par)<0)(hD2:D<=1000) :
 Calls Tryz.prog 107 #[(pt tb),aD id,aD par] w fun e w'=>e = .returned (au (jv t tn id par))/\jP (fun k=>k=tb\/(Value.slice ta tn tc).ownBlock=some k) w w'/\((jv t tn id par≠0/\aQ w' tb 1 (fun _ => .slice ta tn tc) 123/\Fx.Own w' B 128 2 (.slice ta tn tc) tn (rv .u64 (kQ t)))\/(jv t tn id par=0 /\ ∃ g cap,aQ w' tb 1 (fun _=>bO g (tn+1) cap) 123/\Fx.Own w' B 128 2 (bO g (tn+1) cap) (tn+1) (rv .u64 (kQ (oD t (down (fun i=>decide (id<t i 0)) tn) id par)))/\(Value.slice (some ⟨g,0,none⟩) (tn+1) cap).ownBlock≠some tb)):=by
 have lp:tb<w.heap.size:=P.lt;refine Kent Tryz.func107 89 ?_;refine ay<|av (au 0)<|aC<|Ws<|ay<|av (aD id) ?_;by_cases q:id=0
 ·refine Lv aG (dX q)<|aC<|aO<|ay<|av (au 1)<|aC<|Wr<|sR<|aJ (au 1) ?_;have c:jv t tn id par=1:=by unfold jv; rw[d_ q]
  exact⟨oV c.symm,(uw (fun k=>k=tb\/(Value.slice ta tn tc).ownBlock=some k) w),.inl ⟨by rw[c]; decide,P,X⟩⟩
 refine Lv aF (fF q)<|aC<|aK<|Wk<|sN<|Ws<|ay<|av (pt tb)<|av (aD id) ?_;by_cases p:(decide (0<=bC t tn id))=true
 ·refine dL (Oc tb ta tn tc t id _ (tJ P X Q)) aG (by rw[p]) ?_;intro w1 hb1;have s1:=Sb hb1;have⟨m1,m2⟩:=fq hb1 P X;have b1:=(uw (fun k=>k=tb\/(Value.slice ta tn tc).ownBlock=some k) w).then s1 (.inr (uw (fun k=>k=tb\/(Value.slice ta tn tc).ownBlock=some k) w).size);refine aC<|aO<|ay<|av (au 14)<|aC<|Wr<|sR<|aJ (au 14) ?_;have c:jv t tn id par=14:=by unfold jv; rw[b_ q,d_ (h_ p)]
  exact⟨oV c.symm,b1,.inl ⟨by rw[c]; decide,m1,m2⟩⟩
 rw[S_]at p;refine dL (Oc tb ta tn tc t id _ (tJ P X Q)) aF (by rw[p]) ?_;intro w2 hb2;have s2:=Sb hb2;have⟨E,L⟩:=fq hb2 P X;have F:=(uw (fun k=>k=tb\/(Value.slice ta tn tc).ownBlock=some k) w).then s2 (.inr (uw (fun k=>k=tb\/(Value.slice ta tn tc).ownBlock=some k) w).size);refine aC<|aK<|Wk<|sN<|Ws<|ay<|av (aD par) ?_;by_cases G:par=0
 ·refine Lv aF (jM G)<|av aF<|dD<|dD<|dD<|dD<|av aF<|aC<|aK<|Wk<|sN<|Ws<|ay<|av (pt tb)<|av (pt tb)<|av (pt tb)<|Lv (.slice ta (tn) (tc)) (aN E.aI 0)<|av (au tn) ?_;by_cases T:32<=(tn:Int)
  ·refine Lv aG (kJ T)<|av aG<|dD<|dD<|dD<|dD<|dD<|av aG<|aC<|aO<|ay<|av (au 6)<|aC<|Wr<|sR<|aJ (au 6) ?_;have c:jv t tn id par=6:=(by unfold jv; rw[b_ q,b_ (j_ p),b_ (fun h=>h.1 G),d_ (.inl (by omega))]);exact⟨oV c.symm,F,.inl ⟨by rw[c]; decide,E,L⟩⟩
  refine Lv aF (jY T)<|av aF<|av (pt tb)<|av (aD par)<|lX (IQ tb ta tn tc t par D _ (tJ E L Q) hD hD2) ?_;rintro e w3 ⟨K,vv,Y,hown,rG,W,hb3⟩;obtain⟨a1,n,rfl⟩:=hown.val;refine⟨.slice a1 K n,Y,?_⟩;clear Y hown;have s3:=Sb hb3;have⟨m5,m6⟩:=fq hb3 E L;have b3:=F.then s3 (.inr F.size);refine av (au K) ?_;by_cases U:4<=(K:Int)
  ·refine Lv aG (kJ U)<|av aG<|aC<|aO<|ay<|av (au 6)<|aC<|Wr<|sR<|aJ (au 6) ?_;have c:jv t tn id par=6:=(by unfold jv; rw[b_ q,b_ (j_ p),b_ (fun h=>h.1 G),d_ (.inr (Km rG (by omega)))]);exact⟨oV c.symm,b3,.inl ⟨by rw[c]; decide,m5,m6⟩⟩
  refine Lv aF (jY U)<|av aF<|aC<|aK<|Wk<|sN<|ay<|av (pt tb)<|av (pt tb)<|av (pt tb)<|Lv (.slice ta (tn) (tc)) (aN m5.aI 0)<|av (au tn)<|av (au tn)<|aC<|ay<|av (pt tb)<|av (pt tb)<|av (pt tb)<|av (pt tb)<|Lv (.slice ta (tn) (tc)) (aN m5.aI 0)<|av (.agg (aA 2 (rv .u64 (fun _=>0))))<|yZ (vs := [(0,.agg (aA 2 (rv .u64 (fun _=>0))))]) (s:=2) (zc:=rv .u64 (fun _=>0)) (y:=bI (fun j=>(rv .u64 (fun _=>0)) (j % 2)) (0*2) 2 (rv .u64 (fun _=>0))) (by rfl) rfl rfl Tryz.underlying121 (by kernel_rfl) (by rfl) (by rfl) (by kernel_rfl) (by rw[bD (off:=0*2) (s:=2) (y:=rv .u64 (fun _=>0)) rfl (bJ _ _) (by rfl)]; rfl) rfl fun g1 w4 lK m7 s4 z1 => ?_;have⟨m8,m9⟩:=fq s4.old m5 m6;have b4:=b3.then s4 (.inr b3.size);have uh:=jI lK b3.size;have Kl:=cu lK m5.lt;have afw:(.slice ta tn tc:Value).ownBlock≠some g1:=by rw[lK]; exact m6.jX (z_ _)
  have vS:=m7.lt;refine zx (B:=B) (s:=2) (bytes:=16) (k:=tn) (m:=1) (v := .slice ta tn tc) (by rfl) rfl rfl rfl Tryz.underlying121 (by kernel_rfl) (by kernel_rfl) rfl rfl m9 m7.aI (fun j Z=>by rcases j with _|_|j <;> first|rfl|omega) (by omega) (by omega) (by omega) (m_ hB b4.size) fun d n w5 ho1 hg1 vR hlt1 => ?_
  have m11:aQ w5 tb 1 (fun _ => .slice ta tn tc) 123:=m8.grown hg1 hne;have afx:tb≠d:=fun e=>vR.elim (fun x=>hne (by rw[x,e])) (fun x=>by have:=m8.lt; omega);have m10:Fx.Own w5 B 128 2 (bO d (tn+1) n) (tn+1) (rv .u64 (kQ (BK t tn tn))):=ho1.congr (xK t tn);have b5:jP (fun k=>k=tb\/(Value.slice ta tn tc).ownBlock=some k) w w5:=Fx.jP.grow b4 hg1 (fun k e => .inl (.inr e));have abF:(fun k=>k=tb\/(Value.slice ta tn tc).ownBlock=some k) d\/w.heap.size<=d:=vR.elim (fun e => .inl (.inr e)) (fun e => .inr (by rw[e]; exact b4.size));refine av (pt tb)<|av (pt tb)<|iM m11 0 (bO d (tn+1) n) fun w6 m12 s5 z2 => ?_;have m13:aQ w6 tb 1 (fun _=>bO d (tn+1) n) 123:=dJ m12;have m14:=m10.aaA s5 (by omega);have b6:=b5.then s5 (.inl (.inl rfl));refine aC<|Ws<|Wb<|Wo (fun f M => ∃ k:Nat,k<=tn/\(∀ i,k<=i->i<tn->id<t i 0)/\f 0=(pt tb)/\f 1=aD id/\f 2=aD par/\f 7=au (k:Int)/\aQ M tb 1 (fun _=>bO d (tn+1) n) 123/\Fx.Own M B 128 2 (bO d (tn+1) n) (tn+1) (rv .u64 (kQ (BK t tn k)))/\jP (fun k=>k=tb\/(Value.slice ta tn tc).ownBlock=some k) w M) (fun f _=>(intOf (f 7)).toNat) ⟨tn,by omega,(fun i r N=>L_ r (by omega)),(by rfl),Fx.ic,Fx.ic,Fx.ic,m13,m14,b6⟩ ?_;rintro f1 w7 ⟨k,hk,J,r,N,h3,A,R,m16,b7⟩;refine Ws<|ay<|aX A ?_;by_cases V:0<(k:Int)
  ·obtain⟨j,H⟩ : ∃ j,k=j+1:=⟨k-1,by omega⟩;refine Lv aG (mI V)<|av aG<|aX r<|av (pt tb)<|av (pt tb)<|Lv (bO d (tn+1) n) (aN R.aI 0)<|aX A<|Lv (au j) fV<|Lv (pf d (2*j)) (dh 2)<|av (pf d (2*j))<|Lv (aD (t j 0)) (aN m16.aI (2*j) (zA (by omega) (by omega) (by omega)))<|aX N ?_;by_cases u:id<(t j 0)
   ·refine Lv aG (mI u)<|av aG<|aC<|aO<|Wk<|sN<|Wb<|Ws ?_;refine Wt 14 (by kernel_rfl) (by kernel_rfl) fun qp dQ iA => ?_;have s6:Stp w7.heap.size w7 qp:=Sb dQ;have⟨m17,m18⟩:=fq dQ R m16;have b8:=b7.then s6 (.inr b7.size);refine qo (pt tb) (Rz r)<|Ez (pt tb)<|Ez (pt tb)<|qo (bO d (tn+1) n) (aN m17.aI 0)<|qo (au k) (Rz A)<|qo (pt tb) (Rz r)<|Ez (pt tb)<|Ez (pt tb)<|qo (bO d (tn+1) n) (aN m17.aI 0)<|qo (au k) (Rz A)<|qo (au j) fV<|qo (pf d (2*j)) (dh 2)<|qo (.agg (aA 2 (rv .u64 (t j)))) (fI m18.aI (2*j) (fun i hi=>TG (by omega) (by omega) hi))<|qo (pf d (2*k)) (dh 2)<|Fx.St.nil ?_;refine zS m18 (2*k) fun w8 m19 s7 z3 => ?_;have m20:=m17.bZ s7 (by omega);have b9:=b8.then s7 abF;have m21:Fx.Own w8 B 128 2 (bO d (tn+1) n) (tn+1) (rv .u64 (kQ (BK t tn j))):=m19.congr (yA H (by omega));refine aC<|Wl<|aX A<|Lv (au j) fV<|av (au j)<|Ln<|bR<|gV ⟨j,by omega,(Od H J u),r,(N.trans Fx.ic),(h3.trans Fx.ic),Fx.ic,m20,m21,b9⟩ ?_;show(intOf (au j)).toNat<_;simp only[A,intOf]; omega
   refine Lv aF (mJ u)<|av aF<|aC<|aK<|Wx<|cK<|gJ<|cO<|sN<|ay<|aX r<|av (pt tb)<|av (pt tb)<|Lv (bO d (tn+1) n) (aN R.aI 0)<|aX A<|aX N<|aX h3<|av (.agg (aA 2 (bI (bI (rv .u64 (fun _=>0)) 0 1 (fun _=>aD id)) 1 1 (fun _=>aD par))))<|Lv (pf d (2*k)) (dh 2)<|zS m16 (2*k) (h1:=(fun j Z=>by rcases j with _|_|j <;> first|rfl|omega)) fun w9 m22 s8 z4 => ?_
   have m23:=R.bZ s8 (by omega);have b10:=b7.then s8 abF;have m24:Fx.Own w9 B 128 2 (bO d (tn+1) n) (tn+1) (rv .u64 (kQ (oD t k id par))):=m22.congr (sP (by omega));refine aC<|ay<|av (au 0)<|aC<|Wr<|aJ (au 0) ?_;have c:jv t tn id par=0:=(by unfold jv; rw[b_ q,b_ (j_ p),b_ (fun h=>h.1 G),b_ (fun h=>h.elim (fun h=>by omega) (D8 W (by omega)))]);have I:k=down (fun i=>decide (id<t i 0)) tn:=Fx.oL hk (fun i a b=>f_ (J i a b)) (.inr (fun j e=>by have x:j=_:=Nat.succ.inj (e.symm.trans H); subst x; exact g_ u));exact⟨oV c.symm,b10,.inr ⟨c,d,n,m23,by rw[<- I]; exact m24,fun e=>afx (B_ e).symm⟩⟩
  refine Lv aF (mJ V)<|av aF<|dD<|dD<|dD<|dD<|dD<|dD<|dD<|dD<|dD<|dD<|dD<|av aF<|aC<|aK<|Wx<|cK<|gJ<|cO<|sN<|ay<|aX r<|av (pt tb)<|av (pt tb)<|Lv (bO d (tn+1) n) (aN R.aI 0)<|aX A<|aX N<|aX h3<|av (.agg (aA 2 (bI (bI (rv .u64 (fun _=>0)) 0 1 (fun _=>aD id)) 1 1 (fun _=>aD par))))<|Lv (pf d (2*k)) (dh 2)<|zS m16 (2*k) (h1:=(fun j Z=>by rcases j with _|_|j <;> first|rfl|omega)) fun tT nT s9 z5 => ?_
  have mY:=R.bZ s9 (by omega);have b11:=b7.then s9 abF;have pY:Fx.Own tT B 128 2 (bO d (tn+1) n) (tn+1) (rv .u64 (kQ (oD t k id par))):=nT.congr (sP (by omega));refine aC<|ay<|av (au 0)<|aC<|Wr<|aJ (au 0) ?_;have c:jv t tn id par=0:=by unfold jv; rw[b_ q,b_ (j_ p),b_ (fun h=>h.1 G),b_ (fun h=>h.elim (fun h=>by omega) (D8 W (by omega)))]
  have I:k=down (fun i=>decide (id<t i 0)) tn:=Fx.oL hk (fun i a b=>f_ (J i a b)) (.inl (by omega));exact⟨oV c.symm,b11,.inr ⟨c,d,n,mY,by rw[<- I]; exact pY,fun e=>afx (B_ e).symm⟩⟩
 refine Lv aG (nC G)<|av aG<|av (pt tb)<|av (aD par) ?_;by_cases z:(decide (0<=bC t tn par))=true
 ·refine dL (Oc tb ta tn tc t par _ (tJ E L Q)) aG (by rw[z]) ?_;intro F3 hb4;have s10:=Sb hb4;have⟨oN,qx⟩:=fq hb4 E L;have b12:=F.then s10 (.inr F.size);refine av aF<|av aF<|aC<|aK<|Wk<|sN<|Ws<|ay<|av (pt tb)<|av (pt tb)<|av (pt tb)<|Lv (.slice ta (tn) (tc)) (aN oN.aI 0)<|av (au tn) ?_;by_cases T:32<=(tn:Int)
  ·refine Lv aG (kJ T)<|av aG<|dD<|dD<|dD<|dD<|dD<|av aG<|aC<|aO<|ay<|av (au 6)<|aC<|Wr<|sR<|aJ (au 6) ?_;have c:jv t tn id par=6:=(by unfold jv; rw[b_ q,b_ (j_ p),b_ (fun h=>by have:=h_ z; omega),d_ (.inl (by omega))]);exact⟨oV c.symm,b12,.inl ⟨by rw[c]; decide,oN,qx⟩⟩
  refine Lv aF (jY T)<|av aF<|av (pt tb)<|av (aD par)<|lX (IQ tb ta tn tc t par D _ (tJ oN qx Q) hD hD2) ?_;rintro e CW ⟨K,vv,Y,hown,rG,W,hb5⟩;obtain⟨a1,n,rfl⟩:=hown.val;refine⟨.slice a1 K n,Y,?_⟩;clear Y hown;have s11:=Sb hb5;have⟨oZ,lV⟩:=fq hb5 oN qx;have b13:=b12.then s11 (.inr b12.size);refine av (au K) ?_;by_cases U:4<=(K:Int)
  ·refine Lv aG (kJ U)<|av aG<|aC<|aO<|ay<|av (au 6)<|aC<|Wr<|sR<|aJ (au 6) ?_;have c:jv t tn id par=6:=(by unfold jv; rw[b_ q,b_ (j_ p),b_ (fun h=>by have:=h_ z; omega),d_ (.inr (Km rG (by omega)))]);exact⟨oV c.symm,b13,.inl ⟨by rw[c]; decide,oZ,lV⟩⟩
  refine Lv aF (jY U)<|av aF<|aC<|aK<|Wk<|sN<|ay<|av (pt tb)<|av (pt tb)<|av (pt tb)<|Lv (.slice ta (tn) (tc)) (aN oZ.aI 0)<|av (au tn)<|av (au tn)<|aC<|ay<|av (pt tb)<|av (pt tb)<|av (pt tb)<|av (pt tb)<|Lv (.slice ta (tn) (tc)) (aN oZ.aI 0)<|av (.agg (aA 2 (rv .u64 (fun _=>0))))<|yZ (vs := [(0,.agg (aA 2 (rv .u64 (fun _=>0))))]) (s:=2) (zc:=rv .u64 (fun _=>0)) (y:=bI (fun j=>(rv .u64 (fun _=>0)) (j % 2)) (0*2) 2 (rv .u64 (fun _=>0))) (by rfl) rfl rfl Tryz.underlying121 (by kernel_rfl) (by rfl) (by rfl) (by kernel_rfl) (by rw[bD (off:=0*2) (s:=2) (y:=rv .u64 (fun _=>0)) rfl (bJ _ _) (by rfl)]; rfl) rfl fun g3 F4 yH m32 s12 z6 => ?_;have⟨qG,oO⟩:=fq s12.old oZ lV;have b14:=b13.then s12 (.inr b13.size);have DY:=jI yH b13.size;have akp:=cu yH oZ.lt;have akq:(.slice ta tn tc:Value).ownBlock≠some g3:=by rw[yH]; exact lV.jX (z_ _)
  have LJ:=m32.lt;refine zx (B:=B) (s:=2) (bytes:=16) (k:=tn) (m:=1) (v := .slice ta tn tc) (by rfl) rfl rfl rfl Tryz.underlying121 (by kernel_rfl) (by kernel_rfl) rfl rfl oO m32.aI (fun j Z=>by rcases j with _|_|j <;> first|rfl|omega) (by omega) (by omega) (by omega) (m_ hB b14.size) fun l o LG ho2 hg2 ME hlt2 => ?_
  have qH:aQ LG tb 1 (fun _ => .slice ta tn tc) 123:=qG.grown hg2 hne;have afy:tb≠l:=fun e=>ME.elim (fun x=>hne (by rw[x,e])) (fun x=>by have:=qG.lt; omega);have qb:Fx.Own LG B 128 2 (bO l (tn+1) o) (tn+1) (rv .u64 (kQ (BK t tn tn))):=ho2.congr (xK t tn);have b15:jP (fun k=>k=tb\/(Value.slice ta tn tc).ownBlock=some k) w LG:=Fx.jP.grow b14 hg2 (fun k e => .inl (.inr e));have abG:(fun k=>k=tb\/(Value.slice ta tn tc).ownBlock=some k) l\/w.heap.size<=l:=ME.elim (fun e => .inl (.inr e)) (fun e => .inr (by rw[e]; exact b14.size));refine av (pt tb)<|av (pt tb)<|iM qH 0 (bO l (tn+1) o) fun LH sD s13 z7 => ?_;have sV:aQ LH tb 1 (fun _=>bO l (tn+1) o) 123:=dJ sD;have qc:=qb.aaA s13 (by omega);have b16:=b15.then s13 (.inl (.inl rfl));refine aC<|Ws<|Wb<|Wo (fun f M => ∃ k:Nat,k<=tn/\(∀ i,k<=i->i<tn->id<t i 0)/\f 0=(pt tb)/\f 1=aD id/\f 2=aD par/\f 7=au (k:Int)/\aQ M tb 1 (fun _=>bO l (tn+1) o) 123/\Fx.Own M B 128 2 (bO l (tn+1) o) (tn+1) (rv .u64 (kQ (BK t tn k)))/\jP (fun k=>k=tb\/(Value.slice ta tn tc).ownBlock=some k) w M) (fun f _=>(intOf (f 7)).toNat) ⟨tn,by omega,(fun i r N=>L_ r (by omega)),(by rfl),Fx.ic,Fx.ic,Fx.ic,sV,qc,b16⟩ ?_;rintro f2 w16 ⟨k,hk,J,O,h6,h7,C,S,nW,b17⟩;refine Ws<|ay<|aX C ?_;by_cases V:0<(k:Int)
  ·obtain⟨j,H⟩ : ∃ j,k=j+1:=⟨k-1,by omega⟩;refine Lv aG (mI V)<|av aG<|aX O<|av (pt tb)<|av (pt tb)<|Lv (bO l (tn+1) o) (aN S.aI 0)<|aX C<|Lv (au j) fV<|Lv (pf l (2*j)) (dh 2)<|av (pf l (2*j))<|Lv (aD (t j 0)) (aN nW.aI (2*j) (zA (by omega) (by omega) (by omega)))<|aX h6 ?_;by_cases u:id<(t j 0)
   ·refine Lv aG (mI u)<|av aG<|aC<|aO<|Wk<|sN<|Wb<|Ws ?_;refine Wt 14 (by kernel_rfl) (by kernel_rfl) fun BG fO mU => ?_;have Dw:Stp w16.heap.size w16 BG:=Sb fO;have⟨mV,nk⟩:=fq fO S nW;have b18:=b17.then Dw (.inr b17.size);refine qo (pt tb) (Rz O)<|Ez (pt tb)<|Ez (pt tb)<|qo (bO l (tn+1) o) (aN mV.aI 0)<|qo (au k) (Rz C)<|qo (pt tb) (Rz O)<|Ez (pt tb)<|Ez (pt tb)<|qo (bO l (tn+1) o) (aN mV.aI 0)<|qo (au k) (Rz C)<|qo (au j) fV<|qo (pf l (2*j)) (dh 2)<|qo (.agg (aA 2 (rv .u64 (t j)))) (fI nk.aI (2*j) (fun i hi=>TG (by omega) (by omega) hi))<|qo (pf l (2*k)) (dh 2)<|Fx.St.nil ?_;refine zS nk (2*k) fun Py tV s15 z8 => ?_;have qQ:=mV.bZ s15 (by omega);have b19:=b18.then s15 abG;have nX:Fx.Own Py B 128 2 (bO l (tn+1) o) (tn+1) (rv .u64 (kQ (BK t tn j))):=tV.congr (yA H (by omega));refine aC<|Wl<|aX C<|Lv (au j) fV<|av (au j)<|Ln<|bR<|gV ⟨j,by omega,(Od H J u),O,(h6.trans Fx.ic),(h7.trans Fx.ic),Fx.ic,qQ,nX,b19⟩ ?_;show(intOf (au j)).toNat<_;simp only[C,intOf]; omega
   refine Lv aF (mJ u)<|av aF<|aC<|aK<|Wx<|cK<|gJ<|cO<|sN<|ay<|aX O<|av (pt tb)<|av (pt tb)<|Lv (bO l (tn+1) o) (aN S.aI 0)<|aX C<|aX h6<|aX h7<|av (.agg (aA 2 (bI (bI (rv .u64 (fun _=>0)) 0 1 (fun _=>aD id)) 1 1 (fun _=>aD par))))<|Lv (pf l (2*k)) (dh 2)<|zS nW (2*k) (h1:=(fun j Z=>by rcases j with _|_|j <;> first|rfl|omega)) fun Sq sj s16 z9 => ?_
   have xq:=S.bZ s16 (by omega);have b20:=b17.then s16 abG;have sF:Fx.Own Sq B 128 2 (bO l (tn+1) o) (tn+1) (rv .u64 (kQ (oD t k id par))):=sj.congr (sP (by omega));refine aC<|ay<|av (au 0)<|aC<|Wr<|aJ (au 0) ?_;have c:jv t tn id par=0:=(by unfold jv; rw[b_ q,b_ (j_ p),b_ (fun h=>by have:=h_ z; omega),b_ (fun h=>h.elim (fun h=>by omega) (D8 W (by omega)))]);have I:k=down (fun i=>decide (id<t i 0)) tn:=Fx.oL hk (fun i a b=>f_ (J i a b)) (.inr (fun j e=>by have x:j=_:=Nat.succ.inj (e.symm.trans H); subst x; exact g_ u));exact⟨oV c.symm,b20,.inr ⟨c,l,o,xq,by rw[<- I]; exact sF,fun e=>afy (B_ e).symm⟩⟩
  refine Lv aF (mJ V)<|av aF<|dD<|dD<|dD<|dD<|dD<|dD<|dD<|dD<|dD<|dD<|dD<|av aF<|aC<|aK<|Wx<|cK<|gJ<|cO<|sN<|ay<|aX O<|av (pt tb)<|av (pt tb)<|Lv (bO l (tn+1) o) (aN S.aI 0)<|aX C<|aX h6<|aX h7<|av (.agg (aA 2 (bI (bI (rv .u64 (fun _=>0)) 0 1 (fun _=>aD id)) 1 1 (fun _=>aD par))))<|Lv (pf l (2*k)) (dh 2)<|zS nW (2*k) (h1:=(fun j Z=>by rcases j with _|_|j <;> first|rfl|omega)) fun Xc uj Jq z10 => ?_
  have uY:=S.bZ Jq (by omega);have Ml:=b17.then Jq abG;have uH:Fx.Own Xc B 128 2 (bO l (tn+1) o) (tn+1) (rv .u64 (kQ (oD t k id par))):=uj.congr (sP (by omega));refine aC<|ay<|av (au 0)<|aC<|Wr<|aJ (au 0) ?_;have c:jv t tn id par=0:=by unfold jv; rw[b_ q,b_ (j_ p),b_ (fun h=>by have:=h_ z; omega),b_ (fun h=>h.elim (fun h=>by omega) (D8 W (by omega)))]
  have I:k=down (fun i=>decide (id<t i 0)) tn:=Fx.oL hk (fun i a b=>f_ (J i a b)) (.inl (by omega));exact⟨oV c.symm,Ml,.inr ⟨c,l,o,uY,by rw[<- I]; exact uH,fun e=>afy (B_ e).symm⟩⟩
 rw[S_]at z;refine dL (Oc tb ta tn tc t par _ (tJ E L Q)) aF (by rw[z]) ?_;intro Pz hb6;have Jt:=Sb hb6;have⟨um,uI⟩:=fq hb6 E L;have J6:=F.then Jt (.inr F.size);refine av aG<|av aG<|aC<|aO<|ay<|av (au 9)<|aC<|Wr<|sR<|aJ (au 9) ?_;have c:jv t tn id par=9:=by unfold jv; rw[b_ q,b_ (j_ p),d_ ⟨G,by have:=j_ z; omega⟩]
 exact⟨oV c.symm,J6,.inl ⟨by rw[c]; decide,um,uI⟩⟩
namespace Rt
def jd(o a:Int):Int:=if 1<=o/\o<=6/\1<=a/\a<1099511627776 then 1099511627776*o+a else 0
end Rt
theorem akr(o a:Int)(w:World) :
 Calls Tryz.prog 50 #[au o,aD a] w fun e w'=>e = .returned (aD (jd o a))/\w'=w:=by
 refine Kent Tryz.func50 24 ?_;refine ay<|av (aD 0)<|aC<|Ws<|ay<|av (au o) ?_;by_cases f:o<1
 ·refine Lv aG (gW f)<|av aG<|dD<|dD<|av aG<|av aG<|dD<|dD<|av aG<|av aG<|dD<|dD<|av aG<|aC<|aO<|ay<|av (aD 0)<|aC<|Wr<|sR<|aJ (aD 0) ?_;exact⟨K_ (fun q=>Ending.returned (Value.int .u64 q)) (Eq.symm (by unfold jd; rw[b_ (by omega)])),rfl⟩
 refine Lv aF (gX f)<|av aF<|av (au o) ?_;by_cases g:6<o
 ·refine Lv aG (mI g)<|av aG<|av aG<|dD<|dD<|av aG<|av aG<|dD<|dD<|av aG<|aC<|aO<|ay<|av (aD 0)<|aC<|Wr<|sR<|aJ (aD 0) ?_;exact⟨K_ (fun q=>Ending.returned (Value.int .u64 q)) (Eq.symm (by unfold jd; rw[b_ (by omega)])),rfl⟩
 refine Lv aF (mJ g)<|av aF<|av aF<|av (aD a) ?_;by_cases c:a<1
 ·refine Lv aG (gW c)<|av aG<|av aG<|dD<|dD<|av aG<|aC<|aO<|ay<|av (aD 0)<|aC<|Wr<|sR<|aJ (aD 0) ?_;exact⟨K_ (fun q=>Ending.returned (Value.int .u64 q)) (Eq.symm (by unfold jd; rw[b_ (by omega)])),rfl⟩
 refine Lv aF (gX c)<|av aF<|av aF<|av (aD a) ?_;by_cases d:1099511627776<=a
 ·refine Lv aG (kJ d)<|av aG<|aC<|aO<|ay<|av (aD 0)<|aC<|Wr<|sR<|aJ (aD 0) ?_;exact⟨K_ (fun q=>Ending.returned (Value.int .u64 q)) (Eq.symm (by unfold jd; rw[b_ (by omega)])),rfl⟩
 refine Lv aF (jY d)<|av aF<|aC<|aK<|Wk<|sN<|ay<|av (au o)<|Lv (aD o) (dB rfl rfl (by kernel_rfl) Tryz.underlying28 (jL (by omega) rfl))<|Lv (aD (1099511627776*o)) (Fx.JG (b:=40) rfl rfl rfl (by decide) (jL (by omega) (by omega)))<|av (aD a)<|Lv (aD (1099511627776*o+a)) fC<|av (aD (1099511627776*o+a))<|aC<|Wr<|aJ (aD (1099511627776*o+a)) ?_;exact⟨K_ (fun q=>Ending.returned (Value.int .u64 q)) (Eq.symm (by unfold jd; rw[d_ (by omega)])),rfl⟩
theorem ZI(a:Option Addr)(n cap:Nat)(w:World) :
 Calls Tryz.prog 10 #[.slice a (n) (cap)] w fun e w'=>e = .returned (.bool (decide ((n:Int)<=60)))/\w'=w:=by
 refine Kent Tryz.func10 6 ?_;refine ay<|av aF<|aC<|ay<|av (.slice a (n) (cap))<|av (au n) ?_;by_cases b:(n:Int)<=60
 ·refine Lv aG (nA b)<|av aG<|aC<|Wr<|aJ aG ?_;exact⟨gZ (Eq.symm (f_ b)),rfl⟩
 refine Lv aF (nU b)<|av aF<|aC<|Wr<|aJ aF ?_;exact⟨gZ (Eq.symm (g_ b)),rfl⟩
section
theorem app0{s:Nat}{x y:Nat->Value}(j:Nat):iB x (0*s) y j=y j:=by unfold iB; rw[Nat.zero_mul,b_ (u_ _)]; rfl
theorem uP(id par:Int)(R:Nat->Int)(j:Nat):(lW id par R j).oneCell'=true:=by unfold lW; split <;> (try split) <;> rfl
theorem MF(id par:Int)(R:Nat->Int){q p:Nat}(h:q=p+2):lW id par R q=au (R p):=by subst h; unfold lW; rw[b_ (by omega),b_ (by omega),Nat.add_sub_cancel]
theorem tK(x:Nat->Int)(j:Nat):(jc x j).oneCell'=true:=by unfold jc; split <;> (try split) <;> rfl
theorem Xt(m:lu)(j:Nat):(Js m j).oneCell'=true:=uP _ _ _ _
theorem Xu(m:lu)(j:Nat):(IK m j).oneCell'=true:=tK _ _
theorem Oe(m:Dz)(j:Nat):(nL m j).oneCell'=true:=by unfold nL; repeat (first|rfl|split)
def sJ(m:lu)(i:Nat):Value := .slice (m.ra i) (m.rn i) (m.rc i)
def vY(w:World)(B k:Nat)(m:lu):Prop :=
 (∀ i,i<k->Fx.Own w B 28 1 (sJ m i) (m.rn i) (rv .u64 (m.rq i))) /\ ∀ i j,i<k->j<k->i≠j -> ∀ g,(sJ m i).ownBlock=some g->(sJ m j).ownBlock≠some g
section
variable {w w':World} {B k:Nat} {m:lu}
theorem vY.up(h:vY w B k m)(a:Below w.heap.size w w'):vY w' B k m:=⟨fun i b=>(h.1 i b).up a,h.2⟩
instance:Rt.Tr w w' (vY w B k m) (vY w' B k m):=⟨fun b h=>h.up b⟩
theorem vY.kH{a:List TypeId}(h:vY w B k m)(c:iD a w w')(d:a.contains 28=false):vY w' B k m:=⟨fun i b=>(h.1 i b).kH c d,h.2⟩
instance {a:List TypeId}:Rt.Tc a w w' (vY w B k m) (vY w' B k m) (!(a.contains 28)):=⟨fun b h e=>h.kH b (by simpa using e)⟩
theorem vY.zero(w:World)(B:Nat)(m:lu):vY w B 0 m:=⟨fun _ h=>L_ h (u_ _),fun _ _ h=>L_ h (u_ _)⟩
theorem vY.fresh(h:vY w B k m){v:Value}(c:v = .slice none 0 0\/v.ownBlock=(Value.slice none 0 0).ownBlock\/v.ownBlock=some w.heap.size) : ∀ i,i<k -> ∀ g,(sJ m i).ownBlock=some g->v.ownBlock≠some g:=fun i b g a e=>by
 have d:=((h.1 i b).ge a).2
 rcases c with rfl|e2|e2
 ·cases e
 ·rw[e]at e2; cases e2
 ·rw[e]at e2; have:=B_ e2; omega
theorem vY.snoc{a:lu}(h:vY w B k m)(c : ∀ i,i<k->sJ a i=sJ m i/\a.rn i=m.rn i/\a.rq i=m.rq i)(s:Fx.Own w B 28 1 (sJ a k) (a.rn k) (rv .u64 (a.rq k)))(l : ∀ i,i<k -> ∀ g,(sJ m i).ownBlock=some g->(sJ a k).ownBlock≠some g):vY w B (k+1) a:=by
 refine⟨fun i t => ?_,fun i j t u n g b => ?_⟩
 ·by_cases e:i=k
  ·subst e; exact s
  obtain⟨p,q,r⟩:=c i (by omega);rw[p,q,r]; exact h.1 i (by omega)
 by_cases o:i=k
 ·subst o;by_cases d:j=i
  ·exact L_ d.symm n
  intro f;rw[(c j (by omega)).1]at f;exact l j (by omega) g f b
 rw[(c i (by omega)).1]at b;by_cases d:j=k
 ·subst d; exact l i (by omega) g b
 rw[(c j (by omega)).1]; exact h.2 i j (by omega) (by omega) n g b
end
structure vw(w:World)(B p:Nat)(m:lu):Prop where
 c:aQ w p 27 (mE m) 71
 n:Fx.Own w B 61 56 (.slice m.s.na m.s.nn m.s.nc) m.s.nn (Js m)
 g:Fx.Own w B 66 5 (.slice m.s.ga m.s.gn m.s.gc) m.s.gn (IK m)
 tc:aQ w m.tb 1 (fun _ => .slice m.ta m.tn m.tc) 123
 t:Fx.Own w B 128 2 (.slice m.ta m.tn m.tc) m.tn (PX m.t)
 r:vY w B 6 m
 pB:B<=p
 tB:B<=m.tb
 bn:m.s.nn<=1000
 bg:m.s.gn<=1000000
 bt:m.tn<=1000
 br : ∀ i,i<6->m.rn i<=1000000
section
variable {w w':World} {B p:Nat} {m:lu}
theorem vw.ldg(h:vw w B p m):CZ w p m where
 c:=h.c.aI
 an:=h.n.arr
 ag:=h.g.arr
 tc:=h.tc.aI
 at2:=h.t.arr
 ar:=fun i a=>(h.r.1 i a).arr
 bn:=by have:=h.bn; omega
 bg:=h.bg
 bt:=by have:=h.bt; omega
 br:=h.br
theorem vw.up(h:vw w B p m)(a:Below w.heap.size w w'):vw w' B p m := { h with c:=h.c.bZ (Sb a) (t_ h.c.lt),n:=h.n.up a,g:=h.g.up a,tc:=h.tc.bZ (Sb a) (t_ h.tc.lt),t:=h.t.up a,r:=h.r.up a }
instance:Rt.Tr w w' (vw w B p m) (vw w' B p m):=⟨fun b h=>h.up b⟩
def Kn:List Nat := [71,61,66,123,128,28]
theorem vw.kH{e:List TypeId}(h:vw w B p m)(b:iD e w w')(i:(Kn.all fun T => !e.contains T)=true):vw w' B p m:=by
 have a : ∀ d∈Kn,e.contains d=false:=fun d f=>by
  have:=List.all_eq_true.1 i d f
  simpa using this
 exact { h with
  c:=h.c.kH b (a _ (by decide)),n:=h.n.kH b (a _ (by decide)),g:=h.g.kH b (a _ (by decide)),tc:=h.tc.kH b (a _ (by decide)),t:=h.t.kH b (a _ (by decide)),r:=h.r.kH b (a _ (by decide)) }
instance {a:List TypeId}:Rt.Tc a w w' (vw w B p m) (vw w' B p m) (Kn.all fun T => !a.contains T):=⟨fun b h e=>h.kH b (by simpa using e)⟩
theorem vw.mono{b:Nat}(h:vw w B p m)(a:b<=B):vw w b p m := { h with n:=h.n.mono a,g:=h.g.mono a,t:=h.t.mono a,r:=⟨fun i c=>(h.r.1 i c).mono a,h.r.2⟩,pB:=m_ a h.pB,tB:=m_ a h.tB }
end
def Ko(m:lu)(na:Option Addr)(nc:Nat)(ga:Option Addr)(gc tb:Nat)(ta:Option Addr)(tc:Nat)(ra:Nat->Option Addr)(rc:Nat->Nat)(k:Nat):lu :=
 { m with s := { m.s with na:=na,nc:=nc,ga:=ga,gc:=gc },tb:=tb,ta:=ta,tc:=tc,ra:=fun i=>if i<k then ra i else none,rn:=fun i=>if i<k then m.rn i else 0,rc:=fun i=>if i<k then rc i else 0 }
def aH{a:Type}(f:Nat->a)(k:Nat)(v:a):Nat->a:=fun i=>if i=k then v else f i
section
variable {m:lu} {na:Option Addr} {nc:Nat} {ga:Option Addr} {gc tb:Nat} {ta:Option Addr} {tc:Nat} {ra:Nat->Option Addr} {rc:Nat->Nat} {k:Nat}
theorem Xv{q:Nat}(h:q=k+21):mE (Ko m na nc ga gc tb ta tc ra rc k) q = .slice none 0 0:=by
 subst h;rw[vX (p:=k) _ rfl];show Value.slice (if k<k then ra k else none) (if k<k then m.rn k else 0) (if k<k then rc k else 0)=_;rw[b_ (Nat.lt_irrefl _),b_ (Nat.lt_irrefl _),b_ (Nat.lt_irrefl _)]
theorem yL{i:Nat}(h:i<k):sJ (Ko m na nc ga gc tb ta tc ra rc k) i = .slice (ra i) (m.rn i) (rc i):=by
 show Value.slice (if i<k then ra i else none) (if i<k then m.rn i else 0) (if i<k then rc i else 0)=_;rw[d_ h,d_ h,d_ h]
theorem TH{a:Option Addr}{c q:Nat}(f:q=k+21):dA (mE (Ko m na nc ga gc tb ta tc ra rc k)) q (.slice a (m.rn k) c)=mE (Ko m na nc ga gc tb ta tc (aH ra k a) (aH rc k c) (k+1)):=by
 subst f
 funext p
 unfold dA;by_cases e:p=k+21
 ·subst e; rw[d_ rfl];rw[vX (p:=k) _ rfl];show _=Value.slice (if k<k+1 then aH ra k a k else none) (if k<k+1 then m.rn k else 0) (if k<k+1 then aH rc k c k else 0);simp[aH]
 rw[b_ e];unfold mE;by_cases h:p<20
 ·rw[d_ h,d_ h]; rfl
 rw[b_ h,b_ h];by_cases b:p=20
 ·rw[d_ b,d_ b]; rfl
 rw[b_ b,b_ b];show Value.slice (if p-21<k then ra (p-21)else none) (if p-21<k then m.rn (p-21)else 0) (if p-21<k then rc (p-21)else 0)=Value.slice (if p-21<k+1 then aH ra k a (p-21)else none) (if p-21<k+1 then m.rn (p-21)else 0) (if p-21<k+1 then aH rc k c (p-21)else 0);by_cases d:p-21<k
 ·simp[aH,d,show p-21<k+1 by omega,show ¬ p-21=k by omega]
 simp[d,show ¬ p-21<k+1 by omega]
theorem Xw{w:World}{B:Nat}{a:Option Addr}{c:Nat}(h:vY w B k (Ko m na nc ga gc tb ta tc ra rc k))(e:Fx.Own w B 28 1 (.slice a (m.rn k) c) (m.rn k) (rv .u64 (m.rq k)))
 (f : ∀ i,i<k -> ∀ g,(sJ (Ko m na nc ga gc tb ta tc ra rc k) i).ownBlock=some g->(Value.slice a (m.rn k) c).ownBlock≠some g):vY w B (k+1) (Ko m na nc ga gc tb ta tc (aH ra k a) (aH rc k c) (k+1)):=by
 have b:sJ (Ko m na nc ga gc tb ta tc (aH ra k a) (aH rc k c) (k+1)) k = .slice a (m.rn k) c:=by
  rw[yL (by omega)]; unfold aH; rw[d_ rfl,d_ rfl]
 refine h.snoc (fun i d=>⟨?_,?_,rfl⟩) ?_ ?_
 ·rw[yL (by omega),yL d]; unfold aH; rw[b_ (by omega),b_ (by omega)]
 ·show(if i<k+1 then m.rn i else 0)=(if i<k then m.rn i else 0);rw[d_ (by omega),d_ d]
 ·rw[b];show Fx.Own w B 28 1 _ (if k<k+1 then m.rn k else 0) _;rw[d_ (by omega)]; exact e
 rw[b]; exact f
end
def atM(m:lu)(na:Option Addr)(nc:Nat)(ga:Option Addr)(gc tb:Nat)(ta:Option Addr)(tc:Nat)(ra:Nat->Option Addr)(rc:Nat->Nat):lu :=
 { m with s := { m.s with na:=na,nc:=nc,ga:=ga,gc:=gc },tb:=tb,ta:=ta,tc:=tc,ra:=ra,rc:=rc }
section
variable {m:lu} {na:Option Addr} {nc:Nat} {ga:Option Addr} {gc tb:Nat} {ta:Option Addr} {tc:Nat} {ra:Nat->Option Addr} {rc:Nat->Nat}
theorem afz : ∀ j,j<27->mE (Ko m na nc ga gc tb ta tc ra rc 6) j=mE (atM m na nc ga gc tb ta tc ra rc) j:=fun j b=>by
 unfold mE;by_cases h:j<20
 ·rw[d_ h,d_ h]; rfl
 ·rw[b_ h,b_ h];by_cases a:j=20
  ·rw[d_ a,d_ a]; rfl
  ·rw[b_ a,b_ a];show Value.slice (if j-21<6 then ra (j-21)else none) (if j-21<6 then m.rn (j-21)else 0) (if j-21<6 then rc (j-21)else 0)=Value.slice (ra (j-21)) (m.rn (j-21)) (rc (j-21));rw[d_ (by omega),d_ (by omega),d_ (by omega)]
theorem Xx{w:World}{B:Nat}(h:vY w B 6 (Ko m na nc ga gc tb ta tc ra rc 6)):vY w B 6 (atM m na nc ga gc tb ta tc ra rc):=by
 refine⟨fun i a => ?_,fun i j a b d g c => ?_⟩
 ·have:=h.1 i a;rw[yL a]at this;have e:(Ko m na nc ga gc tb ta tc ra rc 6).rn i=m.rn i:=by show(if i<6 then m.rn i else 0)=_; rw[d_ a]
  rw[e]at this;exact this
 have:=h.2 i j a b d g;rw[yL a,yL b]at this;exact this c
end
end
set_option maxRecDepth 20000 in
set_option maxHeartbeats 1000000 in
theorem abH(m:lu)(p:Nat)(w:World)(h:CZ w p m)(bn1:m.s.nn<=1000)(bt1:m.tn<=1000) :
 Calls Tryz.prog 53 #[(pt p)] w fun e w' => ∃ p' m',e = .returned (pt p')/\m'.core=m.core/\vw w' w.heap.size p' m'/\Below w.heap.size w w':=by
 have N:=h.c;have lp:p<w.heap.size:=N.lt (by omega);have bn:=h.bn;have bg:=h.bg;have bt:=h.bt;have han:=h.an;have hag:=h.ag;have hat:=h.at2;have htc:=h.tc;have QV:m.tb<w.heap.size:=htc.lt (by omega);refine Kent Tryz.func53 79 ?_;refine ay<|av (.pointer none)<|aC<|ay<|av (pt p)<|av (pt p)<|av (pt p)<|Lv (.agg (aA 20 (nL m.s))) (fI N 0 (fun j hj=>(show mE _ (0+j)=nL _ j by rw[E_]; exact lN _ hj rfl)))<|av (.agg (aA 1 (fun _ => .slice none 0 0)))<|qP fun b w1 lK m1 s1 z1 => ?_;have⟨m2,m3,b1⟩:=jZ s1.old N htc (Below.refl w.heap.size w);have uh:=gY lK;have nE:p≠b:=by rw[lK]; exact t_ (N.lt (by omega))
 have ZJ:m.tb≠b:=by rw[lK]; exact t_ (htc.lt (by omega))
 have vS:=m1.lt;refine av (.agg (aA 27 (bI (bI (fun o=>if o<12 then .bool false else if o<18 then aD 0 else if o<20 then .slice none 0 0 else if o<21 then .pointer none else .slice none 0 0) 0 20 (nL m.s)) 20 1 (fun _=>(pt b)))))<|DU (m:=27) (y:=bI (bI (fun o=>if o<12 then .bool false else if o<18 then aD 0 else if o<20 then .slice none 0 0 else if o<21 then .pointer none else .slice none 0 0) 0 20 (nL m.s)) 20 1 (fun _=>(pt b))) (by rfl) rfl rfl (bJ _ _) rfl fun a w2 V m4 s2 z2 => ?_;have⟨m5,m6,m7,b2⟩:=nV s2.old m2 m3 m1 b1;have su:=jI V b1.size;have ZK:p≠a:=by rw[V]; exact t_ (m2.lt (by omega))
 have afA:m.tb≠a:=by rw[V]; exact t_ (m3.lt (by omega))
 have TI:=cu V m1.lt;have AL:=m4.lt;refine av (pt a)<|aC<|ay<|av (pt a)<|Fx.L.NJ (s:=56) (by rfl) rfl Tryz.underlying50 (by kernel_rfl) rfl fun g3 w3 yH hO1 s3 => ?_;have P:Fx.Own w3 w.heap.size 61 56 (bO g3 0 0) 0 (Js m):=hO1 _ _ (by rw[yH]; exact b2.size);have⟨m9,m10,m11,m12,S⟩:=vM s3.old m5 m6 m7 m4 b2;refine av (pt p)<|av (pt p)<|av (pt p)<|av (pf p 18)<|Lv (.slice m.s.na (m.s.nn) (m.s.nc)) (aN m9 18)<|Fx.L.Im (B:=w.heap.size) (s:=56) (bytes:=448) (k:=0) (m:=m.s.nn) (v:=bO g3 0 0) (x:=Js m) (by rfl) rfl rfl rfl Tryz.underlying50 (by kernel_rfl) (by kernel_rfl) rfl rfl P (han.up S rfl) (fun j _=>Xt m j) (by omega) (by omega) S.size fun vv1 w4 ho1 X vR => ?_;rw[E_]at ho1;obtain⟨C,E,rfl⟩:=ho1.val;have gK:=zy X P;have m14:=m9.grown X (P.not (by omega));have m15:=m10.grown X (P.not (by omega));have⟨m16,m17⟩:=Bu gK m11 m12;have m13:Fx.Own w4 w.heap.size 61 56 (.slice C (m.s.nn) (E)) m.s.nn (Js m):=(ho1.congr (fun j _=>app0 j));have b4:Below w.heap.size w w4:=zw S X S.size (fun q l=>(P.ge l).1);refine av (pt a)<|av (pt a)<|av (pf a 18)<|iM m17 18 (.slice C (m.s.nn) (E)) fun w5 m18 s4 z3 => ?_;have m19:=m14.bZ s4 (by omega);have m20:=m15.bZ s4 (by omega);have kg:=gI s4 m17.ty;have⟨m21,m22⟩:=Bu kg m16 m13;have b5:=s4.below b4 b4.size (by omega);refine aC<|ay<|av (pt a)<|Fx.L.NJ (s:=5) (by rfl) rfl Tryz.underlying51 (by kernel_rfl) rfl fun g4 w6 Mh hO2 s5 => ?_;have O:Fx.Own w6 w.heap.size 66 5 (bO g4 0 0) 0 (IK m):=hO2 _ _ (by rw[Mh]; exact b5.size);have⟨m24,nT,mY,pY,oN,T⟩:=ru s5.old m19 m20 m21 m22 m18 b5;refine av (pt p)<|av (pt p)<|av (pt p)<|av (pf p 19)<|Lv (.slice m.s.ga (m.s.gn) (m.s.gc)) (aN m24 19)<|Fx.L.Im (B:=w.heap.size) (s:=5) (bytes:=40) (k:=0) (m:=m.s.gn) (v:=bO g4 0 0) (x:=IK m) (by rfl) rfl rfl rfl Tryz.underlying51 (by kernel_rfl) (by kernel_rfl) rfl rfl O (hag.up T rfl) (fun j _=>Xu m j) (by omega) (by omega) T.size fun vv2 w7 ho2 Y ME => ?_;rw[E_]at ho2;obtain⟨D,F,rfl⟩:=ho2.val;have rE:=zy Y O;have oZ:=m24.grown Y (O.not (by omega));have lV:=nT.grown Y (O.not (by omega));have⟨m32,qG,oO⟩:=F7 rE mY pY oN;have qx:Fx.Own w7 w.heap.size 66 5 (.slice D (m.s.gn) (F)) m.s.gn (IK m):=(ho2.congr (fun j _=>app0 j));have b7:Below w.heap.size w w7:=zw T Y T.size (fun q l=>(O.ge l).1);refine av (pt a)<|av (pt a)<|av (pf a 19)<|iM oO 19 (.slice D (m.s.gn) (F)) fun w8 qb s6 z4 => ?_;have qH:=oZ.bZ s6 (by omega);have sD:=lV.bZ s6 (by omega);have xQ:=gI s6 oO.ty;have⟨sV,qc,sZ⟩:=F7 xQ m32 qG qx;have b8:=s6.below b7 b7.size (by omega);refine aC<|Ws ?_;refine zQ [0,1,2,4,5,6,11,12,13,3,7,8,9,10,14,15,16,17,18,19,20,21] [0,0,0,1,0,0,0,4,0,0,4,0,0,0,4,0,0,4,2,0,0,3] (iD [128]) vL Fx.iD.trans (eZ := [(21,3,[3]),(18,7,[10,9,8,7]),(21,7,[7]),(18,10,[10]),(21,10,[10]),(18,14,[17,16,15,14]),(21,14,[14]),(18,17,[17]),(21,17,[17]),(19,18,[18]),(20,18,[18]),(21,18,[18])]) (by kernel_rfl) (by kernel_rfl) (by kernel_rfl) (by kernel_rfl) (by kernel_rfl) fun I dQ iA => ?_;have⟨nW,mV,nk,tV,qQ,nX,U⟩:=jm dQ qH sD sV qc sZ qb b8;refine aY (pt a)<|aY (pt a)<|aY (pf a 20)<|aY (pt a)<|aY (pt a)<|aY (pf a 20)<|aY (pt p)<|aY (pt p)<|aY (pf p 20)<|Rd (v:=(pt b)) (by rfl) (by rfl) (vL _) (fun v1 hv1=>bA (x:=dA (dA (bI (bI (fun o=>if o<12 then .bool false else if o<18 then aD 0 else if o<20 then .slice none 0 0 else if o<21 then .pointer none else .slice none 0 0) 0 20 (nL m.s)) 20 1 (fun _=>(pt b))) 18 (.slice C (m.s.nn) (E))) 19 (.slice D (m.s.gn) (F))) rfl rfl (by kernel_rfl) (nX.kH hv1 (by decide)).aI (i:=20) (by omega) (by omega) (Fx.Au (by omega) (Fx.Au (by omega) (Fx.pW (j:=0) (by omega) (by omega) rfl)))) ?_;refine Rs (pt b) (aN nX.aI 20 (Fx.Au (by omega) (Fx.Au (by omega) (Fx.pW (j:=0) (by omega) (by omega) rfl)))) ?_;refine aY (pt b)<|aY (pt b)<|Rs (.slice none 0 0) (aN nk.aI 0) ?_;refine Rs (pt m.tb) (aN nW 20) ?_;refine aY (pt m.tb)<|aY (pt m.tb)<|Rs (.slice m.ta (m.tn) (m.tc)) (aN mV 0) ?_;refine yD<|Fx.L.Im (B:=w.heap.size) (s:=2) (bytes:=16) (k:=0) (m:=m.tn) (v := .slice none 0 0) (x:=PX m.t) (by rfl) rfl rfl rfl Tryz.underlying121 (by kernel_rfl) (by kernel_rfl) rfl rfl (wX I w.heap.size 128 2 (PX m.t)) (hat.up U rfl) (fun _ _=>rfl) (by omega) (by omega) U.size fun vv3 w9 ho3 A auk => ?_;rw[E_]at ho3
 obtain⟨u,z,rfl⟩:=ho3.val;have xg:=zy A (wX I w.heap.size 128 2 (PX m.t));have hq1:Below I.heap.size I w9:=⟨A.os,A.tape,A.output,A.size,fun q l=>A.block q l (fun e=>by cases e)⟩
 have xq:=nW.bZ (Sb hq1) (t_ (nW.lt (by omega)));have hq2:Below I.heap.size I w9:=⟨A.os,A.tape,A.output,A.size,fun q l=>A.block q l (fun e=>by cases e)⟩
 have sF:=mV.bZ (Sb hq2) (t_ (mV.lt (by omega)));have⟨uj,uY,uH,um⟩:=JK xg nk tV qQ nX;have sj:Fx.Own w9 w.heap.size 128 2 (.slice u (m.tn) (z)) m.tn (PX m.t):=(ho3.congr (fun j _=>app0 j));have b10:Below w.heap.size w w9:=zw U A U.size (fun q l=>((wX I w.heap.size 128 2 (PX m.t)).ge l).1);refine Ln ⟨xg,?_⟩;refine aY (pt b)<|aY (pt b)<|gF<|iM uj 0 (.slice u (m.tn) (z)) fun tT uI s8 z5 => ?_;have xu:aQ tT b 1 (fun _ => .slice u (m.tn) (z)) 123:=dJ uI;have uZ:=xq.bZ s8 (by omega);have tu:=sF.bZ s8 (by omega);have xk:=gI s8 uj.ty;have⟨tC,xw,qg,vg⟩:=JK xk uY uH um sj;have b11:=s8.below b10 b10.size (by omega);refine Ln<|bS<|Ws<|ay<|av (au 0)<|aC<|Wb ?_;have om:aQ tT a 27 (mE (Ko m C E D F b u z (fun _=>none) (fun _=>0) 0)) 71:=qg.congr (fun j hj=>by rcases j with _|_|_|_|_|_|_|_|_|_|_|_|_|_|_|_|_|_|_|_|_|_|_|_|_|_|_|j <;> first|rfl|omega)
 have sG:=vY.zero tT w.heap.size (Ko m C E D F b u z (fun _=>none) (fun _=>0) 0);refine Wo (fun f H => ∃ k:Nat,∃ ra:Nat->Option Addr,∃ rc:Nat->Nat,k<=6/\f 0=(pt p)/\f 3=(pt a)/\f 4=au (k:Int)/\iQ H p 0 27 (mE m)/\Fx.Own H w.heap.size 61 56 (.slice C (m.s.nn) (E)) m.s.nn (Js m)/\Fx.Own H w.heap.size 66 5 (.slice D (m.s.gn) (F)) m.s.gn (IK m)/\Fx.Own H w.heap.size 128 2 (.slice u (m.tn) (z)) m.tn (PX m.t)/\aQ H b 1 (fun _ => .slice u (m.tn) (z)) 123/\aQ H a 27 (mE (Ko m C E D F b u z ra rc k)) 71/\vY H w.heap.size k (Ko m C E D F b u z ra rc k)/\Below w.heap.size w H) (fun f _=>(6-(intOf (f 4)).toNat)) ⟨0,(fun _=>none),(fun _=>0),by omega,(by rfl),(by rfl),Fx.ic,uZ,tC,xw,vg,xu,om,sG,b11⟩ ?_;rintro f1 F3 ⟨k,ra,rc,hk,h1,W,J,m64,xA,wP,xB,xC,rF,sH,b12⟩;refine Ws<|ay<|aX J ?_;by_cases c57:(k:Int)<6
 ·refine Lv aG (gW c57)<|aC<|aO<|Wk<|sN<|Ws<|Wb ?_;have brk:=h.br k (by omega);have uJ:=N.below b12 lp;refine zQ [0,1,2,3,4,5,6,8,9,10,11,12,15,16,7,13,14,17,18] [0,0,0,0,0,0,0,4,0,0,0,0,0,4,2,0,0,0,3] (iD [28]) vL Fx.iD.trans (eZ := [(14,7,[7]),(18,7,[7]),(14,13,[13]),(18,13,[13]),(17,14,[14]),(18,14,[14])]) (by kernel_rfl) (by kernel_rfl) (by kernel_rfl) (by kernel_rfl) (by kernel_rfl) fun G fO mU => ?_;have⟨wQ,uo,yG,vk,xR,ze,xS,wR,R⟩:=Bt fO m64 xA wP xB xC rF sH uJ b12;refine bU W<|bU J<|bU W<|bU J<|aY (pt a)<|aY (pf a 21)<|Rp (pf a (k+21)) (fun _=>ji 6 1)<|bU h1<|bU J<|aY (pt p)<|aY (pf p 21)<|Rp (pf p (k+21)) (fun _=>ji 6 1)<|aY (pt a)<|aY (pf a 21)<|Rs (.slice none 0 0) (aN ze.aI (k+21) (Xv (by omega))) ?_;refine Rs (.slice (m.ra k) (m.rn k) (m.rc k)) (aN wQ (k+21) (vX _ (by omega))) ?_;refine yD<|Fx.L.Im (B:=w.heap.size) (s:=1) (bytes:=8) (k:=0) (m:=(m.rn k)) (v := .slice none 0 0) (x:=rv .u64 (m.rq k)) (by rfl) rfl rfl rfl Tryz.underlying63 (by kernel_rfl) (by kernel_rfl) rfl rfl (wX G w.heap.size 28 1 (rv .u64 (m.rq k))) ((h.ar k (by omega)).up R rfl) (fun _ _=>rfl) (by omega) (by omega) R.size fun vv4 Q ho4 d aku => ?_;rw[E_]at ho4;obtain⟨K,M,rfl⟩:=ho4.val;have zl:=zy d (wX G w.heap.size 28 1 (rv .u64 (m.rq k)));have hq3:Below G.heap.size G Q:=⟨d.os,d.tape,d.output,d.size,fun q l=>d.block q l (fun e=>by cases e)⟩
  have uK:=wQ.bZ (Sb hq3) (t_ (wQ.lt (by omega)));have⟨xD,zf,wS,zG,zh⟩:=rz zl uo yG vk xR ze;have hq4:Below G.heap.size G Q:=⟨d.os,d.tape,d.output,d.size,fun q l=>d.block q l (fun e=>by cases e)⟩
  have zH:=xS.up hq4;have hq5:Below G.heap.size G Q:=⟨d.os,d.tape,d.output,d.size,fun q l=>d.block q l (fun e=>by cases e)⟩
  have zi:=wR.bZ (Sb hq5) (t_ (wR.lt (by omega)));have vo:Fx.Own Q w.heap.size 28 1 (.slice K (m.rn k) (M)) (m.rn k) (rv .u64 (m.rq k)):=(ho4.congr (fun j _=>app0 j));have b14:Below w.heap.size w Q:=zw R d R.size (fun q l=>((wX G w.heap.size 28 1 (rv .u64 (m.rq k))).ge l).1);have hf1:=xS.fresh aku;refine Ln ⟨zl,?_⟩;refine Rp (pf a (k+21)) (fun _=>ji 6 1)<|gF<|iM zh (k+21) (.slice K (m.rn k) (M)) fun F4 zk Z z6 => ?_;have zV:=uK.bZ Z (by omega);have BL:=gI Z zh.ty;have⟨Dx,BM,AQ,Bp,zm⟩:=rz BL xD zf wS zG zH;have D9:=zi.bZ Z (by omega);have BN:=jD BL vo;have b15:=Z.below b14 b14.size (by omega);refine Ln<|Rn<|bR<|sN<|Wl<|aX J<|Lv (au ((k:Int)+1)) fC<|av (au ((k:Int)+1))<|Ln ?_;have Ea:aQ F4 a 27 (mE (Ko m C E D F b u z (aH ra k K) (aH rc k M) (k+1))) 71:=zk.to (TH (by omega));have Eb:vY F4 w.heap.size (k+1) (Ko m C E D F b u z (aH ra k K) (aH rc k M) (k+1)):=Xw zm BN hf1
  skip
  refine gV ⟨k+1,(aH ra k K),(aH rc k M),by omega,h1,W,Fx.ic,zV,Dx,BM,AQ,Bp,Ea,Eb,b15⟩ ?_;show(6-(intOf (au ((k:Int)+1))).toNat)<_;simp only[J,intOf]; omega
 refine Lv aF (gX c57)<|aC<|aK<|Wx<|cK<|gJ<|cO<|sN<|ay<|aX W<|av (pt a)<|aC<|Wr<|aJ (pt a) ?_;have ek:k=6:=by omega
 subst ek;exact⟨a,atM m C E D F b u z ra rc,rfl,rfl,{ c:=rF.congr afz,n:=xA,g:=wP,tc:=xC,t:=xB,r:=Xx sH,pB:=su,tB:=uh,bn:=bn1,bg:=bg,bt:=bt1,br:=h.br },b12⟩
namespace Rt
def nM(id:Nat->Int)(o:Int):Nat->Nat
 | 0=>0
 | n+1=>nM id o n+if id n / 1099511627776=o then 1 else 0
theorem TJ{id:Nat->Int}{o:Int}{c k:Nat}(h:c=nM id o k)(e:id k / 1099511627776=o):c+1=nM id o (k+1):=by unfold nM; rw[d_ e,h]
theorem Xy{id:Nat->Int}{o:Int}{c k:Nat}(h:c=nM id o k)(e : ¬ id k / 1099511627776=o):c=nM id o (k+1):=by unfold nM; rw[b_ e,h]; rfl
noncomputable def ko(L:gy)(v:EvM):Int:=if 5<=nM L.id v.o L.nn\/140737488355328<v.aS then 6 else jv L.t L.tn (jd v.o v.seq) v.node
def rO(f:Nat->Int)(n:Nat)(x:Int):Nat:=down (fun i=>decide (x<f i)) n
def qj(L:gy)(v:EvM):gy :=
 { L with nn:=L.nn+1,id:=cB L.id (rO L.id L.nn (jd v.o v.seq)) (jd v.o v.seq),par:=cB L.par (rO L.id L.nn (jd v.o v.seq)) v.node,
          R:=cB L.R (rO L.id L.nn (jd v.o v.seq)) (upd (fun _=>0) (v.o-1).toNat v.aS),
          tn:=L.tn+1,t:=oD L.t (down (fun i=>decide (jd v.o v.seq<L.t i 0)) L.tn) (jd v.o v.seq) v.node }
theorem TK{id par:Int}(j:Nat):bI (bI (fun c=>if c<2 then aD 0 else au 0) 0 1 (fun _=>aD id)) 1 1 (fun _=>aD par) j=lW id par (fun _=>0) j:=by
 unfold bI lW;by_cases a:j=0
 ·subst a; rfl
 by_cases b:j=1
 ·subst b; rfl
 rw[b_ (by omega),b_ (by omega),b_ a,b_ b]; show(if j<2 then _ else _)=_; rw[b_ (by omega)]
theorem Og{id par:Int}{R:Nat->Int}{a q:Nat}{x:Int}(d:q=a+2):dA (lW id par R) q (au x)=lW id par (upd R a x):=by
 subst d
 funext p
 unfold dA lW upd;by_cases h:p=a+2
 ·subst h; rw[d_ rfl,b_ (by omega),b_ (by omega),d_ (by omega)]
 rw[b_ h];by_cases b:p=0
 ·rw[d_ b,d_ b]
 by_cases c:p=1
 ·rw[b_ b,d_ c,b_ b,d_ c]
 rw[b_ b,b_ c,b_ b,b_ c,b_ (by omega)]
theorem Oh{id par:Nat->Int}{R:Nat->Nat->Int}{k:Nat}{a b:Int}{c:Nat->Int}:Fx.Iq (fun d=>lW (id d) (par d) (R d)) k (lW a b c)=fun d=>lW (cB id k a d) (cB par k b d) (cB R k c d):=by
 funext i
 unfold Fx.Iq cB;by_cases h:i<k
 ·simp only[d_ h]
 by_cases e:i=k
 ·simp only[b_ h,d_ e]
 simp only[b_ h,b_ e]
theorem GL(m:lu)(a:Option Addr)(n c:Nat):dA (mE m) 18 (.slice a n c)=mE { m with s := { m.s with na:=a,nn:=n,nc:=c } }:=by
 funext p
 unfold dA mE;by_cases h:p=18
 ·subst h; rfl
 rw[b_ h];by_cases e:p<20
 ·rw[d_ e,d_ e]; unfold nL;by_cases b:p<6
  ·rw[d_ b,d_ b]
  by_cases d:p<12
  ·rw[b_ b,d_ d,b_ b,d_ d]
  by_cases f:p<18
  ·rw[b_ b,b_ d,d_ f,b_ b,b_ d,d_ f]
  rw[b_ b,b_ d,b_ f,b_ h,b_ b,b_ d,b_ f,b_ h]
 rw[b_ e,b_ e]
theorem yM{s:Nat}{z y:Nat->Value}(hy : ∀ j,(y j).oneCell'=true) : ∀ j,j<1*s->(bI z (0*s) s y j).oneCell'=true:=fun j a=>by
 unfold bI; rw[d_ (by omega)]; exact hy _
theorem TL{f:Nat->Int}{n k j:Nat}{x:Int}(e:k=j+1)(h : ∀ i,k<=i->i<n->x<f i)(c:x<f j) : ∀ i,j<=i->i<n->x<f i:=fun i d b=>by
 by_cases a:i=j
 ·subst a; exact c
 ·exact h i (by omega) b
end Rt
theorem Rt.Kq{t:Nat->Nat->Int}{tn:Nat}{id par:Int}(h:jv t tn id par=0):tn+1<=33:=by
 unfold jv at h;split at h; · cases h
 split at h; · cases h
 split at h; · cases h
 split at h; · cases h
 rename_i h4
 rcases Nat.lt_or_ge tn 32 with h5|h5
 ·omega
 exact L_ (Or.inl h5) h4
set_option maxRecDepth 20000 in
set_option maxHeartbeats 2000000 in
theorem Xz(m:lu)(B p a D:Nat)(v:EvM)(w:World)(C:vw w B p m)(u:B<=w.heap.size)(ha:a<6)(ho:v.o=(a:Int)+1)(bnn:m.s.nn<=900)(hD:bC m.t m.tn (bF m.t m.tn D v.node)<0)(hD2:D<=1000) :
 Calls Tryz.prog 78 #[(pt p),.agg (aA 14 (bQ v))] w fun e w'=>e = .returned (au (ko m.core v))/\Below B w w'/\(ko m.core v=0 -> ∃ m',m'.core=qj m.core v/\vw w' B p m'):=by
 have TM:=C.c;have hLn:=C.n;have hLg:=C.g;have TN:=C.tc;have TP:=C.t;have hLr:=C.r;have TQ:=C.pB;have DC:=C.tB;have bn:=C.bn;have bg:=C.bg;have bt:=C.bt;have lpp:p<w.heap.size:=TM.lt;have QV:m.tb<w.heap.size:=TN.lt;refine Kent Tryz.func78 132 ?_;refine ay<|qP fun I w1 lK m1 s1 z1 => ?_;have⟨m2,m3,m4,m5,m6,m7⟩:=ru s1.old TM hLn hLg TN TP hLr;have b1:=eF s1.old (Below.refl B w) u;have uh:=jI lK (Below.refl B w).size;have⟨nE,wU⟩:=wY lK TM.lt TN.lt;have vS:=m1.lt;refine av (au 0)<|aC<|ay<|av (au 0)<|aC<|Ws<|ay<|av (au 0)<|aC<|Wb<|Wo (fun f z => ∃ k:Nat,∃ G:Nat,k<=m.s.nn/\G<=k/\G=nM m.id v.o k/\f 0=(pt p)/\f 3=(pt I)/\f 5=au (G:Int)/\f 6=au (k:Int)/\aQ z p 27 (mE m) 71/\Fx.Own z B 61 56 (.slice m.s.na (m.s.nn) (m.s.nc)) m.s.nn (Js m)/\Fx.Own z B 66 5 (.slice m.s.ga (m.s.gn) (m.s.gc)) m.s.gn (IK m)/\aQ z m.tb 1 (fun _ => .slice m.ta m.tn m.tc) 123/\Fx.Own z B 128 2 (.slice m.ta (m.tn) (m.tc)) m.tn (PX m.t)/\vY z B 6 m/\aQ z I 14 (bQ v) 32/\Below B w z) (fun f _=>(m.s.nn-(intOf (f 6)).toNat)) ⟨0,0,by omega,by omega,rfl,(by rfl),(by rfl),Fx.ic,Fx.ic,m2,m3,m4,m5,m6,m7,m1,b1⟩ ?_;rintro f1 O ⟨k,G,hk,hcl,aa,J,K,h3,Y,m8,m9,m10,m11,m12,m13,W,b2⟩;refine Ws<|ay<|aX Y<|aX J<|av (pt p)<|av (pt p)<|av (pf p 18)<|Lv (.slice m.s.na (m.s.nn) (m.s.nc)) (aN m8.aI 18)<|av (au m.s.nn) ?_;by_cases c18:(k:Int)<(m.s.nn:Int)
 ·refine Lv aG (gW c18)<|aC<|aO<|Wk<|sN<|Ws<|Wb<|Ws ?_;refine xM<|dY J<|aU (pt p)<|aU (pt p)<|aU (pf p 18)<|Qv (.slice m.s.na (m.s.nn) (m.s.nc)) (fun F E=>aN (m8.aI.dr E) 18)<|dY Y ?_;obtain⟨EM,eq1⟩:=m9.addr (by omega);have m15:Fx.Own O B 61 56 (bO EM m.s.nn m.s.nc) m.s.nn (Js m):=m9.fH (K_ (fun q=>Value.slice q m.s.nn m.s.nc) eq1);refine Qv (pf EM (56*k)) (fun F E=>dh 56 (hx:=(rfl.trans (K_ (fun q=>Value.slice q (m.s.nn) (m.s.nc)) eq1))))<|aU (pf EM (56*k))<|Qv (aD (m.id k)) (fun F E=>aN (m15.aI.dr E) (56*k) (Fx.iC (k:=k) (j:=0) (by omega) (by omega) rfl))<|Qv (aD ((m.id k) / 1099511627776)) (fun F E=>Fx.Zi (b:=40) (q:=1099511627776) rfl rfl rfl (by decide) (by decide))<|Qv (pt I) (fun F E=>iZ K 0)<|Qv (au v.o) (fun F E=>aN (W.aI.dr E) 0)<|Qv (aD v.o) (fun F E=>dB rfl rfl (by kernel_rfl) Tryz.underlying28 (jL (by omega) rfl)) ?_;by_cases c34:((m.id k) / 1099511627776)=v.o
  ·refine Qv aG (fun F E=>dX c34)<|Qn ?_;rintro _ ⟨qd,rfl⟩;obtain⟨CY,rP⟩ : ∃ F,F=World.drewN O qd:=⟨_,rfl⟩;rw[<- rP];have s2:Stp O.heap.size O CY:=(by rw[rP]; exact Sb (jH O qd));have⟨m16,m17,m18,m19,m20,m21,m22⟩:=jm s2.old m8 m10 m11 m12 m13 W m15;have b3:=eF s2.old b2 u;clear rP;refine sN<|aO<|Wl<|aX h3<|Lv (au ((G:Int)+1)) fC<|av (au ((G:Int)+1))<|Ln<|bR<|sN<|Wl<|aX Y<|Lv (au ((k:Int)+1)) fC<|av (au ((k:Int)+1))<|Ln ?_;have m23:Fx.Own CY B 61 56 (.slice m.s.na (m.s.nn) (m.s.nc)) m.s.nn (Js m):=m22.fH (K_ (fun q=>Value.slice q m.s.nn m.s.nc) eq1.symm);refine gV ⟨k+1,G+1,by omega,by omega,(TJ aa c34),J,K,Fx.ic,Fx.ic,m16,m23,m17,m18,m19,m20,m21,b3⟩ ?_;show(m.s.nn-(intOf (au ((k:Int)+1))).toNat)<_;simp only[Y,intOf]; omega
  refine Qv aF (fun F E=>fF c34)<|Qn ?_;rintro _ ⟨qd,rfl⟩;obtain⟨wq2,vZ⟩ : ∃ F,F=World.drewN O qd:=⟨_,rfl⟩;rw[<- vZ];have s3:Stp O.heap.size O wq2:=by rw[vZ]; exact Sb (jH O qd)
  have⟨m24,nT,mY,pY,oN,qx,oZ⟩:=jm s3.old m8 m10 m11 m12 m13 W m15;have b4:=eF s3.old b2 u;clear vZ;refine sN<|aK<|Wk<|bR<|sN<|Wl<|aX Y<|Lv (au ((k:Int)+1)) fC<|av (au ((k:Int)+1))<|Ln ?_;have lV:Fx.Own wq2 B 61 56 (.slice m.s.na (m.s.nn) (m.s.nc)) m.s.nn (Js m):=oZ.fH (K_ (fun q=>Value.slice q m.s.nn m.s.nc) eq1.symm);refine gV ⟨k+1,G,by omega,by omega,(Xy aa c34),J,K,(h3.trans Fx.ic),Fx.ic,m24,lV,nT,mY,pY,oN,qx,b4⟩ ?_;show(m.s.nn-(intOf (au ((k:Int)+1))).toNat)<_;simp only[Y,intOf]; omega
 refine Lv aF (gX c18)<|aC<|aK<|Wx<|cK<|gJ<|cO<|sN<|Ws<|ay<|aX h3 ?_;by_cases c38:5<=(G:Int)
 ·refine Lv aG (kJ c38)<|av aG<|dD<|dD<|dD<|av aG<|aC<|aO<|ay<|av (au 6)<|aC<|Wr<|sR<|aJ (au 6) ?_;have N:k=m.s.nn:=by omega
  subst N;have H:ko m.core v=6:=d_ (.inl (by rw[show nM m.core.id v.o m.core.nn=G from aa.symm]; omega));exact⟨oV H.symm,b2,fun U=>by rw[H]at U; cases U⟩
 refine Lv aF (jY c38)<|av aF<|Lv (pf I 11) (iZ K 11)<|Lv (au v.aS) (aN W.aI 11) ?_;by_cases Sc:140737488355328<v.aS
 ·refine Lv aG (mI Sc)<|av aG<|aC<|aO<|ay<|av (au 6)<|aC<|Wr<|sR<|aJ (au 6) ?_;have N:k=m.s.nn:=by omega
  subst N;have H:ko m.core v=6:=d_ (.inr (by omega));exact⟨oV H.symm,b2,fun U=>by rw[H]at U; cases U⟩
 refine Lv aF (mJ Sc)<|av aF<|aC<|aK<|Wk<|sN<|ay<|Lv (pt I) (iZ K 0)<|Lv (au v.o) (aN W.aI 0)<|Lv (pf I 1) (iZ K 1)<|Lv (aD v.seq) (aN W.aI 1)<|lY (akr v.o v.seq _) _ rfl<|av (aD (jd v.o v.seq))<|aC<|Ws ?_;refine jV [0,1,2,4,5,3,6,7,8] [0,0,0,4,0,0,4,3,0] [(7,3,[3]),(7,6,[6]),(8,7,[7])] fun qp dQ iA => ?_;have⟨m32,qG,oO,qb,qH,sD,sV⟩:=jm dQ m8 m9 m10 m11 m12 m13 W;have b5:=eF dQ b2 u;refine bU J<|aY (pt p)<|aY (pf p 20)<|aY (aD (jd v.o v.seq))<|Rp (pf I 9) (fun _=>iZ K 9)<|Rs (pt m.tb) (aN m32.aI 20) ?_;refine Rs (aD v.node) (aN sV.aI 9) ?_;refine gF<|dL (afv B m.tb m.ta m.tn m.tc m.t (jd v.o v.seq) v.node D _ qb qH (fun e=>Fx.Ty.ne (qH.ty e) qb.ty (by decide) rfl) (m_ u b5.size) bt hD hD2) _ rfl ?_;rintro X ⟨afE,hcs1⟩;have hc1:iD [123,128] qp X:=Fx.iD.Rx afE (by rintro k (rfl|e) <;> first|exact⟨_,qb.ty,by decide⟩|exact⟨_,qH.ty e,by decide⟩)
 have qc:aQ X p 27 (mE m) 71:=m32.kH hc1 (by decide);have sZ:Fx.Own X B 61 56 (.slice m.s.na (m.s.nn) (m.s.nc)) m.s.nn (Js m):=qG.kH hc1 (by decide);have nW:Fx.Own X B 66 5 (.slice m.s.ga (m.s.gn) (m.s.gc)) m.s.gn (IK m):=oO.kH hc1 (by decide);have mV:vY X B 6 m:=sD.kH hc1 (by decide);have nk:aQ X I 14 (bQ v) 32:=sV.kH hc1 (by decide);have b6:Below B w X:=Fx.jP.below b5 afE (by rintro k (rfl|e) <;> first|exact DC|exact(qH.ge e).1) (m_ u b5.size)
 rcases hcs1 with ⟨Q,hT1,hO1⟩|⟨Q,g9,XA,hT1,hO1,hne1⟩
 ·refine Ln<|aY (au (jv m.t m.tn (jd v.o v.seq) v.node))<|bS<|Ws<|ay<|av (au (jv m.t m.tn (jd v.o v.seq) v.node))<|Lv aG (nC Q)<|aC<|aO<|ay<|av (au (jv m.t m.tn (jd v.o v.seq) v.node))<|av (au (jv m.t m.tn (jd v.o v.seq) v.node))<|aC<|Wr<|sR<|aJ (au (jv m.t m.tn (jd v.o v.seq) v.node)) ?_;have N:k=m.s.nn:=by omega
  subst N;have H:ko m.core v=jv m.t m.tn (jd v.o v.seq) v.node:=b_ (fun h=>h.elim (fun h=>by rw[show nM m.core.id v.o m.core.nn=G from aa.symm]at h; omega) (fun h=>by omega));exact⟨oV H.symm,b6,fun U=>L_ (H.symm.trans U) Q⟩
 refine Ln<|aY (au (jv m.t m.tn (jd v.o v.seq) v.node))<|bS<|Ws<|ay<|av (au (jv m.t m.tn (jd v.o v.seq) v.node))<|Lv aF (jM Q)<|aC<|aK<|Wk<|sN<|ay<|av (aD (jd v.o v.seq))<|Lv (pf I 9) (iZ K 9)<|Lv (aD v.node) (aN nk.aI 9)<|av (.agg (aA 56 (bI (bI (fun L=>if L<2 then aD 0 else au 0) 0 1 (fun _=>aD (jd v.o v.seq))) 1 1 (fun _=>aD v.node))))<|wL 56 (fun L=>if L<2 then aD 0 else au 0) fun M w4 xU tV s5 z2 => ?_;have⟨qQ,nX,sj,xq,sF,uj,uY⟩:=jm s5.old qc sZ nW mV nk hT1 hO1;have b7:=eF s5.old b6 u;have su:=jI xU b6.size;have akw:=cu xU qc.lt;have EN:(.slice m.s.na (m.s.nn) (m.s.nc):Value).ownBlock≠some M:=by rw[xU]; exact sZ.jX (z_ _)
 have⟨akx,aky,abJ⟩:=JL xU nk.lt hT1.lt hO1.lt;have AL:=tV.lt;refine fD tV 0 (h1:=(bV (bV (fun jq _=>by show((fun L=>if L<2 then aD 0 else au 0:Nat->Value) jq).oneCell'=true; simp only[]; repeat (first|rfl|split)) (fun _ _=>rfl)) (fun _ _=>rfl))) fun w5 uH s6 z3 => ?_
 have um:aQ w5 M 56 (bI (bI (fun L=>if L<2 then aD 0 else au 0) 0 1 (fun _=>aD (jd v.o v.seq))) 1 1 (fun _=>aD v.node)) 61:=aT uH;have gK:=gI s6 tV.ty;have uI:=jD gK qQ;have xu:=nX.bZ s6 EN;have⟨uZ,tu,tC,xw,qg⟩:=rz gK sj xq sF uj uY;have b8:=s6.below b7 (m_ u b7.size) (by omega);refine aC<|Ws ?_;have vg:aQ w5 M 56 (lW (jd v.o v.seq) v.node (fun _=>0)) 61:=um.congr (fun j hj=>TK j);refine Wl<|Lv (pt I) (iZ K 0)<|Lv (au v.o) (aN tC.aI 0)<|Lv (au a) fV<|Lv (pf I 11) (iZ K 11)<|Lv (au v.aS) (aN tC.aI 11)<|av (pf M 2)<|av (pf M 2)<|Lv (pf M (a+2)) (ji 6 1)<|iM vg (a+2) (au v.aS) fun w6 om s7 z4 => ?_;have sG:aQ w6 M 56 (lW (jd v.o v.seq) v.node (upd (fun _=>0) a v.aS)) 61:=om.to (Og (by omega));have kg:=gI s7 vg.ty;have m64:=jD kg uI;have xA:=xu.bZ s7 EN;have⟨wP,xB,xC,rF,sH⟩:=rz kg uZ tu tC xw qg;have b9:=s7.below b8 (m_ u b8.size) (by omega);refine aC<|Ws ?_;have ek0:k=m.s.nn:=by omega
 obtain⟨cn0,afG,hc38⟩ : ∃ cn0,cn0=nM m.id v.o m.s.nn /\ ¬ (5:Int)<=(cn0:Int):=⟨G,by rw[<- ek0]; exact aa,c38⟩;clear aa hcl ek0;refine Wl<|aX J<|av (pt p)<|av (pt p)<|av (pf p 18)<|Lv (.slice m.s.na (m.s.nn) (m.s.nc)) (aN m64.aI 18)<|av (au m.s.nn)<|av (au m.s.nn)<|aC<|Ws ?_;refine zQ [0,1,2,3,4,5,6,7,8,9,10,11,12] [0,0,0,0,0,1,4,2,2,0,0,0,3] (iD [61]) vL Fx.iD.trans (eZ := [(12,5,[5]),(7,6,[6]),(8,6,[7,6]),(12,6,[6]),(8,7,[7]),(9,7,[7]),(10,7,[7]),(11,7,[7]),(12,7,[7]),(9,8,[8]),(10,8,[8]),(11,8,[8]),(12,8,[8])]) (by kernel_rfl) (by kernel_rfl) (by kernel_rfl) (by kernel_rfl) (by kernel_rfl) fun BG fO mU => ?_;have⟨uJ,wQ,uo,yG,vk,xR,ze,xS⟩:=mM fO m64 xA wP xB xC rF sH sG;have b10:=eF fO b9 u;refine bU J<|bU J<|aY (pt p)<|aY (pt p)<|aY (pf p 18)<|Rd (v := .slice m.s.na (m.s.nn) (m.s.nc)) (by rfl) (by rfl) (vL _) (fun F E=>bA (x:=mE m) rfl rfl (by kernel_rfl) (uJ.kH E (by decide)).aI (i:=18) (by omega) (by omega) rfl) ?_;refine Rs (.agg (aA 56 (lW (jd v.o v.seq) v.node (upd (fun _=>0) a v.aS)))) (fI xS.aI 0) ?_;refine yD<|yZ (vs := [(0,.agg (aA 56 (lW (jd v.o v.seq) v.node (upd (fun _=>0) a v.aS))))]) (s:=56) (zc:=fun L=>if L<2 then aD 0 else au 0) (y:=bI (fun j=>(fun L=>if L<2 then aD 0 else au 0) (j % 56)) (0*56) 56 (lW (jd v.o v.seq) v.node (upd (fun _=>0) a v.aS))) (by rfl) rfl rfl Tryz.underlying50 (by kernel_rfl) (by rfl) (by rfl) (by kernel_rfl) (by rw[bD (off:=0*56) (s:=56) (y:=lW (jd v.o v.seq) v.node (upd (fun _=>0) a v.aS)) rfl (bJ _ _) (by rfl)]; rfl) rfl fun g3 w7 yH wR s9 z5 => ?_;have⟨vo,uK,xD,zf,wS,zG,zh,zH⟩:=mM s9.old uJ wQ uo yG vk xR ze xS;have b11:=eF s9.old b10 u;have DY:=jI yH b10.size;have akA:=cu yH uJ.lt;have akB:(.slice m.s.na (m.s.nn) (m.s.nc):Value).ownBlock≠some g3:=by rw[yH]; exact wQ.jX (z_ _)
 have⟨akC,abK,IU,abL⟩:=aaH yH vk.lt xR.lt ze.lt xS.lt;have LJ:=wR.lt;refine Ln ⟨Fx.iD.of_below s9.old,?_⟩;refine yD<|zx (B:=B) (s:=56) (bytes:=448) (k:=m.s.nn) (m:=1) (v := .slice m.s.na (m.s.nn) (m.s.nc)) (x:=Js m) (by rfl) rfl rfl rfl Tryz.underlying50 (by kernel_rfl) (by kernel_rfl) rfl rfl uK wR.aI (yM (uP _ _ _)) (by omega) (by omega) (by omega) (m_ u b11.size) fun l A w8 ho1 hg1 vR hlt1 => ?_;have rE:=zy hg1 uK;have⟨zk,zV,Dx,BM,AQ,Bp⟩:=RB rE vo xD zf wS zG zh;have zm:=zH.grown hg1 EN;have akD:M≠l:=fun e=>vR.elim (fun e2=>EN (by rw[e]; exact e2)) (fun e2=>by have:=zH.lt; omega);have zi:Fx.Own w8 B 61 56 (bO l (m.s.nn+1) A) (m.s.nn+1) (flat 56 (Fx.JI (fun d=>lW (m.id d) (m.par d) (m.R d)) (lW (jd v.o v.seq) v.node (upd (fun _=>0) a v.aS)) m.s.nn m.s.nn)):=(ho1.congr (fun j hj=>(Fx.xJ j hj).trans (bK (fun i V q _=>Fx.xK i V q) j hj)));have b12:Below B w w8:=zw b11 hg1 (m_ u b11.size) (fun q hq=>(uK.ge hq).1);refine Ln ⟨rE,?_⟩;refine aY (pt p)<|aY (pt p)<|aY (pf p 18)<|gF<|iM zk 18 (bO l (m.s.nn+1) A) fun w9 D9 s10 z6 => ?_;have xQ:=gI s10 zk.ty;have⟨BN,Ea,Eb,tX,wh,rQ,rR⟩:=RD xQ zV Dx BM AQ Bp zm zi;have b13:=s10.below b12 (m_ u b12.size) (by omega);refine Ln<|bS<|Ws<|Wb<|Wo (fun f z => ∃ k:Nat,k<=m.s.nn/\(∀ i,k<=i->i<m.s.nn->(jd v.o v.seq)<m.id i)/\f 0=(pt p)/\f 7=aD (jd v.o v.seq)/\f 9=(pt M)/\f 10=au (k:Int)/\Fx.Own z B 66 5 (.slice m.s.ga (m.s.gn) (m.s.gc)) m.s.gn (IK m)/\vY z B 6 m/\aQ z I 14 (bQ v) 32/\aQ z m.tb 1 (fun _=>bO g9 (m.tn+1) XA) 123/\Fx.Own z B 128 2 (bO g9 (m.tn+1) XA) (m.tn+1) (rv .u64 (kQ (oD m.t (down (fun i=>decide ((jd v.o v.seq)<m.t i 0)) m.tn) (jd v.o v.seq) v.node)))/\aQ z M 56 (lW (jd v.o v.seq) v.node (upd (fun _=>0) a v.aS)) 61/\aQ z p 27 (dA (mE m) 18 (bO l (m.s.nn+1) A)) 71/\Fx.Own z B 61 56 (bO l (m.s.nn+1) A) (m.s.nn+1) (flat 56 (Fx.JI (fun d=>lW (m.id d) (m.par d) (m.R d)) (lW (jd v.o v.seq) v.node (upd (fun _=>0) a v.aS)) m.s.nn k))/\Below B w z) (fun f _=>(intOf (f 10)).toNat) ⟨m.s.nn,by omega,(fun i J K=>L_ J (by omega)),J,Fx.ic,(by rfl),Fx.ic,BN,Ea,Eb,tX,wh,rQ,D9,rR,b13⟩ ?_;rintro f2 tT ⟨k,hk,hgt,Z,h6,h7,P,nN,nO,oF,nP,oG,ql,qJ,pz,b14⟩;refine Ws<|ay<|aX P ?_;by_cases c91:0<(k:Int)
 ·obtain⟨j,ej⟩ : ∃ j,k=j+1:=⟨k-1,by omega⟩;refine Lv aG (mI c91)<|av aG<|aX Z<|av (pt p)<|av (pt p)<|av (pf p 18)<|Lv (bO l (m.s.nn+1) A) (aN qJ.aI 18 (Fx.kY (by omega)))<|aX P<|Lv (au j) fV<|Lv (pf l (56*j)) (dh 56)<|av (pf l (56*j))<|Lv (aD (m.id j)) (aN pz.aI (56*j) (Fx.iC (k:=j) (j:=0) (by omega) (by omega) ((congrFun (Fx.zA (by omega) (by omega)) 0).trans rfl)))<|aX h6 ?_;by_cases XB:(jd v.o v.seq)<(m.id j)
  ·refine Lv aG (mI XB)<|av aG<|aC<|aO<|Wk<|sN<|Wb<|Ws ?_;refine jV [0,1,2,3,5,6,7,8,9,11,12,4,10,13,14,15,16] [0,0,0,0,4,0,0,0,0,0,4,0,0,0,4,0,3] [(16,4,[4]),(16,10,[10]),(16,14,[14])] fun QW lJ AB => ?_;have⟨rT,wm,sK,wo,zY,uQ,rU,oH⟩:=mM lJ nN nO oF nP oG ql qJ pz;have b15:=eF lJ b14 u;refine bU Z<|aY (pt p)<|aY (pt p)<|aY (pf p 18)<|bU P<|bU Z<|aY (pt p)<|aY (pt p)<|aY (pf p 18)<|bU P<|Rp (au j) (fun _=>fV)<|Rs (bO l (m.s.nn+1) A) (aN rU.aI 18 (Fx.kY (by omega))) ?_;refine Rs (bO l (m.s.nn+1) A) (aN rU.aI 18 (Fx.kY (by omega))) ?_;refine Rp (pf l (56*j)) (fun _=>dh 56)<|Rs (.agg (aA 56 (lW (m.id j) (m.par j) (m.R j)))) (fI oH.aI (56*j) (fun jq hjq=>(Fx.iX (k:=j) (by omega) hjq).trans (congrFun (Fx.zA (by omega) (by omega)) jq))) ?_;refine Rp (pf l (56*k)) (fun _=>dh 56)<|gF<|zS oH (56*k) (h1:=(fun j _=>uP _ _ _ j)) fun F3 wu s12 z7 => ?_;have xg:=gI s12 oH.JH;have⟨wz,qK,zZ,EO,BO⟩:=rz xg rT wm sK wo zY;have xW:=uQ.bZ s12 (by omega);have BP:=jD xg rU;have b16:=s12.below b15 (m_ u b15.size) oH.blk.1;have BQ:Fx.Own F3 B 61 56 (bO l (m.s.nn+1) A) (m.s.nn+1) (flat 56 (Fx.JI (fun d=>lW (m.id d) (m.par d) (m.R d)) (lW (jd v.o v.seq) v.node (upd (fun _=>0) a v.aS)) m.s.nn j)):=wu.congr (fun T S=>(Fx.uz (k:=k) (by omega) T S).trans (bK (fun i V q _=>Fx.yA ej (by omega) i V q) T S));refine Ln<|bS<|Wl<|aX P<|Lv (au j) fV<|av (au j)<|Ln<|bR<|gV ⟨j,by omega,(TL ej hgt XB),Z,(h6.trans Fx.ic),h7,Fx.ic,wz,qK,zZ,EO,BO,xW,BP,BQ,b16⟩ ?_;show(intOf (au j)).toNat<_;simp only[P,intOf]; omega
  refine Lv aF (mJ XB)<|av aF<|aC<|aK<|Wx<|cK<|gJ<|cO<|sN<|Ws ?_;refine jV [0,1,2,3,5,4,6,7,8] [0,0,0,0,4,0,4,0,3] [(8,4,[4]),(8,6,[6])] fun wt4 qw Gy => ?_;have⟨Aa,xX,DF,BR,Ac,DI,EP⟩:=jm qw nN nO nP oG ql qJ pz;have b17:=eF qw b14 u;refine bU Z<|aY (pt p)<|aY (pt p)<|aY (pf p 18)<|bU P<|Rs (bO l (m.s.nn+1) A) (aN DI.aI 18 (Fx.kY (by omega))) ?_;refine Rs (.agg (aA 56 (lW (jd v.o v.seq) v.node (upd (fun _=>0) a v.aS)))) (fI Ac.aI 0 (ha:=h7)) ?_;refine Rp (pf l (56*k)) (fun _=>dh 56)<|gF<|zS EP (56*k) (h1:=(fun j _=>uP _ _ _ j)) fun CW Ad Dw z8 => ?_;have xk:=gI Dw EP.JH;have⟨DJ,BS,ER,Ae⟩:=JK xk Aa xX DF BR;have BU:=Ac.bZ Dw (by omega);have AU:=jD xk DI;have b18:=Dw.below b17 (m_ u b17.size) EP.blk.1;have IV:Fx.Own CW B 61 56 (bO l (m.s.nn+1) A) (m.s.nn+1) (flat 56 (Fx.Iq (fun d=>lW (m.id d) (m.par d) (m.R d)) k (lW (jd v.o v.seq) v.node (upd (fun _=>0) a v.aS)))):=Ad.congr (fun T S=>(Fx.uz (k:=k) (by omega) T S).trans (bK (fun i V q _=>Fx.sP (by omega) i V q) T S));refine Ln<|bS<|ay<|av (au 0)<|aC<|Wr<|aJ (au 0) ?_;have H:ko m.core v=jv m.t m.tn (jd v.o v.seq) v.node:=b_ (fun h=>h.elim (fun h=>by rw[show nM m.core.id v.o m.core.nn=cn0 from afG.symm]at h; omega) (fun h=>by omega));have N:k=rO m.id m.s.nn (jd v.o v.seq):=Fx.oL hk (fun i a b=>f_ (hgt i a b)) (.inr (fun j2 e=>by rw[show j2=j by omega]; exact g_ XB));have TR:Fx.Own CW B 61 56 (bO l (m.s.nn+1) A) (m.s.nn+1) (flat 56 fun d=>lW (cB m.id k (jd v.o v.seq) d) (cB m.par k v.node d) (cB m.R k (upd (fun _=>0) a v.aS) d)):=by rw[<- Oh]; exact IV
  have eR:(upd (fun _=>0) a v.aS)=upd (fun _=>0) (v.o-1).toNat v.aS:=by rw[show(v.o-1).toNat=a by omega]
  have bn9:m.tn+1<=33:=Kq Q;refine⟨oV (Q.symm.trans H.symm),b18,fun _=>⟨{ m with s := { m.s with na:=some ⟨l,0,none⟩,nn:=m.s.nn+1,nc:=A },id:=cB m.id k (jd v.o v.seq),par:=cB m.par k v.node,R:=cB m.R k (upd (fun _=>0) a v.aS),ta:=some ⟨g9,0,none⟩,tn:=m.tn+1,tc:=XA,t:=oD m.t (down (fun i=>decide ((jd v.o v.seq)<m.t i 0)) m.tn) (jd v.o v.seq) v.node },?_,?_⟩⟩
  ·unfold qj; rw[show rO m.core.id m.core.nn (jd v.o v.seq)=k from N.symm,<- eR]; rfl
  exact { c:=AU.to (GL m _ _ _),n:=TR,g:=DJ,tc:=ER,t:=Ae,r:=BS,pB:=TQ,tB:=DC,bn:=(by have:=bnn; show m.s.nn+1<=1000; omega),bg:=bg,bt:=(by show m.tn+1<=1000; omega),br:=C.br }
 refine Lv aF (mJ c91)<|av aF<|dD<|dD<|dD<|dD<|dD<|dD<|dD<|dD<|dD<|dD<|dD<|dD<|av aF<|aC<|aK<|Wx<|cK<|gJ<|cO<|sN<|Ws ?_;refine jV [0,1,2,3,5,4,6,7,8] [0,0,0,0,4,0,4,0,3] [(8,4,[4]),(8,6,[6])] fun wt5 zF Sk => ?_;have⟨TS,TT,TU,abM,TV,P6,TW⟩:=jm zF nN nO nP oG ql qJ pz;have b19:=eF zF b14 u;refine bU Z<|aY (pt p)<|aY (pt p)<|aY (pf p 18)<|bU P<|Rs (bO l (m.s.nn+1) A) (aN P6.aI 18 (Fx.kY (by omega))) ?_;refine Rs (.agg (aA 56 (lW (jd v.o v.seq) v.node (upd (fun _=>0) a v.aS)))) (fI TV.aI 0 (ha:=h7)) ?_;refine Rp (pf l (56*k)) (fun _=>dh 56)<|gF<|zS TW (56*k) (h1:=(fun j _=>uP _ _ _ j)) fun F4 TY s16 z9 => ?_;have zl:=gI s16 TW.JH;have⟨abN,abO,P7,abP⟩:=JK zl TS TT TU abM;have afH:=TV.bZ s16 (by omega);have abQ:=jD zl P6;have b20:=s16.below b19 (m_ u b19.size) TW.blk.1;have abR:Fx.Own F4 B 61 56 (bO l (m.s.nn+1) A) (m.s.nn+1) (flat 56 (Fx.Iq (fun d=>lW (m.id d) (m.par d) (m.R d)) k (lW (jd v.o v.seq) v.node (upd (fun _=>0) a v.aS)))):=TY.congr (fun T S=>(Fx.uz (k:=k) (by omega) T S).trans (bK (fun i V q _=>Fx.sP (by omega) i V q) T S));refine Ln<|bS<|ay<|av (au 0)<|aC<|Wr<|aJ (au 0) ?_;have H:ko m.core v=jv m.t m.tn (jd v.o v.seq) v.node:=b_ (fun h=>h.elim (fun h=>by rw[show nM m.core.id v.o m.core.nn=cn0 from afG.symm]at h; omega) (fun h=>by omega));have N:k=rO m.id m.s.nn (jd v.o v.seq):=Fx.oL hk (fun i a b=>f_ (hgt i a b)) (.inl (by omega));have abS:Fx.Own F4 B 61 56 (bO l (m.s.nn+1) A) (m.s.nn+1) (flat 56 fun d=>lW (cB m.id k (jd v.o v.seq) d) (cB m.par k v.node d) (cB m.R k (upd (fun _=>0) a v.aS) d)):=by rw[<- Oh]; exact abR
 have eR:(upd (fun _=>0) a v.aS)=upd (fun _=>0) (v.o-1).toNat v.aS:=by rw[show(v.o-1).toNat=a by omega]
 have bn9:m.tn+1<=33:=Kq Q;refine⟨oV (Q.symm.trans H.symm),b20,fun _=>⟨{ m with s := { m.s with na:=some ⟨l,0,none⟩,nn:=m.s.nn+1,nc:=A },id:=cB m.id k (jd v.o v.seq),par:=cB m.par k v.node,R:=cB m.R k (upd (fun _=>0) a v.aS),ta:=some ⟨g9,0,none⟩,tn:=m.tn+1,tc:=XA,t:=oD m.t (down (fun i=>decide ((jd v.o v.seq)<m.t i 0)) m.tn) (jd v.o v.seq) v.node },?_,?_⟩⟩
 ·unfold qj; rw[show rO m.core.id m.core.nn (jd v.o v.seq)=k from N.symm,<- eR]; rfl
 exact { c:=abQ.to (GL m _ _ _),n:=abS,g:=abN,tc:=P7,t:=abP,r:=abO,pB:=TQ,tB:=DC,bn:=(by have:=bnn; show m.s.nn+1<=1000; omega),bg:=bg,bt:=(by show m.tn+1<=1000; omega),br:=C.br }
namespace Rt
theorem nQ(x:Nat->Int)(n:Int)(is:Bool)(a:Int)(off:Nat) :
 ((bT x n is a off).1=zero/\(bT x n is a off).2≠0 /\ ¬ (may x=true/\1<=n/\n<=1125899906842624/\is=true/\a=0/\x off+n<=1125899906842624)) \/
 ((may x=true/\1<=n/\n<=1125899906842624/\is=true/\a=0/\x off+n<=1125899906842624)/\bT x n is a off=(upd x off (x off+n),0)):=by
 unfold bT;by_cases f:may x=true
 ·by_cases c:1<=n
  ·by_cases d:n<=1125899906842624
   ·rw[f,f_ c,f_ d];simp only[Bool.and_self,if_true]
    cases is
    ·left; exact⟨rfl,(by show(10:Int)≠0; decide),fun h=>by cases h.2.2.2.1⟩
    by_cases b:a=0
    ·by_cases e:x off+n<=1125899906842624
     ·right; exact⟨⟨trivial,c,d,rfl,b,e⟩,by rw[d_ rfl,d_ b,d_ e]⟩
     left; rw[d_ rfl,d_ b,b_ e]; exact⟨rfl,by decide,fun h=>e h.2.2.2.2.2⟩
    left; rw[d_ rfl,b_ b]; exact⟨rfl,b,fun h=>b h.2.2.2.2.1⟩
   left; rw[g_ d,H_,b_ (by decide)]; exact⟨rfl,by decide,fun h=>d h.2.2.1⟩
  left; rw[g_ c,H_,Bool.false_and,b_ (by decide)]; exact⟨rfl,by decide,fun h=>c h.2.1⟩
 left; rw[show may x=false by simpa using f,Bool.false_and,Bool.false_and,b_ (by decide)]; exact⟨rfl,by decide,fun h=>by cases h.1⟩
theorem MG{x:Nat->Int}(h:PW x){off:Nat}{n:Int}(h1:1<=n)(c:x off+n<=1125899906842624)(a:off<54):PW (upd x off (x off+n)):=by
 intro p b;unfold upd;split
 ·have:=h off a; omega
 exact h p b
theorem qL{i:Int}(h:gH i=true) : ∃ a:Nat,a<6/\i=(a:Int)+1/\i.toNat-1=a:=by
 have:1<=i/\i<=6:=by unfold gH at h; simpa using h
 exact⟨(i-1).toNat,by omega,by omega,by omega⟩
structure Moved(x y:Nat->Int)(a b:Nat)(n:Int):Prop where
 may:may y=true
 l : ∀ k,k<6->L y k=L x k+(if k=b then n else 0)-(if k=a then n else 0)
 g:sI y=sI x
 u:nK y=nK x
theorem AV{x:Nat->Int}{i j n:Int}(h:(cZ x i j n).2=0) : ∃ a b:Nat,a<6/\b<6/\a≠b/\i=(a:Int)+1/\j=(b:Int)+1/\1<=n/\n<=1125899906842624/\n<=L x a/\Moved x (cZ x i j n).1 a b n/\(cZ x i j n).1=upd x (18+a*6+b) (x (18+a*6+b)+n):=by
 unfold cZ at *
 rcases nQ x n (gH i&&gH j) (nI x i j n) (kP i j)with ⟨_,f,_⟩|⟨⟨hm,h1,f,hr,he,hx⟩,heq⟩
 ·exact L_ h f
 rw[R_]at hr;obtain⟨a,g,l,D⟩:=qL hr.1;obtain⟨b,m,q,E⟩:=qL hr.2;have s:kP i j=18+a*6+b:=by unfold kP; rw[D,E]
 rw[s]at heq hx;rw[s];have B:a≠b:=by
  intro z;unfold nI at he;rw[d_ (by rw[l,q,z])]at he
  cases he
 have y:n<=L x a:=by
  unfold nI at he;rw[b_ (by omega)]at he;by_cases d:fJ x i<n
  ·rw[f_ d]at he; cases he
  ·rw[l,nJ hm a g]at d; omega
 obtain⟨e,t,w⟩:=(kI x).1 hm;have d:=abB x a b g m n;have c : ∀ p,p<18->upd x (18+a*6+b) (x (18+a*6+b)+n) p=x p:=fun p I=>gu _ _ _ _ (by omega);have o:sI (upd x (18+a*6+b) (x (18+a*6+b)+n))=sI x:=by unfold sI G; rw[c 0 (by omega),c 1 (by omega),c 2 (by omega),c 3 (by omega),c 4 (by omega),c 5 (by omega)]
 have A:(bT x n (gH i&&gH j) (nI x i j n) (18+a*6+b)).1=upd x (18+a*6+b) (x (18+a*6+b)+n):=by rw[heq]
 rw[A];refine⟨a,b,g,m,B,l,q,h1,f,y,⟨?_,d,o,?_⟩,rfl⟩
 ·rw[kI];refine⟨MG e h1 hx (by omega),fun k r => ?_,by rw[o]; exact w⟩;obtain⟨H,u,v⟩:=t k r;refine⟨?_,?_,?_⟩
  ·rw[d k r];split
   ·split <;> omega
   split
   ·rename_i hka; subst hka; omega
   omega
  ·unfold F C at *; rw[c _ (by omega),c _ (by omega)]; exact u
  unfold R at *; rw[gu _ _ _ _ (by omega)]; exact v
 unfold nK C F; simp only[c _ (show 6+0<18 by omega),c _ (show 6+1<18 by omega),c _ (show 6+2<18 by omega),c _ (show 6+3<18 by omega),c _ (show 6+4<18 by omega),c _ (show 6+5<18 by omega),c _ (show 12+0<18 by omega),c _ (show 12+1<18 by omega),c _ (show 12+2<18 by omega),c _ (show 12+3<18 by omega),c _ (show 12+4<18 by omega),c _ (show 12+5<18 by omega)]
theorem ES(x:Nat->Int)(off:Nat)(c:off<18)(v:Int)(a b:Nat):R (upd x off v) a b=R x a b:=gu _ _ _ _ (by omega)
theorem Ua(x:Nat->Int)(off:Nat)(a:off<18)(v:Int)(k:Nat):L (upd x off v) k=L x k+(G (upd x off v) k-G x k)+(F (upd x off v) k-F x k)-(C (upd x off v) k-C x k):=by
 unfold L;simp only[ES x off a v];omega
theorem afI(x:Nat->Int)(a:Nat)(n:Int)(k:Nat):C (upd x (6+a) (x (6+a)+n)) k=C x k+(if k=a then n else 0):=by
 unfold C upd;by_cases h:k=a
 ·subst h; simp
 rw[b_ (by omega),b_ h]; omega
theorem afJ(x:Nat->Int)(a:Nat)(n:Int)(k:Nat):F (upd x (12+a) (x (12+a)+n)) k=F x k+(if k=a then n else 0):=by
 unfold F upd;by_cases h:k=a
 ·subst h; simp
 rw[b_ (by omega),b_ h]; omega
theorem afK(x:Nat->Int)(a:Nat)(n:Int)(k:Nat):G (upd x a (x a+n)) k=G x k+(if k=a then n else 0):=by
 unfold G upd;by_cases h:k=a
 ·subst h; simp
 rw[b_ h,b_ h]; omega
theorem six(a:Nat)(ha:a<6)(n:Int):(if 0=a then n else 0)+(if 1=a then n else 0)+(if 2=a then n else 0)+(if 3=a then n else 0)+(if 4=a then n else 0)+(if 5=a then n else 0)=n:=by
 have:a=0\/a=1\/a=2\/a=3\/a=4\/a=5:=by omega
 rcases this with h|h|h|h|h|h <;> subst h <;> simp
theorem IW{x:Nat->Int}{i n:Int}(h:(bB x i n).2=0) : ∃ a:Nat,a<6/\i=(a:Int)+1/\1<=n/\n<=1125899906842624/\n<=L x a/\C x a+n<=1125899906842624/\may (bB x i n).1=true /\
 (∀ k,k<6->L (bB x i n).1 k=L x k-(if k=a then n else 0))/\sI (bB x i n).1=sI x/\nK (bB x i n).1=nK x+n/\(bB x i n).1=upd x (6+a) (x (6+a)+n):=by
 unfold bB at *
 rcases nQ x n (gH i) (qy x i n) (6+(i.toNat-1))with ⟨_,j,_⟩|⟨⟨hm,h1,j,hr,he,hx⟩,heq⟩
 ·exact L_ h j
 obtain⟨a,l,o,p⟩:=qL hr;rw[p]at heq hx;rw[p];have t:n<=L x a:=by
  unfold qy at he;by_cases g:fJ x i<n
  ·rw[f_ g]at he; cases he
  ·rw[o,nJ hm a l]at g; omega
 obtain⟨e,q,s⟩:=(kI x).1 hm;have u:(bT x n (gH i) (qy x i n) (6+a)).1=upd x (6+a) (x (6+a)+n):=by rw[heq]
 rw[u];have b:=afI x a n;have f : ∀ k,k<6->G (upd x (6+a) (x (6+a)+n)) k=G x k:=fun k d=>gu _ _ _ _ (by omega);have c : ∀ k,k<6->F (upd x (6+a) (x (6+a)+n)) k=F x k:=fun k d=>gu _ _ _ _ (by omega);have g : ∀ k,k<6->L (upd x (6+a) (x (6+a)+n)) k=L x k-(if k=a then n else 0):=by
  intro k d;rw[Ua x (6+a) (by omega),f k d,c k d,b k]; omega
 have m:sI (upd x (6+a) (x (6+a)+n))=sI x:=by unfold sI; rw[f 0 (by omega),f 1 (by omega),f 2 (by omega),f 3 (by omega),f 4 (by omega),f 5 (by omega)]
 refine⟨a,l,o,h1,j,t,hx,?_,g,m,?_,rfl⟩
 ·rw[kI];refine⟨MG e h1 hx (by omega),fun k d => ?_,by rw[m]; exact s⟩;obtain⟨v,w,r⟩:=q k d;refine⟨?_,?_,?_⟩
  ·rw[g k d];split
   ·rename_i hka; subst hka; omega
   omega
  ·rw[c k d,b k]; split <;> omega
  rw[ES x (6+a) (by omega)]; exact r
 unfold nK;rw[c 0 (by omega),c 1 (by omega),c 2 (by omega),c 3 (by omega),c 4 (by omega),c 5 (by omega),b 0,b 1,b 2,b 3,b 4,b 5];have:=six a l n;omega
theorem IX{x:Nat->Int}{i n:Int}(h:(bE x i n).2=0) : ∃ a:Nat,a<6/\i=(a:Int)+1/\1<=n/\n<=1125899906842624/\n<=C x a-F x a/\may (bE x i n).1=true /\
 (∀ k,k<6->L (bE x i n).1 k=L x k+(if k=a then n else 0))/\sI (bE x i n).1=sI x/\nK (bE x i n).1=nK x-n/\(bE x i n).1=upd x (12+a) (x (12+a)+n):=by
 unfold bE at *
 rcases nQ x n (gH i) (qz x i n) (12+(i.toNat-1))with ⟨_,j,_⟩|⟨⟨hm,h1,j,hr,he,hx⟩,heq⟩
 ·exact L_ h j
 obtain⟨a,m,u,l⟩:=qL hr;rw[l]at heq hx;rw[l];have s:n<=C x a-F x a:=by
  unfold qz at he;rw[l]at he;by_cases g:C x a-F x a<n
  ·rw[f_ g]at he; cases he
  ·omega
 obtain⟨e,p,r⟩:=(kI x).1 hm;have t:(bT x n (gH i) (qz x i n) (12+a)).1=upd x (12+a) (x (12+a)+n):=by rw[heq]
 rw[t];have c:=afJ x a n;have f : ∀ k,k<6->G (upd x (12+a) (x (12+a)+n)) k=G x k:=fun k d=>gu _ _ _ _ (by omega);have b : ∀ k,k<6->C (upd x (12+a) (x (12+a)+n)) k=C x k:=fun k d=>gu _ _ _ _ (by omega);have g : ∀ k,k<6->L (upd x (12+a) (x (12+a)+n)) k=L x k+(if k=a then n else 0):=by
  intro k d;rw[Ua x (12+a) (by omega),f k d,c k,b k d]; omega
 have o:sI (upd x (12+a) (x (12+a)+n))=sI x:=by unfold sI; rw[f 0 (by omega),f 1 (by omega),f 2 (by omega),f 3 (by omega),f 4 (by omega),f 5 (by omega)]
 refine⟨a,m,u,h1,j,s,?_,g,o,?_,rfl⟩
 ·rw[kI];refine⟨MG e h1 hx (by omega),fun k d => ?_,by rw[o]; exact r⟩;obtain⟨v,w,q⟩:=p k d;refine⟨?_,?_,?_⟩
  ·rw[g k d]; split <;> omega
  ·rw[c k,b k d];split
   ·rename_i hka; subst hka; omega
   omega
  rw[ES x (12+a) (by omega)]; exact q
 unfold nK;rw[b 0 (by omega),b 1 (by omega),b 2 (by omega),b 3 (by omega),b 4 (by omega),b 5 (by omega),c 0,c 1,c 2,c 3,c 4,c 5];have:=six a m n;omega
end Rt
section
namespace Rt
def dn(f:(Nat->Int)->(Nat->Int) × Int)(idx:Nat->Nat)(R:Nat->Nat->Int):Nat->(Nat->Nat->Int) × Int
 | 0=>(R,0)
 | j+1=>if(dn f idx R j).2=0 then(if(f ((dn f idx R j).1 (idx j))).2=0 then(aH (dn f idx R j).1 (idx j) (f ((dn f idx R j).1 (idx j))).1,0)else((dn f idx R j).1,(f ((dn f idx R j).1 (idx j))).2))else dn f idx R j
section
variable {f:(Nat->Int)->(Nat->Int) × Int} {idx:Nat->Nat} {R Rk:Nat->Nat->Int} {k q:Nat}
theorem ET(h:dn f idx R k=(Rk,0))(e:idx k=q)(a:(f (Rk q)).2=0):dn f idx R (k+1)=(aH Rk q (f (Rk q)).1,0):=by
 unfold dn; rw[h,d_ rfl,e,d_ a]
theorem GN(h:dn f idx R k=(Rk,0))(e:idx k=q)(a : ¬ (f (Rk q)).2=0):(dn f idx R (k+1)).2=(f (Rk q)).2:=by
 unfold dn; rw[h,d_ rfl,e,b_ a]
theorem Af(a : ¬ (dn f idx R k).2=0) : ∀ n,k<=n->dn f idx R n=dn f idx R k
 | 0,h=>by obtain rfl:k=0:=by omega
           rfl
 | n+1,h=>by
   by_cases e:k=n+1
   ·rw[e]
   ·have:=Af a n (by omega);rw[dn,this,b_ a]
end
def lead(P:Nat->Bool):Nat->Nat
 | 0=>0
 | n+1=>if lead P n=n/\P n=true then n+1 else lead P n
theorem IY(P:Nat->Bool) : ∀ n,lead P n<=n
 | 0=>z_ _
 | n+1=>by
   unfold lead; split
   ·exact z_ _
   ·have:=IY P n; omega
theorem Kt{P:Nat->Bool} : ∀ {n:Nat},(∀ i,i<n->P i=true)->lead P n=n
 | 0,_=>rfl
 | n+1,h=>by unfold lead; rw[d_ ⟨Kt fun i a=>h i (by omega),h n (by omega)⟩]
theorem Oi{P:Nat->Bool}{K:Nat}(h1 : ∀ i,i<K->P i=true)(a:P K=false) : ∀ {n:Nat},K<=n->lead P n=K
 | 0,h=>by unfold lead; omega
 | n+1,h=>by
   unfold lead;by_cases e:K=n+1
   ·rw[d_ ⟨Kt fun i d=>h1 i (by omega),h1 n (by omega)⟩]; exact e.symm
   ·rw[Oi h1 a (n:=n) (by omega),b_];rintro ⟨c,b⟩;subst c; rw[a]at b; cases b
def fA(t:Nat->Nat->Int)(tn:Nat)(x:Int):Nat:=lead (fun i=>decide (0<=bC t tn (bF t tn i x))) 1000
theorem uR{t:Nat->Nat->Int}{tn K D:Nat}{x:Int}(h1 : ∀ i,i<K->0<=bC t tn (bF t tn i x))(c:bC t tn (bF t tn K x)<0)(d:bC t tn (bF t tn D x)<0)(e:D<=1000):K=fA t tn x:=by
 have a:K<=1000:=by
  rcases Nat.lt_or_ge D K with h|h
  ·have:=h1 D h; omega
  ·omega
 exact(Oi (fun i b=>f_ (h1 i b)) (g_ (by omega)) a).symm
end Rt
def gy.node(L:gy)(x:Int):Int:=gQ (fun i=>decide (L.id i=x)) L.nn
def gy.grant(L:gy)(o r:Int):Int:=gQ (fun i=>decide (L.g i 0=o)&&decide (L.g i 1=r)) L.gn
def gy.kR(L:gy)(a:Nat)(r:Int):Int:=gQ (fun i=>decide (L.rq a i=r)) (L.rn a)
namespace Rt
def nY(L:gy)(x:Int)(i:Nat):Nat:=(L.node (bF L.t L.tn i x)).toNat
def pU(v:EvM):Nat->Int:=fun j=>if j=0 then v.o else if j=1 then v.req else if j=2 then v.node else if j=3 then v.aS else 0
def EU(v:EvM)(x:Nat->Int):Bool:=decide (v.o<x 0) || (decide (x 0=v.o)&&decide (v.req<x 1))
def aL(v:EvM):Nat:=(v.o-1).toNat
def mQ(L:gy)(v:EvM):(Nat->Nat->Int) × Int:=dn (fun x=>bB x v.o v.aS) (nY L v.node) L.R (fA L.t L.tn v.node)
def iT(L:gy)(v:EvM):Int:=if 0<=L.kR (aL v) v.req then 14 else if fA L.t L.tn v.node=0 then 9 else(mQ L v).2
def qm(L:gy)(a:Nat)(r:Int):gy := { L with rn:=aH L.rn a (L.rn a+1),rq:=aH L.rq a (aH (L.rq a) (L.rn a) r) }
def lQ(L:gy)(v:EvM):gy :=
 qm { L with R:=(mQ L v).1,gn:=L.gn+1,g:=cB L.g (down (fun i=>EU v (L.g i)) L.gn) (pU v) } (aL v) v.req
theorem BX{n q:Nat}{id par:Nat->Int}{R:Nat->Nat->Int}{r:Nat->Int} : ∀ i,i<n -> ∀ j,j<56->Fx.qE (fun a=>lW (id a) (par a) (R a)) q (bI (lW (id q) (par q) (R q)) 2 54 (rv .i64 r)) i j=lW (id i) (par i) (aH R q r i) j:=fun i _ j d=>by
 unfold Fx.qE aH;by_cases h:i=q
 ·subst h;rw[d_ rfl,d_ rfl];unfold bI lW rv;by_cases b:j=0
  ·subst b; rfl
  ·by_cases c:j=1
   ·subst c; rfl
   ·rw[d_ (by omega),b_ b,b_ c]
 ·rw[b_ h,b_ h]
theorem XC{g:Nat->Nat->Int}{k:Nat}{x:Nat->Int}:Fx.Iq (fun a=>jc (g a)) k (jc x)=fun a=>jc (cB g k x a):=by
 funext i
 unfold Fx.Iq cB;by_cases h:i<k
 ·simp only[d_ h]
 by_cases b:i=k
 ·simp only[b_ h,d_ b]
 simp only[b_ h,b_ b]
theorem MH(m:lu)(a:Option Addr)(n c:Nat):dA (mE m) 19 (.slice a n c)=mE { m with s := { m.s with ga:=a,gn:=n,gc:=c } }:=by
 funext p
 unfold dA mE;by_cases h:p=19
 ·subst h; rfl
 rw[b_ h];by_cases e:p<20
 ·rw[d_ e,d_ e]; unfold nL;by_cases b:p<6
  ·rw[d_ b,d_ b]
  by_cases d:p<12
  ·rw[b_ b,d_ d,b_ b,d_ d]
  by_cases f:p<18
  ·rw[b_ b,b_ d,d_ f,b_ b,b_ d,d_ f]
  rw[b_ b,b_ d,b_ f,d_ (by omega),b_ b,b_ d,b_ f,d_ (by omega)]
 rw[b_ e,b_ e]
theorem Ku(m:lu){i q:Nat}(f:q=i+21)(a:Option Addr)(n c:Nat):dA (mE m) q (.slice a n c)=mE { m with ra:=aH m.ra i a,rn:=aH m.rn i n,rc:=aH m.rc i c }:=by
 subst f
 funext p
 unfold dA mE;by_cases h:p=i+21
 ·subst h;rw[d_ rfl,b_ (by omega),b_ (by omega),Nat.add_sub_cancel];simp[aH]
 rw[b_ h];by_cases b:p<20
 ·rw[d_ b,d_ b]
 rw[b_ b,b_ b];by_cases d:p=20
 ·rw[d_ d,d_ d]
 rw[b_ d,b_ d];have e : ¬ p-21=i:=by omega
 simp[aH,e]
theorem vY.app{w w':World}{B a g cap:Nat}{r:Int}{m d:lu}(h:vY w B 6 m)(_ha:a<6)(h1:d.ra=aH m.ra a (some ⟨g,0,none⟩))(l:d.rn=aH m.rn a (m.rn a+1))(t:d.rc=aH m.rc a cap)(u:d.rq=aH m.rq a (aH (m.rq a) (m.rn a) r))
 (z:Fx.Own w' B 28 1 (bO g (m.rn a+1) cap) (m.rn a+1) (rv .u64 (aH (m.rq a) (m.rn a) r))) (A:w.grownBy w' (sJ m a).ownBlock) (C:(sJ m a).ownBlock=some g\/g=w.heap.size):vY w' B 6 d:=by
 have k : ∀ i,i≠a->sJ d i=sJ m i:=fun i c=>by unfold sJ; rw[h1,l,t]; simp[aH,c]
 have n:sJ d a=bO g (m.rn a+1) cap:=by unfold sJ; rw[h1,l,t]; simp[aH]
 have y : ∀ i,i<6->i≠a -> ∀ q,(sJ m i).ownBlock=some q->q≠g:=fun i c D q b e=>by
  subst e
  rcases C with f|f
  ·exact h.2 i a c _ha D q b f
  ·have:=((h.1 i c).ge b).2; omega
 refine⟨fun i c => ?_,fun i j c v p q b => ?_⟩
 ·by_cases e:i=a
  ·subst e; rw[n,l,u]; simp only[aH,if_true]; exact z
  rw[k i e,l,u];simp only[aH,b_ e];refine World.ownsRow.kept (h.1 i c) A ?_;by_cases x:(sJ m i).ownBlock=none
  ·exact .inl x
  right;intro f
  cases b:(sJ m i).ownBlock with
  | none=>exact x b
  | some q=>rw[b]at f; exact h.2 i a c _ha e q b f.symm
 by_cases e:i=a
 ·subst e;rw[n]at b;rw[k j (fun e=>p e.symm)];intro o;exact y j v (fun e=>p e.symm) q o (B_ b).symm
 rw[k i e]at b;by_cases s:j=a
 ·subst s; rw[n]; intro o; exact y i c e q b (B_ o).symm
 rw[k j s]; exact h.2 i j c v p q b
end Rt
end
def Ju(a:World)(l:List (Nat × (Nat->Int)))(w':World):Prop:=(∀ p∈l,w'.heap[p.1]? = some (.cells (aR .i64 54 p.2) 59 (0,0)))/\Below a.heap.size a w'
theorem Ju.up{b w w':World}{l:List (Nat × (Nat->Int))}(h:Ju b l w)(a:Below w.heap.size w w'):Ju b l w':=⟨fun p c=>Ro (h.1 p c) a,Jo h.2 a⟩
instance {a w w':World} {l:List (Nat × (Nat->Int))}:Rt.Tr w w' (Ju a l w) (Ju a l w'):=⟨fun b h=>h.up b⟩
theorem Ju.drew{a w:World}{l:List (Nat × (Nat->Int))}(h:Ju a l w):Ju a l w.drew:=⟨h.1,bN h.2 1⟩
theorem Ju.drop{a w:World}{p:Nat × (Nat->Int)}{l:List (Nat × (Nat->Int))}(h:Ju a (p::l) w):Ju a l w:=⟨fun q b=>h.1 q (by simp[b]),h.2⟩
theorem Ju.row{b w:World}{l:List (Nat × (Nat->Int))}(h:Ju b l w)(g:Nat)(x:Nat->Int)(a:(g,x)∈l):w.heap[g]? = some (.cells (aR .i64 54 x) 59 (0,0)):=h.1 (g,x) a
theorem Ju.add{b w:World}{l:List (Nat × (Nat->Int))}(h:Ju b l w){g:Nat}{x:Nat->Int}(c:w.heap[g]? = some (.cells (aR .i64 54 x) 59 (0,0))):Ju b ((g,x)::l) w :=
 ⟨fun p a=>by
  rcases List.mem_cons.1 a with rfl|a
  ·exact c
  ·exact h.1 p a,h.2⟩
theorem Ju.start(w:World)(x:Nat->Int):Ju w [(w.heap.size,x)] (w.alloc (.cells (aR .i64 54 x) 59)):=⟨fun p a=>by
 obtain rfl:p=(w.heap.size,x):=by simpa using a
 exact heap_alloc_new w _,(Below.refl _ _).alloc (z_ _) _⟩
namespace Rt
def uS(x:Nat->Int)(k:Nat):Nat->Int
 | 0=>G x k-C x k+F x k
 | j+1=>uS x k j+R x j k-R x k j
theorem abT(x:Nat->Int)(k:Nat):uS x k 6=L x k:=by simp only[uS,L]; omega
theorem Oj{x:Nat->Int}(h:PW x)(k:Nat)(d:k<6) : ∀ j:Nat,j<=6 -> -(1125899906842624*((j:Int)+1))<=uS x k j/\uS x k j<=1125899906842624*((j:Int)+2)
 | 0,_=>by
   have a:=h k (by omega); have b:=h (6+k) (by omega); have c:=h (12+k) (by omega);simp only[uS,G,C,F]; omega
 | j+1,hj=>by
   have:=Oj h k d j (by omega);have a:=h (18+j*6+k) (by omega); have b:=h (18+k*6+j) (by omega);simp only[uS,R]; omega
end Rt
theorem mX(n:Int)(w:World) :
 Calls Tryz.prog 113 #[au n] w fun e w'=>e = .returned (.bool (zU n))/\w'=w:=by
 refine Kent Tryz.func113 9 ?_;refine ay<|av aF<|aC<|ay<|av (au n) ?_;by_cases a:0<=n
 ·refine Lv aG (kJ a)<|av aG<|av (au n) ?_;by_cases b:n<=1125899906842624
  ·refine Lv aG (nA b)<|av aG<|av aG<|aC<|Wr<|aJ aG ?_;exact⟨gZ (by simp only[zU]; first|(symm; simp; omega)|(symm; simp; done)),rfl⟩
  refine Lv aF (nU b)<|av aF<|av aF<|aC<|Wr<|aJ aF ?_;exact⟨gZ (by simp only[zU]; first|(symm; simp; omega)|(symm; simp; done)),rfl⟩
 refine Lv aF (jY a)<|av aF<|dD<|dD<|av aF<|av aF<|aC<|Wr<|aJ aF ?_;exact⟨gZ (by simp only[zU]; first|(symm; simp; omega)|(symm; simp; done)),rfl⟩
theorem yN(n:Int)(w:World) :
 Calls Tryz.prog 83 #[au n] w fun e w'=>e = .returned (.bool (gH n))/\w'=w:=by
 refine Kent Tryz.func83 9 ?_;refine ay<|av aF<|aC<|ay<|av (au n) ?_;by_cases a:1<=n
 ·refine Lv aG (kJ a)<|av aG<|av (au n) ?_;by_cases b:n<=6
  ·refine Lv aG (nA b)<|av aG<|av aG<|aC<|Wr<|aJ aG ?_;exact⟨gZ (by simp only[gH]; first|(symm; simp; omega)|(symm; simp; done)),rfl⟩
  refine Lv aF (nU b)<|av aF<|av aF<|aC<|Wr<|aJ aF ?_;exact⟨gZ (by simp only[gH]; first|(symm; simp; omega)|(symm; simp; done)),rfl⟩
 refine Lv aF (jY a)<|av aF<|dD<|dD<|av aF<|av aF<|aC<|Wr<|aJ aF ?_;exact⟨gZ (by simp only[gH]; first|(symm; simp; omega)|(symm; simp; done)),rfl⟩
theorem Rt.P8(x:Nat->Int)(k j:Nat):uS x k (j+1)=uS x k j+x (18+j*6+k)-x (18+k*6+j):=rfl
theorem Rt.P9(x:Nat->Int)(k:Nat):uS x k 0=x k-x (6+k)+x (12+k):=rfl
theorem EW(x:Nat->Int)(k:Nat)(w:World)(E:k<6)(d:PW x) :
 Calls Tryz.prog 84 #[.agg (aA 54 (rv .i64 x)),au ((k:Int)+1)] w fun e w'=>e = .returned (au (L x k))/\Below w.heap.size w w':=by
 have B:uS x k 6=L x k:=abT x k;have A:=fun j=>Oj d k E j;have S:uS x k 0=x k-x (k+6)+x (k+12):=by rw[P9,Nat.add_comm 6 k,Nat.add_comm 12 k]
 have O:=d k (by omega);have P:=d (k+6) (by omega);have Q:=d (k+12) (by omega);refine Kent Tryz.func84 44 ?_;refine ay<|qP fun c l D h H X => ?_;have s:=bG H.old (Below.refl w.heap.size w);have U:=gY D;have W:=h.lt;refine av (au 0)<|aC<|ay<|av (au ((k:Int)+1))<|Lv (au k) fV<|av (au k)<|aC<|Ws ?_;refine xM<|aU (au k)<|aU (pt c)<|Qv (pf c k) (fun b a=>ji 6 1)<|Qv (au (x k)) (fun b a=>aN (h.aI.dr a) k)<|aU (au k)<|aU (pf c 6)<|Qv (pf c (k+6)) (fun b a=>ji 6 1)<|Qv (au (x (k+6))) (fun b a=>aN (h.aI.dr a) (k+6))<|Qv (au ((x k)-(x (k+6)))) (fun b a=>fV)<|aU (au k)<|aU (pf c 12)<|Qv (pf c (k+12)) (fun b a=>ji 6 1)<|Qv (au (x (k+12))) (fun b a=>aN (h.aI.dr a) (k+12))<|Qv (au (((x k)-(x (k+6)))+(x (k+12)))) (fun b a=>fC)<|aU (au (((x k)-(x (k+6)))+(x (k+12))))<|Qn ?_;rintro _ ⟨i,rfl⟩;obtain⟨K,n⟩ : ∃ b,b=World.drewN l i:=⟨_,rfl⟩;rw[<- n];have I:Stp l.heap.size l K:=by rw[n]; exact Sb (jH l i)
 have⟨F,t⟩:=fq I.old h s;clear n;refine sN<|Ws<|ay<|av (au 0)<|aC<|Wb<|Wo (fun f z => ∃ j:Nat,j<=6/\f 2=(pt c)/\f 5=au (k:Int)/\f 6=au (uS x k j)/\f 7=au (j:Int)/\aQ z c 54 (rv .i64 x) 59/\Below w.heap.size w z) (fun f _=>(6-(intOf (f 7)).toNat)) ⟨0,by omega,(by rfl),Fx.ic,Fx.ic,Fx.ic,F,t⟩ ?_;rintro R m ⟨j,V,p,q,y,g,r,u⟩;have T:=A j (by omega);have N:uS x k (j+1)=uS x k j+x (6*j+k+18)-x (j+6*k+18):=by rw[P8,show 18+j*6+k=6*j+k+18 by omega,show 18+k*6+j=j+6*k+18 by omega]
 have s:=d (6*j+k+18);have t:=d (j+6*k+18);refine Ws<|ay<|aX g ?_;by_cases v:(j:Int)<6
 ·refine Lv aG (gW v)<|aC<|aO<|Wk<|sN<|Ws<|Wb ?_;refine xM<|dY y<|dY g<|dY q<|Qv (pf c 18) (fun b a=>iZ p 18)<|Qv (pf c (6*j+18)) (fun b a=>ji 6 6)<|Qv (pf c (6*j+k+18)) (fun b a=>ji 6 1)<|Qv (au (x (6*j+k+18))) (fun b a=>aN (r.aI.dr a) (6*j+k+18))<|Qv (au ((uS x k j)+(x (6*j+k+18)))) (fun b a=>fC)<|dY q<|dY g<|Qv (pf c 18) (fun b a=>iZ p 18)<|Qv (pf c (6*k+18)) (fun b a=>ji 6 6)<|Qv (pf c (j+6*k+18)) (fun b a=>ji 6 1)<|Qv (au (x (j+6*k+18))) (fun b a=>aN (r.aI.dr a) (j+6*k+18))<|Qv (au (((uS x k j)+(x (6*j+k+18)))-(x (j+6*k+18)))) (fun b a=>fV)<|aU (au (((uS x k j)+(x (6*j+k+18)))-(x (j+6*k+18))))<|Qn ?_;rintro _ ⟨i,rfl⟩;obtain⟨M,o⟩ : ∃ b,b=World.drewN m i:=⟨_,rfl⟩;rw[<- o];have J:Stp m.heap.size m M:=by rw[o]; exact Sb (jH m i)
  have⟨G,C⟩:=fq J.old r u;clear o;refine bR<|sN<|Wl<|aX g<|Lv (au ((j:Int)+1)) fC<|av (au ((j:Int)+1))<|Ln<|gV ⟨j+1,by omega,p,(q.trans Fx.ic),Fx.ic,Fx.ic,G,C⟩ ?_;show(6-(intOf (au ((j:Int)+1))).toNat)<_;simp only[g,intOf]; omega
 refine Lv aF (gX v)<|aC<|aK<|Wx<|cK<|gJ<|cO<|sN<|ay<|aX y<|av (au (uS x k j))<|aC<|Wr<|aJ (au (uS x k j)) ?_;exact⟨oV (by rw[<- B]; exact K_ _ (by omega)),u⟩
namespace Rt
def Ub(x:Nat->Int)(i:Nat):Prop:=zU (x i)=true/\zU (x (i+6))=true/\zU (x (i+12))=true/\x (i+12)<=x (i+6)/\x (7*i+18)=0
def EX(x:Nat->Int)(i j:Nat):Prop := ∀ q,q<j->zU (x (6*i+q+18))=true
def Kv(x:Nat->Int)(i:Nat):Prop := ∀ k,k<i->Ub x k/\EX x k 6
def zn(x:Nat->Int):Nat->Int
 | 0=>0
 | i+1=>zn x i+x i
theorem Qa(x:Nat->Int):Kv x 0:=fun _ h=>L_ h (by omega)
theorem MI(x:Nat->Int)(i:Nat):EX x i 0:=fun _ h=>L_ h (by omega)
theorem MJ{x:Nat->Int}{i j:Nat}(h:EX x i j)(a:zU (x (6*i+j+18))=true):EX x i (j+1):=fun q b=>by
 by_cases e:q=j
 ·subst e; exact a
 ·exact h q (by omega)
theorem Qb{x:Nat->Int}{i:Nat}(h:Kv x i)(hr:Ub x i)(a:EX x i 6):Kv x (i+1):=fun k b=>by
 by_cases e:k=i
 ·subst e; exact⟨hr,a⟩
 ·exact h k (by omega)
theorem Kw{x:Nat->Int}(h:Kv x 6):PW x:=fun p d=>by
 by_cases a:p<6
 ·exact zW (h p a).1.1
 ·by_cases b:p<12
  ·have:=zW (h (p-6) (by omega)).1.2.1; rwa [show p-6+6=p by omega]at this
  ·by_cases c:p<18
   ·have:=zW (h (p-12) (by omega)).1.2.2.1; rwa [show p-12+12=p by omega]at this
   ·have:=zW ((h ((p-18) / 6) (by omega)).2 ((p-18) % 6) (by omega)); rwa [show 6*((p-18) / 6)+(p-18) % 6+18=p by omega]at this
theorem Ol{x:Nat->Int} : ∀ {i:Nat},Kv x i->0<=zn x i/\zn x i<=1125899906842624*(i:Int)
 | 0,_=>by simp[zn]
 | i+1,h=>by
   have a:=Ol (i:=i) (fun k c=>h k (by omega));have b:=zW (h i (by omega)).1.1;simp only[zn]; omega
theorem IZ{x:Nat->Int}{p:Nat}(a:p<54)(h:zU (x p)=false):may x=false:=by
 cases hm:may x
 ·rfl
 have:=(kI x).1 hm |>.1 p a;unfold zU at h; simp at h; omega
theorem afL{x:Nat->Int}{i:Nat}(hi:i<6)(h:x (i+6)<x (i+12)):may x=false:=by
 cases hm:may x
 ·rfl
 have:=((kI x).1 hm |>.2.1 i hi).2.1;unfold F C at this; rw[Nat.add_comm 12 i,Nat.add_comm 6 i]at this; omega
theorem afM{x:Nat->Int}{i:Nat}(hi:i<6)(h : ¬ x (7*i+18)=0):may x=false:=by
 cases hm:may x
 ·rfl
 have:=((kI x).1 hm |>.2.1 i hi).2.2;unfold R at this; rw[show 18+i*6+i=7*i+18 by omega]at this; exact L_ this h
theorem abU{x:Nat->Int}{i:Nat}(hi:i<6)(h:L x i<0):may x=false:=by
 cases hm:may x
 ·rfl
 have:=((kI x).1 hm |>.2.1 i hi).1;omega
theorem Uc{x:Nat->Int}{m:Nat}(h : ∀ k,k<m->0<=L x k)(a:0<=L x m) : ∀ k,k<m+1->0<=L x k:=fun k b=>by
 by_cases e:k=m
 ·rw[e]; exact a
 ·exact h k (by omega)
theorem Om{x:Nat->Int}(ha:Kv x 6)(b : ∀ k,k<6->0<=L x k):may x=decide (zn x 6<=1125899906842624):=by
 have c:zn x 6=sI x:=by simp only[zn,sI,G]; omega
 rw[c,Bool.eq_iff_iff,kI,O_];refine⟨fun h=>h.2.2,fun h=>⟨Kw ha,fun k a=>⟨b k a,?_,?_⟩,h⟩⟩
 ·have:=(ha k a).1.2.2.2.1; unfold F C; rwa [Nat.add_comm 12 k,Nat.add_comm 6 k]
 have:=(ha k a).1.2.2.2.2; unfold R; rwa [show 18+k*6+k=7*k+18 by omega]
end Rt
set_option maxRecDepth 10000 in
set_option maxHeartbeats 1000000 in
theorem Ud(x:Nat->Int)(w:World) :
 Calls Tryz.prog 82 #[.agg (aA 54 (rv .i64 x))] w fun e w'=>e = .returned (.bool (may x))/\Below w.heap.size w w':=by
 refine Kent Tryz.func82 81 ?_;refine ay<|qP fun c w1 lK m1 s1 z1 => ?_;have b1:=bG s1.old (Below.refl w.heap.size w);have uh:=gY lK;have vS:=m1.lt;refine av aF<|aC<|ay<|av (au 0)<|aC<|Ws<|ay<|av (au 0)<|aC<|Wb<|Wo (fun f q => ∃ i:Nat,i<=6/\Kv x i/\f 1=(pt c)/\f 3=au (zn x i)/\f 4=au (i:Int)/\aQ q c 54 (rv .i64 x) 59/\Below w.heap.size w q) (fun f _=>(6-(intOf (f 4)).toNat)) ⟨0,by omega,Qa x,(by rfl),Fx.ic,Fx.ic,m1,b1⟩ ?_;rintro f1 d ⟨i,hi,B,n,h2,l,o,r⟩;have hG:=Ol B;have HG:zn x (i+1)=zn x i+x i:=rfl;refine Ws<|ay<|aX l ?_;by_cases Z:(i:Int)<6
 ·refine Lv aG (gW Z)<|aC<|aO<|Wk<|sN<|Ws<|Wb<|Ws<|Ws ?_;refine xM<|dY l<|Qv (pt c) (fun a b=>iZ n 0)<|Qv (pf c i) (fun a b=>ji 6 1)<|Qv (au (x i)) (fun a b=>aN (o.aI.dr b) i) ?_;by_cases s:(zU (x i))=true
  ·refine pO (fun _ _=>mX (x i) _) aG (by rw[s])<|aU aF<|aU aF<|dY l<|Qv (pf c 6) (fun a b=>iZ n 6)<|Qv (pf c (i+6)) (fun a b=>ji 6 1)<|Qv (au (x (i+6))) (fun a b=>aN (o.aI.dr b) (i+6)) ?_;by_cases v:(zU (x (i+6)))=true
   ·refine pO (fun _ _=>mX (x (i+6)) _) aG (by rw[v])<|aU aF<|aU aF<|aU aF<|dY l<|Qv (pf c 12) (fun a b=>iZ n 12)<|Qv (pf c (i+12)) (fun a b=>ji 6 1)<|Qv (au (x (i+12))) (fun a b=>aN (o.aI.dr b) (i+12)) ?_;by_cases y:(zU (x (i+12)))=true
    ·refine pO (fun _ _=>mX (x (i+12)) _) aG (by rw[y])<|aU aF<|aU aF<|aU aF<|dY l<|Qv (pf c 12) (fun a b=>iZ n 12)<|Qv (pf c (i+12)) (fun a b=>ji 6 1)<|Qv (au (x (i+12))) (fun a b=>aN (o.aI.dr b) (i+12))<|dY l<|Qv (pf c 6) (fun a b=>iZ n 6)<|Qv (pf c (i+6)) (fun a b=>ji 6 1)<|Qv (au (x (i+6))) (fun a b=>aN (o.aI.dr b) (i+6)) ?_;by_cases H:(x (i+6))<(x (i+12))
     ·refine Qv aG (fun a b=>mI H)<|aU aG<|aU aG<|aP<|aP<|aP<|aP<|aP<|aP<|aP<|aU aG<|Qn ?_;rintro _ ⟨g,rfl⟩;obtain⟨CY,K⟩ : ∃ a,a=World.drewN d g:=⟨_,rfl⟩;rw[<- K];have s2:Stp d.heap.size d CY:=(by rw[K]; exact Sb (jH d g));have b3:=bG s2.old r;clear K;refine sN (aO (ay (av aF (aC (Wr (sR (bL (sR (pV (bL (sR (aJ aF (⟨gZ (Eq.symm ?_),b3⟩)))))))))))));exact afL (i:=i) (by omega) H
     refine Qv aF (fun a b=>mJ H)<|aU aF<|aU aF<|dY l<|dY l<|Qv (pf c 18) (fun a b=>iZ n 18)<|Qv (pf c (6*i+18)) (fun a b=>ji 6 6)<|Qv (pf c (7*i+18)) (fun a b=>ji 6 1)<|Qv (au (x (7*i+18))) (fun a b=>aN (o.aI.dr b) (7*i+18)) ?_;by_cases C:(x (7*i+18))=0
     ·refine Qv aF (fun a b=>jM C)<|aU aF<|Qn ?_;rintro _ ⟨g,rfl⟩;obtain⟨wq2,M⟩ : ∃ a,a=World.drewN d g:=⟨_,rfl⟩;rw[<- M];have s3:Stp d.heap.size d wq2:=(by rw[M]; exact Sb (jH d g));have⟨m4,b4⟩:=fq s3.old o r;clear M;refine sN<|aK<|Wk<|sN<|Ws ?_;have hR:Ub x i:=⟨s,v,y,by omega,C⟩;have b15:=zW s;refine Wl<|aX h2<|aX l<|Lv (pt c) (iZ n 0)<|Lv (pf c i) (ji 6 1)<|Lv (au (x i)) (aN m4.aI i)<|Lv (au ((zn x i)+(x i))) fC<|av (au ((zn x i)+(x i)))<|aC<|ay<|av (au 0)<|aC<|Wb<|Wo (fun f q => ∃ j:Nat,j<=6/\EX x i j/\f 1=(pt c)/\f 3=au (zn x (i+1))/\f 4=au (i:Int)/\f 5=au (j:Int)/\aQ q c 54 (rv .i64 x) 59/\Below w.heap.size w q) (fun f _=>(6-(intOf (f 5)).toNat)) ⟨0,by omega,MI x i,n,Fx.ic,(l.trans Fx.ic),Fx.ic,m4,b4⟩ ?_;rintro f2 w3 ⟨j,hj,T,R,h5,S,E,U,G⟩;refine Ws<|ay<|aX E ?_;by_cases X:(j:Int)<6
      ·refine Lv aG (gW X)<|aC<|aO<|Wk<|sN<|Ws<|Wb<|ay<|aX S<|aX E<|Lv (pf c 18) (iZ R 18)<|Lv (pf c (6*i+18)) (ji 6 6)<|Lv (pf c (6*i+j+18)) (ji 6 1)<|Lv (au (x (6*i+j+18))) (aN U.aI (6*i+j+18)) ?_;by_cases z:(zU (x (6*i+j+18)))=true
       ·refine lY (mX (x (6*i+j+18)) _) aG (by rw[z])<|av aF<|aC<|aK<|Wk<|bR<|sN<|Wl<|aX E<|Lv (au ((j:Int)+1)) fC<|av (au ((j:Int)+1))<|Ln<|gV ⟨j+1,by omega,MJ T z,R,(h5.trans Fx.ic),(S.trans Fx.ic),Fx.ic,U,G⟩ ?_;show(6-(intOf (au ((j:Int)+1))).toNat)<_;simp only[E,intOf]; omega
       rw[S_]at z;refine lY (mX (x (6*i+j+18)) _) aF (by rw[z]) (av aG (aC (aO (ay (av aF (aC (Wr (bL (sR (pV (bL (bL (sR (pV (bL (sR (aJ aF (⟨gZ (Eq.symm ?_),G⟩))))))))))))))))));exact IZ (p:=6*i+j+18) (by omega) z
      refine Lv aF (gX X)<|aC<|aK<|Wx<|cK<|gJ<|cO<|bR<|sN<|Wl<|aX S<|Lv (au ((i:Int)+1)) fC<|av (au ((i:Int)+1))<|Ln ?_;have A:j=6:=(by omega);have hT6:EX x i 6:=(by rw[A]at T; exact T);refine gV ⟨i+1,by omega,Qb B hR hT6,R,(h5.trans Fx.ic),Fx.ic,U,G⟩ ?_;show(6-(intOf (au ((i:Int)+1))).toNat)<_;simp only[l,intOf]; omega
     refine Qv aG (fun a b=>nC C)<|aU aG<|Qn ?_;rintro _ ⟨g,rfl⟩;obtain⟨Qc,N⟩ : ∃ a,a=World.drewN d g:=⟨_,rfl⟩;rw[<- N];have s4:Stp d.heap.size d Qc:=(by rw[N]; exact Sb (jH d g));have b6:=bG s4.old r;clear N;refine sN (aO (ay (av aF (aC (Wr (sR (bL (sR (pV (bL (sR (aJ aF (⟨gZ (Eq.symm ?_),b6⟩)))))))))))));exact afM (i:=i) (by omega) C
    rw[S_]at y;refine pO (fun _ _=>mX (x (i+12)) _) aF (by rw[y])<|aU aG<|aU aG<|aU aG<|aP<|aP<|aP<|aP<|aP<|aP<|aP<|aP<|aP<|aU aG<|aU aG<|aP<|aP<|aP<|aP<|aP<|aP<|aP<|aU aG<|Qn ?_;rintro _ ⟨g,rfl⟩;obtain⟨wq4,O⟩ : ∃ a,a=World.drewN d g:=⟨_,rfl⟩;rw[<- O];have s5:Stp d.heap.size d wq4:=(by rw[O]; exact Sb (jH d g));have b7:=bG s5.old r;clear O;refine sN (aO (ay (av aF (aC (Wr (sR (bL (sR (pV (bL (sR (aJ aF (⟨gZ (Eq.symm ?_),b7⟩)))))))))))));exact IZ (p:=i+12) (by omega) y
   rw[S_]at v;refine pO (fun _ _=>mX (x (i+6)) _) aF (by rw[v])<|aU aG<|aU aG<|aU aG<|aP<|aP<|aP<|aP<|aP<|aP<|aU aG<|aU aG<|aP<|aP<|aP<|aP<|aP<|aP<|aP<|aP<|aP<|aU aG<|aU aG<|aP<|aP ?_;refine aP<|aP<|aP<|aP<|aP<|aU aG<|Qn ?_;rintro _ ⟨g,rfl⟩;obtain⟨wq5,P⟩ : ∃ a,a=World.drewN d g:=⟨_,rfl⟩;rw[<- P];have s6:Stp d.heap.size d wq5:=(by rw[P]; exact Sb (jH d g));have b8:=bG s6.old r;clear P;refine sN (aO (ay (av aF (aC (Wr (sR (bL (sR (pV (bL (sR (aJ aF (⟨gZ (Eq.symm ?_),b8⟩)))))))))))));exact IZ (p:=i+6) (by omega) v
  rw[S_]at s;refine pO (fun _ _=>mX (x i) _) aF (by rw[s])<|aU aG<|aU aG<|aP<|aP<|aP<|aP<|aP<|aP<|aU aG<|aU aG<|aP<|aP<|aP<|aP<|aP<|aP<|aU aG<|aU aG<|aP<|aP<|aP<|aP<|aP<|aP ?_;refine aP<|aP<|aP<|aU aG<|aU aG<|aP<|aP<|aP<|aP<|aP<|aP<|aP<|aU aG<|Qn ?_;rintro _ ⟨g,rfl⟩;obtain⟨wq6,Q⟩ : ∃ a,a=World.drewN d g:=⟨_,rfl⟩;rw[<- Q];have s7:Stp d.heap.size d wq6:=by rw[Q]; exact Sb (jH d g)
  have b9:=bG s7.old r;clear Q;refine sN (aO (ay (av aF (aC (Wr (sR (bL (sR (pV (bL (sR (aJ aF (⟨gZ (Eq.symm ?_),b9⟩)))))))))))));exact IZ (p:=i) (by omega) s
 refine Lv aF (gX Z)<|aC<|aK<|Wx<|cK<|gJ<|cO<|sN<|Ws<|ay<|av (au 1)<|aC<|Wb ?_;have A:i=6:=by omega
 rw[A]at B;have HE:=Kw B;have V:Kv x 6:=B;refine Wo (fun f q => ∃ m:Nat,m<=6/\(∀ k,k<m->0<=L x k)/\f 1=(pt c)/\f 3=au (zn x i)/\f 6=au ((m:Int)+1)/\aQ q c 54 (rv .i64 x) 59/\Below w.heap.size w q) (fun f _=>(7-(intOf (f 6)).toNat)) ⟨0,by omega,(fun _ h=>L_ h (by omega)),n,(h2.trans Fx.ic),Fx.ic,o,r⟩ ?_;rintro f3 w4 ⟨m,hm,u,h8,h9,D,m10,F⟩;refine Ws<|ay<|aX D ?_;by_cases Y:((m:Int)+1)<=6
 ·refine Lv aG (nA Y)<|aC<|aO<|Wk<|sN<|Ws<|Wb<|ay<|Lv (.agg (aA 54 (rv .i64 x))) (fI m10.aI 0 (ha:=h8))<|aX D<|dL (EW x m _ (by omega) HE) _ rfl ?_;intro w5 hb1;have⟨m11,W⟩:=fq hb1 m10 F;by_cases I:(L x m)<0
  ·refine Lv aG (gW I) (aC (aO (ay (av aF (aC (Wr (bL (sR (pV (bL (sR (aJ aF (⟨gZ (Eq.symm ?_),W⟩)))))))))))));exact abU (i:=m) (by omega) I
  refine Lv aF (gX I)<|aC<|aK<|Wk<|bR<|sN<|Wl<|aX D<|Lv (au ((m:Int)+2)) fC<|av (au ((m:Int)+2))<|Ln<|gV ⟨m+1,by omega,Uc u (by omega),h8,(h9.trans Fx.ic),Fx.ic,m11,W⟩ ?_;show(7-(intOf (au ((m:Int)+2))).toNat)<_;simp only[D,intOf]; omega
 refine Lv aF (nU Y)<|aC<|aK<|Wx<|cK<|gJ<|cO<|sN<|ay<|aX h9 ?_;by_cases t:(zn x i)<=1125899906842624
 ·refine Lv aG (nA t) (av aG (aC (Wr (aJ aG (⟨gZ (Eq.symm ?_),F⟩)))));have J:m=6:=by omega
  rw[J]at u;rw[A]at t;rw[Om V u]; exact f_ t
 refine Lv aF (nU t) (av aF (aC (Wr (aJ aF (⟨gZ (Eq.symm ?_),F⟩)))));have J:m=6:=by omega
 rw[J]at u;rw[A]at t;rw[Om V u]; exact g_ t
namespace Rt
def eB(x:Nat->Int)(i n:Int):Int:=if may x&&decide (1<=n)&&decide (n<=1125899906842624)then(if gH i then 0 else 10)else 1
end Rt
theorem EY(x:Nat->Int)(i n:Int)(w:World) :
 Calls Tryz.prog 112 #[.agg (aA 54 (rv .i64 x)),au i,au n] w fun e w'=>e = .returned (au (eB x i n))/\Below w.heap.size w w':=by
 refine Kent Tryz.func112 21 ?_;refine ay<|qP fun p s k h o v => ?_;have d:=bG o.old (Below.refl w.heap.size w);have q:=gY k;have r:=h.lt;refine av (au 0)<|aC<|Ws<|ay<|Lv (.agg (aA 54 (rv .i64 x))) (fI h.aI 0) ?_;by_cases a:(may x)=true
 ·refine dL (Ud x _) aG (by rw[a]) ?_;intro t l;have c:=bG l d;refine av aF<|av aF<|av (au n) ?_;by_cases f:n<1
  ·refine Lv aG (gW f) (av aG (av aG (dD (dD (av aG (aC (aO (ay (av (au 1) (aC (Wr (sR (aJ (au 1) (⟨oV ?_,c⟩))))))))))))));unfold eB; rw[a,g_ (show ¬ 1<=n by omega)]; simp
  refine Lv aF (gX f)<|av aF<|av aF<|av (au n) ?_;by_cases g:1125899906842624<n
  ·refine Lv aG (mI g) (av aG (aC (aO (ay (av (au 1) (aC (Wr (sR (aJ (au 1) (⟨oV ?_,c⟩))))))))));unfold eB; rw[a,f_ (show 1<=n by omega),g_ (show ¬ n<=1125899906842624 by omega)]; simp
  refine Lv aF (mJ g)<|av aF<|aC<|aK<|Wk<|sN<|Ws<|ay<|av (au i) ?_;by_cases b:(gH i)=true
  ·refine lY (yN i _) aG (by rw[b]) (av aF (aC (aK (Wk (sN (ay (av (au 0) (aC (Wr (aJ (au 0) (⟨oV ?_,c⟩)))))))))));unfold eB; rw[a,f_ (show 1<=n by omega),f_ (show n<=1125899906842624 by omega),b]; simp
  rw[S_]at b;refine lY (yN i _) aF (by rw[b]) (av aG (aC (aO (ay (av (au 10) (aC (Wr (sR (aJ (au 10) (⟨oV ?_,c⟩))))))))));unfold eB; rw[a,f_ (show 1<=n by omega),f_ (show n<=1125899906842624 by omega),b]; simp
 rw[S_]at a;refine dL (Ud x _) aF (by rw[a]) ?_;intro u m;have j:=bG m d;refine av aG (av aG (dD (dD (av aG (av aG (dD (dD (av aG (aC (aO (ay (av (au 1) (aC (Wr (sR (aJ (au 1) (⟨oV ?_,j⟩)))))))))))))))));unfold eB; rw[a]; simp
namespace Rt
theorem EZ{x:Nat->Int}{i n:Int}(h:eB x i n=0):may x=true/\1<=n/\n<=1125899906842624/\gH i=true:=by
 unfold eB at h;by_cases a:may x=true
 ·by_cases b:1<=n
  ·by_cases c:n<=1125899906842624
   ·rw[a,f_ b,f_ c]at h
    cases h4:gH i
    ·rw[h4]at h; simp at h
    exact⟨a,b,c,rfl⟩
   rw[g_ c]at h; simp at h
  rw[g_ b]at h; simp at h
 rw[show may x=false by simpa using a]at h; simp at h
theorem Ky{x:Nat->Int}{i n b:Int}{off:Nat}(h : ¬ eB x i n=0):bT x n (gH i) b off=(zero,eB x i n):=by
 unfold eB at *;unfold bT;by_cases a:(may x&&decide (1<=n)&&decide (n<=1125899906842624))=true
 ·simp only[d_ a]at *
  cases h4:gH i
  ·simp
  simp[h4]at h
 simp only[b_ a]at *
theorem BZ{x:Nat->Int}{n a:Int}{is:Bool}{off:Nat}(h1:may x=true)(b:1<=n)(c:n<=1125899906842624)(d:is=true) :
 bT x n is a off=if a=0 then(if x off+n<=1125899906842624 then(upd x off (x off+n),0)else(zero,6))else(zero,a):=by
 unfold bT; rw[h1,f_ b,f_ c,d]; simp
theorem Ag{x:Nat->Int}{n a:Int}{is:Bool}{off:Nat}(h1:may x=true)(b:1<=n)(c:n<=1125899906842624)(d:is=true)(e:a=0)(f:x off+n<=1125899906842624):bT x n is a off=(upd x off (x off+n),0):=by
 rw[BZ h1 b c d,d_ e,d_ f]
theorem C9{x:Nat->Int}{n a:Int}{is:Bool}{off:Nat}(h1:may x=true)(b:1<=n)(c:n<=1125899906842624)(d:is=true)(e:a=0)(f : ¬ x off+n<=1125899906842624):bT x n is a off=(zero,6):=by
 rw[BZ h1 b c d,d_ e,b_ f]
theorem wB{x:Nat->Int}{n a e:Int}{is:Bool}{off:Nat}(h1:may x=true)(b:1<=n)(c:n<=1125899906842624)(d:is=true)(f:a=e)(g:e≠0):bT x n is a off=(zero,e):=by
 rw[BZ h1 b c d,f,b_ g]
theorem Qe{x:Nat->Int}{n a:Int}{off:Nat}(h1:may x=true)(b:1<=n)(c:n<=1125899906842624):bT x n false a off=(zero,10):=by
 unfold bT; rw[h1,f_ b,f_ c]; simp
theorem pl(k:Nat):((k:Int)+1).toNat-1=k:=by omega
theorem Qf{x:Nat->Int}{i j n:Int}(h : ¬ eB x i n=0):cZ x i j n=(zero,eB x i n):=by
 unfold cZ;unfold eB at *;unfold bT;by_cases a:(may x&&decide (1<=n)&&decide (n<=1125899906842624))=true
 ·simp only[d_ a]at *
  cases h4:gH i
  ·simp
  simp[h4]at h
 simp only[b_ a]at *
theorem Kz(k q:Nat):kP ((k:Int)+1) ((q:Int)+1)=6*k+q+18:=by unfold kP; omega
theorem Ue{x:Nat->Int}{k:Nat}(a:may x=true)(b:k<6):x (k+6)<=1125899906842624:=(mD a (k+6) (by omega)).2
end Rt
set_option maxRecDepth 10000 in
theorem XD(x:Nat->Int)(i n:Int)(w:World) :
 Calls Tryz.prog 109 #[.agg (aA 54 (rv .i64 x)),au i,au n] w fun e w'=>e = .returned (.tuple #[.agg (aA 54 (rv .i64 (bB x i n).1)),au (bB x i n).2])/\Below w.heap.size w w':=by
 refine Kent Tryz.func109 42 ?_;refine ay<|qP fun b w1 Q p s1 z1 => ?_;have u:=bG s1.old (Below.refl w.heap.size w);have uh:=gY Q;have vS:=p.lt;refine wL 54 (rv .i64 (fun _=>0)) fun l w2 z B s2 z2 => ?_;have⟨C,K⟩:=fq s2.old p u;have su:=jI z u.size;have Ka:=cu z p.lt;have AL:=B.lt;refine av (au 0)<|aC<|ay<|Lv (.agg (aA 54 (rv .i64 x))) (fI C.aI 0)<|av (au i)<|av (au n)<|dL (EY x i n _) _ rfl ?_;intro w3 S;have⟨q,D,m⟩:=jZ S C B K;refine av (au (eB x i n))<|aC<|Ws<|ay<|av (au (eB x i n)) ?_;by_cases j:(eB x i n)=0
 ·refine Lv aF (jM j)<|aC<|aK<|Wk<|sN<|Ws<|Ws ?_;obtain⟨a,s,t,h⟩:=EZ j;have J:=mD a;obtain⟨k,o,R,_⟩:=qL h;subst R;refine Wl<|av (au n)<|Lv (.agg (aA 54 (rv .i64 x))) (fI q.aI 0)<|av (au ((k:Int)+1))<|dL (EW x k _ (by omega) (mD a)) _ rfl ?_;intro w4 T;have⟨g,r,d⟩:=jZ T q D m;by_cases f:(L x k)<n
  ·refine Lv aG (mI f)<|aC<|aO<|ay<|av (.agg (aA 54 (rv .i64 (fun _=>0))))<|fD r 0 fun w5 m8 E z3 => ?_;have m9:aQ w5 l 54 (rv .i64 (fun _=>0)) 59:=aT m8;have m10:=g.bZ E (by omega);have M:=E.below d d.size (by omega);refine av (au 11) (aC (Wr (sR (⟨.tuple #[.agg (aA 54 (rv .i64 (fun _=>0))),au 11],gP Tryz.results109 ⟨_,rfl,aW m9.aI (by kernel_rfl) (by kernel_rfl)⟩ (by exact rfl),?_⟩))));refine⟨?_,M⟩;have c:bB x ((k:Int)+1) n=(zero,11):=by
    unfold bB qy;rw[nJ a k o,f_ f];exact wB a s t h rfl (by decide)
   rw[c]
   all_goals rfl
  refine Lv aF (mJ f)<|aC<|aK<|Wk<|sN<|Ws<|Ws ?_;have q1:=J (k+6);refine Wl<|av (au ((k:Int)+1))<|Lv (au k) fV<|av (pf b 6)<|Lv (pf b (k+6)) (ji 6 1)<|Lv (au (x (k+6))) (aN g.aI (k+6))<|av (au n)<|Lv (au ((x (k+6))+n)) fC ?_;by_cases y:1125899906842624<((x (k+6))+n)
  ·refine Lv aG (mI y)<|aC<|aO<|ay<|av (.agg (aA 54 (rv .i64 (fun _=>0))))<|fD r 0 fun w6 U F z4 => ?_;have V:aQ w6 l 54 (rv .i64 (fun _=>0)) 59:=aT U;have m13:=g.bZ F (by omega);have N:=F.below d d.size (by omega);refine av (au 6) (aC (Wr (sR (⟨.tuple #[.agg (aA 54 (rv .i64 (fun _=>0))),au 6],gP Tryz.results109 ⟨_,rfl,aW V.aI (by kernel_rfl) (by kernel_rfl)⟩ (by exact rfl),?_⟩))));refine⟨?_,N⟩;have c:bB x ((k:Int)+1) n=(zero,6):=by
    unfold bB qy;rw[nJ a k o,g_ f,pl,Nat.add_comm 6 k];exact C9 a s t h rfl (by omega)
   rw[c]
   all_goals rfl
  refine Lv aF (mJ y)<|aC<|aK<|Wk<|sN<|ay<|av (au ((k:Int)+1))<|Lv (au k) fV<|av (pf b 6)<|Lv (pf b (k+6)) (ji 6 1)<|Lv (au (x (k+6))) (aN g.aI (k+6))<|av (au n)<|Lv (au ((x (k+6))+n)) fC<|av (pf b 6)<|Lv (pf b (k+6)) (ji 6 1)<|iM g (k+6) (au ((x (k+6))+n)) fun w7 W G z5 => ?_;have A:aQ w7 b 54 (rv .i64 (upd x (k+6) ((x (k+6))+n))) 59:=W.to (Fx.yx _ _ _ _);have X:=r.bZ G (by omega);have v:=G.below d d.size (by omega);refine aC<|ay<|Lv (.agg (aA 54 (rv .i64 (upd x (k+6) ((x (k+6))+n))))) (fI A.aI 0)<|fD X 0 fun w8 Y H z6 => ?_;have Z:aQ w8 l 54 (rv .i64 (upd x (k+6) ((x (k+6))+n))) 59:=aT Y;have m19:=A.bZ H (by omega);have O:=H.below v v.size (by omega);refine av (au 0) (aC (Wr (⟨.tuple #[.agg (aA 54 (rv .i64 (upd x (k+6) ((x (k+6))+n)))),au 0],gP Tryz.results109 ⟨_,rfl,aW Z.aI (by kernel_rfl) (by kernel_rfl)⟩ (by exact rfl),?_⟩)));refine⟨?_,O⟩;have c:bB x ((k:Int)+1) n=(upd x (k+6) (x (k+6)+n),0):=by
   unfold bB qy;rw[nJ a k o,g_ f,pl,Nat.add_comm 6 k];exact Ag a s t h rfl (by omega)
  rw[c]
  all_goals rfl
 refine Lv aG (nC j)<|aC<|aO<|ay<|av (.agg (aA 54 (rv .i64 (fun _=>0))))<|av (au (eB x i n))<|fD D 0 fun w9 aa I z7 => ?_;have ab:aQ w9 l 54 (rv .i64 (fun _=>0)) 59:=aT aa;have m22:=q.bZ I (by omega);have P:=I.below m m.size (by omega);refine av (au (eB x i n)) (aC (Wr (sR (⟨.tuple #[.agg (aA 54 (rv .i64 (fun _=>0))),au (eB x i n)],gP Tryz.results109 ⟨_,rfl,aW ab.aI (by kernel_rfl) (by kernel_rfl)⟩ (by exact rfl),?_⟩))));refine⟨?_,P⟩;have c:bB x i n=(zero,eB x i n):=by
  exact Ky j
 rw[c]
 all_goals rfl
set_option maxRecDepth 10000 in
theorem XE(x:Nat->Int)(i n:Int)(w:World) :
 Calls Tryz.prog 111 #[.agg (aA 54 (rv .i64 x)),au i,au n] w fun e w'=>e = .returned (.tuple #[.agg (aA 54 (rv .i64 (bE x i n).1)),au (bE x i n).2])/\Below w.heap.size w w':=by
 refine Kent Tryz.func111 41 ?_;refine ay<|qP fun c w1 T t s1 z1 => ?_;have y:=bG s1.old (Below.refl w.heap.size w);have uh:=gY T;have vS:=t.lt;refine wL 54 (rv .i64 (fun _=>0)) fun s w2 D H s2 z2 => ?_;have⟨I,P⟩:=fq s2.old t y;have su:=jI D y.size;have Ka:=cu D t.lt;have AL:=H.lt;refine av (au 0)<|aC<|ay<|Lv (.agg (aA 54 (rv .i64 x))) (fI I.aI 0)<|av (au i)<|av (au n)<|dL (EY x i n _) _ rfl ?_;intro d V;have⟨g,u,l⟩:=jZ V I H P;refine av (au (eB x i n))<|aC<|Ws<|ay<|av (au (eB x i n)) ?_;by_cases m:(eB x i n)=0
 ·refine Lv aF (jM m)<|aC<|aK<|Wk<|sN<|Ws<|Ws ?_;obtain⟨j,J,K,p⟩:=EZ m;have v:=mD j;obtain⟨k,W,U,_⟩:=qL p;subst U;have q1:=v (k+6);have q2:=v (k+12);refine xM<|aU (au n)<|aU (au ((k:Int)+1))<|Qv (au k) (fun a b=>fV)<|aU (pf c 6)<|Qv (pf c (k+6)) (fun a b=>ji 6 1)<|Qv (au (x (k+6))) (fun a b=>aN (g.aI.dr b) (k+6))<|aU (au ((k:Int)+1))<|Qv (au k) (fun a b=>fV)<|aU (pf c 12)<|Qv (pf c (k+12)) (fun a b=>ji 6 1)<|Qv (au (x (k+12))) (fun a b=>aN (g.aI.dr b) (k+12))<|Qv (au ((x (k+6))-(x (k+12)))) (fun a b=>fV) ?_;by_cases o:((x (k+6))-(x (k+12)))<n
  ·refine Qv aG (fun a b=>mI o)<|Qn ?_;rintro _ ⟨h,rfl⟩;obtain⟨CY,q⟩ : ∃ a,a=World.drewN d h:=⟨_,rfl⟩;rw[<- q];have s4:Stp d.heap.size d CY:=(by rw[q]; exact Sb (jH d h));have⟨m6,m7,z⟩:=jZ s4.old g u l;clear q;refine sN<|aO<|ay<|av (.agg (aA 54 (rv .i64 (fun _=>0))))<|fD m7 0 fun w4 m8 L z3 => ?_;have m9:aQ w4 s 54 (rv .i64 (fun _=>0)) 59:=aT m8;have m10:=m6.bZ L (by omega);have Q:=L.below z z.size (by omega);refine av (au 12) (aC (Wr (sR (⟨.tuple #[.agg (aA 54 (rv .i64 (fun _=>0))),au 12],gP Tryz.results111 ⟨_,rfl,aW m9.aI (by kernel_rfl) (by kernel_rfl)⟩ (by exact rfl),?_⟩))));refine⟨?_,Q⟩;have f:bE x ((k:Int)+1) n=(zero,12):=by
    unfold bE qz C F;rw[pl,Nat.add_comm 6 k,Nat.add_comm 12 k,f_ o];exact wB j J K p rfl (by decide)
   rw[f]
   all_goals rfl
  refine Qv aF (fun a b=>mJ o)<|Qn ?_;rintro _ ⟨h,rfl⟩;obtain⟨wq2,r⟩ : ∃ a,a=World.drewN d h:=⟨_,rfl⟩;rw[<- r];have s6:Stp d.heap.size d wq2:=by rw[r]; exact Sb (jH d h)
  have⟨E,X,A⟩:=jZ s6.old g u l;clear r;refine sN<|aK<|Wk<|sN<|ay<|av (au ((k:Int)+1))<|Lv (au k) fV<|av (pf c 12)<|Lv (pf c (k+12)) (ji 6 1)<|Lv (au (x (k+12))) (aN E.aI (k+12))<|av (au n)<|Lv (au ((x (k+12))+n)) fC<|av (pf c 12)<|Lv (pf c (k+12)) (ji 6 1)<|iM E (k+12) (au ((x (k+12))+n)) fun w5 Y M z4 => ?_;have G:aQ w5 c 54 (rv .i64 (upd x (k+12) ((x (k+12))+n))) 59:=Y.to (Fx.yx _ _ _ _);have Z:=X.bZ M (by omega);have B:=M.below A A.size (by omega);refine aC<|ay<|Lv (.agg (aA 54 (rv .i64 (upd x (k+12) ((x (k+12))+n))))) (fI G.aI 0)<|fD Z 0 fun w6 aa N z5 => ?_;have ab:aQ w6 s 54 (rv .i64 (upd x (k+12) ((x (k+12))+n))) 59:=aT aa;have m18:=G.bZ N (by omega);have R:=N.below B B.size (by omega);refine av (au 0) (aC (Wr (⟨.tuple #[.agg (aA 54 (rv .i64 (upd x (k+12) ((x (k+12))+n)))),au 0],gP Tryz.results111 ⟨_,rfl,aW ab.aI (by kernel_rfl) (by kernel_rfl)⟩ (by exact rfl),?_⟩)));refine⟨?_,R⟩;have f:bE x ((k:Int)+1) n=(upd x (k+12) (x (k+12)+n),0):=by
   unfold bE qz C F;rw[pl,Nat.add_comm 6 k,Nat.add_comm 12 k,g_ o];exact Ag j J K p rfl (by have:=Ue j W; omega)
  rw[f]
  all_goals rfl
 refine Lv aG (nC m)<|aC<|aO<|ay<|av (.agg (aA 54 (rv .i64 (fun _=>0))))<|av (au (eB x i n))<|fD u 0 fun w7 ac O z6 => ?_;have ad:aQ w7 s 54 (rv .i64 (fun _=>0)) 59:=aT ac;have m21:=g.bZ O (by omega);have S:=O.below l l.size (by omega);refine av (au (eB x i n)) (aC (Wr (sR (⟨.tuple #[.agg (aA 54 (rv .i64 (fun _=>0))),au (eB x i n)],gP Tryz.results111 ⟨_,rfl,aW ad.aI (by kernel_rfl) (by kernel_rfl)⟩ (by exact rfl),?_⟩))));refine⟨?_,S⟩;have f:bE x i n=(zero,eB x i n):=by
  exact Ky m
 rw[f]
 all_goals rfl
set_option maxRecDepth 10000 in
theorem XF(x:Nat->Int)(i j n:Int)(w:World) :
 Calls Tryz.prog 81 #[.agg (aA 54 (rv .i64 x)),au i,au j,au n] w fun e w'=>e = .returned (.tuple #[.agg (aA 54 (rv .i64 (cZ x i j n).1)),au (cZ x i j n).2])/\Below w.heap.size w w':=by
 refine Kent Tryz.func81 59 ?_;refine ay<|qP fun c w1 aa z s1 z1 => ?_;have B:=bG s1.old (Below.refl w.heap.size w);have uh:=gY aa;have vS:=z.lt;refine wL 54 (rv .i64 (fun _=>0)) fun h w2 F H s2 z2 => ?_;have⟨J,W⟩:=fq s2.old z B;have su:=jI F B.size;have Ka:=cu F z.lt;have AL:=H.lt;refine av (au 0)<|aC<|ay<|Lv (.agg (aA 54 (rv .i64 x))) (fI J.aI 0)<|av (au i)<|av (au n)<|dL (EY x i n _) _ rfl ?_;intro w3 hb1;have⟨p,u,f⟩:=jZ hb1 J H W;refine av (au (eB x i n))<|aC<|Ws<|ay<|av (au (eB x i n)) ?_;by_cases t:(eB x i n)=0
 ·refine Lv aF (jM t)<|aC<|aK<|Wk<|sN<|Ws<|Ws ?_;obtain⟨b,r,s,l⟩:=EZ t;have S:=mD b;obtain⟨k,y,ei,_⟩:=qL l;subst ei;refine Wl<|av (au j) ?_;by_cases d:(gH j)=true
  ·refine lY (yN j _) aG (by rw[d])<|av aF<|aC<|aK<|Wk<|sN<|Ws<|Ws ?_;obtain⟨q,hq,ej,_⟩:=qL d;subst ej;refine Wl<|av (au ((k:Int)+1))<|av (au ((q:Int)+1)) ?_;by_cases g:((k:Int)+1)=((q:Int)+1)
   ·refine Lv aG (dX g)<|aC<|aO<|ay<|av (.agg (aA 54 (rv .i64 (fun _=>0))))<|fD u 0 fun w4 m6 O z3 => ?_;have m7:aQ w4 h 54 (rv .i64 (fun _=>0)) 59:=aT m6;have m8:=p.bZ O (by omega);have X:=O.below f f.size (by omega);refine av (au 1) (aC (Wr (sR (⟨.tuple #[.agg (aA 54 (rv .i64 (fun _=>0))),au 1],gP Tryz.results81 ⟨_,rfl,aW m7.aI (by kernel_rfl) (by kernel_rfl)⟩ (by exact rfl),?_⟩))));refine⟨?_,X⟩;have a:cZ x ((k:Int)+1) ((q:Int)+1) n=(zero,1):=by
     unfold cZ nI;rw[d_ g];exact wB b r s (by rw[l,d]; rfl) rfl (by decide)
    rw[a]
    all_goals rfl
   refine Lv aF (fF g)<|aC<|aK<|Wk<|sN<|Ws<|ay<|av (au n)<|Lv (.agg (aA 54 (rv .i64 x))) (fI p.aI 0)<|av (au ((k:Int)+1))<|dL (EW x k _ (by omega) (mD b)) _ rfl ?_;intro w5 hb2;have⟨v,A,m⟩:=jZ hb2 p u f;by_cases o:(L x k)<n
   ·refine Lv aG (mI o)<|aC<|aO<|ay<|av (.agg (aA 54 (rv .i64 (fun _=>0))))<|fD A 0 fun w6 m11 P z4 => ?_;have m12:aQ w6 h 54 (rv .i64 (fun _=>0)) 59:=aT m11;have m13:=v.bZ P (by omega);have Y:=P.below m m.size (by omega);refine av (au 11) (aC (Wr (sR (⟨.tuple #[.agg (aA 54 (rv .i64 (fun _=>0))),au 11],gP Tryz.results81 ⟨_,rfl,aW m12.aI (by kernel_rfl) (by kernel_rfl)⟩ (by exact rfl),?_⟩))));refine⟨?_,Y⟩;have a:cZ x ((k:Int)+1) ((q:Int)+1) n=(zero,11):=by
     unfold cZ nI;rw[b_ g,nJ b k y,f_ o];exact wB b r s (by rw[l,d]; rfl) rfl (by decide)
    rw[a]
    all_goals rfl
   refine Lv aF (mJ o)<|aC<|aK<|Wk<|sN<|Ws<|Ws ?_;have q1:=S (6*k+q+18);refine Wl<|av (au ((k:Int)+1))<|Lv (au k) fV<|av (au ((q:Int)+1))<|Lv (au q) fV<|av (pf c 18)<|Lv (pf c (6*k+18)) (ji 6 6)<|Lv (pf c (6*k+q+18)) (ji 6 1)<|Lv (au (x (6*k+q+18))) (aN v.aI (6*k+q+18))<|av (au n)<|Lv (au ((x (6*k+q+18))+n)) fC ?_;by_cases E:1125899906842624<((x (6*k+q+18))+n)
   ·refine Lv aG (mI E)<|aC<|aO<|ay<|av (.agg (aA 54 (rv .i64 (fun _=>0))))<|fD A 0 fun w7 m14 Q z5 => ?_;have m15:aQ w7 h 54 (rv .i64 (fun _=>0)) 59:=aT m14;have m16:=v.bZ Q (by omega);have Z:=Q.below m m.size (by omega);refine av (au 6) (aC (Wr (sR (⟨.tuple #[.agg (aA 54 (rv .i64 (fun _=>0))),au 6],gP Tryz.results81 ⟨_,rfl,aW m15.aI (by kernel_rfl) (by kernel_rfl)⟩ (by exact rfl),?_⟩))));refine⟨?_,Z⟩;have a:cZ x ((k:Int)+1) ((q:Int)+1) n=(zero,6):=by
     unfold cZ nI;rw[b_ g,nJ b k y,g_ o,Kz];exact C9 b r s (by rw[l,d]; rfl) rfl (by omega)
    rw[a]
    all_goals rfl
   refine Lv aF (mJ E)<|aC<|aK<|Wk<|sN<|Ws ?_;refine Wt 13 (by kernel_rfl) (by kernel_rfl) fun qp dQ iA => ?_;have⟨G,m18,C⟩:=jZ dQ v A m;refine Ez (au ((k:Int)+1))<|qo (au k) fV<|Ez (au ((q:Int)+1))<|qo (au q) fV<|Ez (pf c 18)<|qo (pf c (6*k+18)) (ji 6 6)<|qo (pf c (6*k+q+18)) (ji 6 1)<|qo (au (x (6*k+q+18))) (aN G.aI (6*k+q+18))<|Ez (au n)<|qo (au ((x (6*k+q+18))+n)) fC<|Ez (pf c 18)<|qo (pf c (6*k+18)) (ji 6 6)<|qo (pf c (6*k+q+18)) (ji 6 1)<|Fx.St.nil ?_;refine iM G (6*k+q+18) (au ((x (6*k+q+18))+n)) fun w8 m19 R z6 => ?_;have I:aQ w8 c 54 (rv .i64 (upd x (6*k+q+18) ((x (6*k+q+18))+n))) 59:=m19.to (Fx.yx _ _ _ _);have m21:=m18.bZ R (by omega);have D:=R.below C C.size (by omega);refine aC<|ay<|Lv (.agg (aA 54 (rv .i64 (upd x (6*k+q+18) ((x (6*k+q+18))+n))))) (fI I.aI 0)<|fD m21 0 fun w9 m22 K z7 => ?_;have m23:aQ w9 h 54 (rv .i64 (upd x (6*k+q+18) ((x (6*k+q+18))+n))) 59:=aT m22;have m24:=I.bZ K (by omega);have T:=K.below D D.size (by omega);refine av (au 0) (aC (Wr (⟨.tuple #[.agg (aA 54 (rv .i64 (upd x (6*k+q+18) ((x (6*k+q+18))+n)))),au 0],gP Tryz.results81 ⟨_,rfl,aW m23.aI (by kernel_rfl) (by kernel_rfl)⟩ (by exact rfl),?_⟩)));refine⟨?_,T⟩;have a:cZ x ((k:Int)+1) ((q:Int)+1) n=(upd x (6*k+q+18) (x (6*k+q+18)+n),0):=by
    unfold cZ nI;rw[b_ g,nJ b k y,g_ o,Kz];exact Ag b r s (by rw[l,d]; rfl) rfl (by omega)
   rw[a]
   all_goals rfl
  rw[S_]at d;refine lY (yN j _) aF (by rw[d])<|av aG<|aC<|aO<|ay<|av (.agg (aA 54 (rv .i64 (fun _=>0))))<|fD u 0 fun tT nT M z8 => ?_;have mY:aQ tT h 54 (rv .i64 (fun _=>0)) 59:=aT nT;have pY:=p.bZ M (by omega);have U:=M.below f f.size (by omega);refine av (au 10) (aC (Wr (sR (⟨.tuple #[.agg (aA 54 (rv .i64 (fun _=>0))),au 10],gP Tryz.results81 ⟨_,rfl,aW mY.aI (by kernel_rfl) (by kernel_rfl)⟩ (by exact rfl),?_⟩))));refine⟨?_,U⟩;have a:cZ x ((k:Int)+1) j n=(zero,10):=by
   unfold cZ;rw[d,H_];exact Qe b r s
  rw[a]
  all_goals rfl
 refine Lv aG (nC t)<|aC<|aO<|ay<|av (.agg (aA 54 (rv .i64 (fun _=>0))))<|av (au (eB x i n))<|fD u 0 fun F3 oN N z9 => ?_;have qx:aQ F3 h 54 (rv .i64 (fun _=>0)) 59:=aT oN;have oZ:=p.bZ N (by omega);have V:=N.below f f.size (by omega);refine av (au (eB x i n)) (aC (Wr (sR (⟨.tuple #[.agg (aA 54 (rv .i64 (fun _=>0))),au (eB x i n)],gP Tryz.results81 ⟨_,rfl,aW qx.aI (by kernel_rfl) (by kernel_rfl)⟩ (by exact rfl),?_⟩))));refine⟨?_,V⟩;have a:cZ x i j n=(zero,eB x i n):=by
  exact Qf t
 rw[a]
 all_goals rfl
namespace Rt
theorem Ec{m:lu}{x:Int}(h:0<=m.node x) : ∃ q:Nat,q<m.s.nn/\gQ (fun i=>decide (m.id i=x)) m.s.nn=(q:Int)/\m.id q=x:=by
 rcases jJ (fun i=>decide (m.id i=x)) m.s.nn with ⟨q,b,e,a⟩|⟨e,_⟩
 ·exact⟨q,b,e,h_ a⟩
 unfold lu.node at h; omega
theorem Oo{n:Nat}{x:Nat->Int}{r:Int} : ∀ j,j<(n+1)*1->iB (rv .u64 x) (n*1) (bI (fun j=>rv .u64 (fun _=>0) (j % 1)) (0*1) 1 (fun _=>aD r)) j=rv .u64 (aH x n r) j:=by
 intro j a;unfold iB rv aH;by_cases h:j<n*1
 ·rw[d_ h,b_ (by omega)]
 rw[b_ h,d_ (by omega)];unfold bI;rw[d_ (by omega)]
theorem KA{P:Nat->Bool}{n k j:Nat}(e:k=j+1)(h : ∀ i,k<=i->i<n->P i=true)(c:P j=true) : ∀ i,j<=i->i<n->P i=true:=fun i d b=>by
 by_cases a:i=j
 ·subst a; exact c
 ·exact h i (by omega) b
end Rt
theorem AX(m:lu)(p a:Nat)(o r:Int)(w:World)(h:CZ w p m)(ha:a<6)(b:o=(a:Int)+1) :
 Calls Tryz.prog 108 #[(pt p),au o,aD r] w fun e w'=>e = .returned (.bool (decide (0<=m.kR a r)))/\Below w.heap.size w w':=by
 subst b; exact Xr m p a r w h ha
set_option maxRecDepth 20000 in
set_option maxHeartbeats 2000000 in
theorem XG(m:lu)(B p a D:Nat)(v:EvM)(w:World)(O:vw w B p m)(G:B<=w.heap.size)(ha:a<6)(ho:v.o=(a:Int)+1)(bgg:m.s.gn<=900000)(ZL : ∀ i,i<6->m.rn i<=900000)(hTN : ∀ x,m.node x=bC m.t m.tn x)(hD:bC m.t m.tn (bF m.t m.tn D v.node)<0)(hD2:D<=1000) :
 Calls Tryz.prog 79 #[(pt p),.agg (aA 14 (bQ v))] w fun e w'=>e = .returned (au (iT m.core v))/\Below B w w'/\(iT m.core v=0 -> ∃ m',m'.core=lQ m.core v/\vw w' B p m'):=by
 have TM:=O.c;have hLn:=O.n;have hLg:=O.g;have TN:=O.tc;have TP:=O.t;have hLr:=O.r;have TQ:=O.pB;have DC:=O.tB;have bn:=O.bn;have bg:=O.bg;have bt:=O.bt;have lpp:p<w.heap.size:=TM.lt;have QV:m.tb<w.heap.size:=TN.lt;refine Kent Tryz.func79 188 ?_;refine ay<|qP fun I w1 lK m1 s1 z1 => ?_;have⟨m2,m3,m4,m5,m6,m7⟩:=ru s1.old TM hLn hLg TN TP hLr;have b1:=eF s1.old (Below.refl B w) G;have uh:=jI lK (Below.refl B w).size;have⟨nE,wU⟩:=wY lK TM.lt TN.lt;have vS:=m1.lt;refine av (au 0)<|aC<|Ws<|ay<|av (pt p)<|av (pt I)<|Lv (au v.o) (aN m1.aI 0)<|av (pf I 12)<|Lv (aD v.req) (aN m1.aI 12) ?_;have MK:CZ w1 p m := { c:=m2.aI,an:=m3.arr,ag:=m4.arr,tc:=m5.aI,at2:=m6.arr,ar:=fun i N=>(m7.1 i N).arr,bn:=(by show m.s.nn<=1000000; omega),bg:=bg,bt:=(by show m.tn<=1000000; omega),br:=O.br };by_cases c17:(decide (0<=m.kR a v.req))=true
 ·refine dL (AX m p a v.o v.req _ MK ha ho) aG (by rw[c17]) ?_;intro w2 hb1;have b2:=eF hb1 b1 G;refine aC<|aO<|ay<|av (au 14)<|aC<|Wr<|sR<|aJ (au 14) ?_;have eN:aL v=a:=by unfold aL; omega
  have Y:iT m.core v=14:=by unfold iT; rw[eN]; exact d_ (h_ c17)
  exact⟨oV Y.symm,b2,fun h0=>by rw[Y]at h0; cases h0⟩
 rw[S_]at c17;refine dL (AX m p a v.o v.req _ MK ha ho) aF (by rw[c17]) ?_;intro w3 hb2;have⟨m15,m16,m17,m18,m19,m20,m21⟩:=jm hb2 m2 m3 m4 m5 m6 m7 m1;have b3:=eF hb2 b1 G;refine aC<|aK<|Wk<|sN<|Ws ?_;refine jV [0,1,2,4,3,5,6,7] [0,0,0,4,0,4,3,0] [(6,3,[3]),(6,5,[5]),(7,6,[6])] fun qp dQ iA => ?_;have⟨m22,m23,m24,nT,mY,pY,oN⟩:=jm dQ m15 m16 m17 m18 m19 m20 m21;have b4:=eF dQ b3 G;refine aY (pt p)<|aY (pt p)<|aY (pf p 20)<|aY (pf I 9)<|Rs (pt m.tb) (aN m22.aI 20) ?_;refine Rs (aD v.node) (aN oN.aI 9) ?_;refine gF<|lX (IQ m.tb m.ta m.tn m.tc m.t v.node D _ (tJ nT mY bt) hD hD2) ?_;rintro e w4 ⟨K,vv,he,hown,rG,hK1,hb3⟩;obtain⟨a1,C,rfl⟩:=hown.val;refine⟨.slice a1 K C,he,?_⟩;clear he;have Ww:K=fA m.t m.tn v.node:=uR rG hK1 hD hD2;have hKD:K<=1000:=by rw[Ww]; exact IY _ _
 have⟨qx,oZ,lV,m32,qG,oO,qb⟩:=jm hb3 m22 m23 m24 nT mY pY oN;have b5:=eF hb3 b4 G;refine Ln<|aY (.slice a1 (K) (C))<|bS<|Ws<|ay<|av (.slice a1 (K) (C))<|av (au K) ?_;by_cases c27:(K:Int)=0
 ·refine Lv aG (dX c27)<|aC<|aO<|ay<|av (au 9)<|aC<|Wr<|sR<|aJ (au 9) ?_;have eN:aL v=a:=by unfold aL; omega
  have ne1 : ¬ 0<=m.core.kR (aL v) v.req:=by rw[eN]; exact j_ c17
  have Y:iT m.core v=9:=by unfold iT; rw[b_ ne1]; exact d_ (Ww.symm.trans (by omega))
  exact⟨oV Y.symm,b5,fun h0=>by rw[Y]at h0; cases h0⟩
 refine Lv aF (fF c27)<|aC<|aK<|Wk<|sN<|Ws<|ay<|av (au 0)<|aC<|Wb<|Wo (fun f H => ∃ k:Nat,∃ Rk:Nat->Nat->Int,k<=K/\dn (fun x=>bB x v.o v.aS) (nY m.core v.node) m.R k=(Rk,0)/\f 0=(pt p)/\f 3=(pt I)/\f 5 = .slice a1 (K) (C)/\f 6=au (k:Int)/\aQ H p 27 (mE m) 71/\Fx.Own H B 66 5 (.slice m.s.ga (m.s.gn) (m.s.gc)) m.s.gn (IK m)/\aQ H m.tb 1 (fun _ => .slice m.ta m.tn m.tc) 123/\Fx.Own H B 128 2 (.slice m.ta (m.tn) (m.tc)) m.tn (PX m.t)/\vY H B 6 m/\aQ H I 14 (bQ v) 32/\Fx.Own H qp.heap.size 28 1 (.slice a1 (K) (C)) K (rv .u64 (fun i=>bF m.t m.tn i v.node))/\Fx.Own H B 61 56 (.slice m.s.na (m.s.nn) (m.s.nc)) m.s.nn (flat 56 (fun l=>lW (m.id l) (m.par l) (Rk l)))/\Below B w H) (fun f _=>(K-(intOf (f 6)).toNat)) ⟨0,m.R,by omega,rfl,(by rfl),(by rfl),(by rfl),Fx.ic,qx,lV,m32,qG,oO,qb,hown,oZ,b5⟩ ?_;rintro f1 w5 ⟨k,Rk,hk,hRk,h1,Q,h3,h4,qH,sD,sV,qc,sZ,nW,mV,nk,b6⟩;refine Ws<|ay<|aX h4<|aX h3<|av (au K) ?_;by_cases c31:(k:Int)<(K:Int)
 ·refine Lv aG (gW c31)<|aC<|aO<|Wk<|sN<|Ws<|Wb<|Ws ?_;obtain⟨q,hq,eq0,_⟩:=Ec (m:=m) (x:=bF m.t m.tn k v.node) (by rw[hTN]; exact rG k (by omega));have ex1:nY m.core v.node k=q:=by show(gQ (fun i=>decide (m.id i=bF m.t m.tn k v.node)) m.s.nn).toNat=q; rw[eq0]; rfl
  refine Wl<|aX h1<|aX h3<|aX h4 ?_;obtain⟨EM,eq1⟩:=mV.addr (by omega);have tV:Fx.Own w5 qp.heap.size 28 1 (bO EM K C) K (rv .u64 (fun i=>bF m.t m.tn i v.node)):=mV.fH (K_ (fun q=>Value.slice q K C) eq1);refine Lv (pf EM k) (dh 1 (hx:=(rfl.trans (K_ (fun q=>Value.slice q (K) (C)) eq1))))<|Lv (aD (bF m.t m.tn k v.node)) (aN tV.aI k) ?_;have qQ:Fx.Own w5 qp.heap.size 28 1 (.slice a1 (K) (C)) K (rv .u64 (fun i=>bF m.t m.tn i v.node)):=tV.fH (K_ (fun q=>Value.slice q K C) eq1.symm);have Uf:CZ w5 p { m with R:=Rk } := { c:=qH.aI,an:=nk.arr,ag:=sD.arr,tc:=sV.aI,at2:=qc.arr,ar:=fun i N=>(sZ.1 i N).arr,bn:=(by show m.s.nn<=1000000; omega),bg:=bg,bt:=(by show m.tn<=1000000; omega),br:=O.br };refine dL ((IL { m with R:=Rk } p (bF m.t m.tn k v.node) _ Uf).mono (fun e w2 Q=>(⟨Q.1.trans (oV eq0),Q.2⟩:e = .returned (au (q:Int))/\_))) _ rfl ?_;intro w6 hb4;have⟨nX,sj,xq,sF,uj,uY,uH,um⟩:=mM hb4 qH sD sV qc sZ nW nk qQ;have b7:=eF hb4 b6 G;refine av (au q)<|aC<|Ws ?_;obtain⟨V,Gb⟩:=uH.addr (by omega);have uI:Fx.Own w6 B 61 56 (bO V m.s.nn m.s.nc) m.s.nn (flat 56 (fun l=>lW (m.id l) (m.par l) (Rk l))):=uH.fH (K_ (fun q=>Value.slice q m.s.nn m.s.nc) Gb);refine qY (T:=59) (T':=59) (a := .tmp 8) (v := .tmp 55) (m:=54) (z:=rv .i64 (fun _=>0)) (y:=rv .i64 ((bB (Rk q) v.o v.aS).1)) (u := .agg (aA 54 (rv .i64 ((bB (Rk q) v.o v.aS).1)))) 17 18 (List.replicate 20 (0,2,[],[])) #[(pt p),(pt p),(pt p),(pf p 18),.slice m.s.na (m.s.nn) (m.s.nc),au (q:Int),(pf V (56*q)),(pf V (56*q+2)),.agg (aA 54 (rv .i64 (Rk q))),(pt I),au v.o,(pf I 11),au v.aS,.tuple #[.agg (aA 54 (rv .i64 ((bB (Rk q) v.o v.aS).1))),au ((bB (Rk q) v.o v.aS).2)],.tuple #[.agg (aA 54 (rv .i64 ((bB (Rk q) v.o v.aS).1))),au ((bB (Rk q) v.o v.aS).2)],.agg (aA 54 (rv .i64 ((bB (Rk q) v.o v.aS).1))),au ((bB (Rk q) v.o v.aS).2),undef,undef,au ((bB (Rk q) v.o v.aS).2)] (by kernel_rfl) (by kernel_rfl) (by kernel_rfl) (by kernel_rfl) (by kernel_rfl) (by kernel_rfl) rfl (by kernel_rfl) rfl rfl (by kernel_rfl) (fun Z=>(show ev _ (.tmp 8)=(pt Z)from by kernel_rfl)) (fun Z=>(show ev _ (.tmp 55) = .agg (aA 54 (rv .i64 ((bB (Rk q) v.o v.aS).1)))from by kernel_rfl)) (bJ _ _) (fun _ _=>rfl) (by kernel_rfl) (fun Z => ?_) ?_
  ·refine⟨?_,?_,?_,?_,?_,?_,?_,?_,?_,?_,?_,?_,?_,?_,?_,?_,?_,?_,?_,?_,trivial⟩
   ·exact .inr (.inr (sw (pt p) fun d b=>fE rfl ((bX (by kernel_rfl)).trans h1)))
   ·exact .inr (.inr pR)
   ·exact .inr (.inr pR)
   ·exact .inr (.inr pR)
   ·exact .inr (.inr (sw (.slice m.s.na (m.s.nn) (m.s.nc)) fun d b=>bA (x:=mE m) rfl (show ev _ (.tmp 44)=(pf p 18)from by kernel_rfl) (by kernel_rfl) (nX.aI.below b (by have:=nX.lt; omega)) (i:=18) (by omega) (by omega) rfl))
   ·exact .inr (.inr pR)
   ·exact .inr (.inr (sw (pf V (56*q)) fun d b=>dS rfl ((show ev _ (.tmp 45) = .slice m.s.na (m.s.nn) (m.s.nc)from by kernel_rfl).trans (K_ (fun q=>Value.slice q (m.s.nn) (m.s.nc)) Gb)) (show ev _ (.tmp 46)=au (q:Int)from by kernel_rfl) Tryz.underlying50 (s:=56) (by kernel_rfl) (by omega) (by omega) (by omega)))
   ·exact .inr (.inr pR)
   ·exact .inr (.inr (sw (.agg (aA 54 (rv .i64 (Rk q)))) fun d b=>eG (x:=flat 56 (fun l=>lW (m.id l) (m.par l) (Rk l))) (y:=rv .i64 (Rk q)) rfl (show ev _ (.tmp 48)=(pf V (56*q+2))from by kernel_rfl) (by kernel_rfl) (by kernel_rfl) (uI.aI.below b (by have:=uI.lt; omega)) (i:=56*q+2) (by omega) (by omega) (fun jq hjq=>(Fx.iX (k:=q) (j:=2+jq) (by omega) (by omega)).trans ((fun jq _=>IJ _ _ _ jq) jq hjq))))
   ·exact .inr (.inr (sw (pt I) fun d b=>fM rfl ((bX (by kernel_rfl)).trans Q) Tryz.underlying32 rfl (s:=1) (by kernel_rfl) rfl rfl))
   ·exact .inr (.inr (sw (au v.o) fun d b=>bA (x:=bQ v) rfl (show ev _ (.tmp 50)=(pt I)from by kernel_rfl) (by kernel_rfl) (uY.aI.below b (by have:=uY.lt; omega)) (i:=0) (by omega) (by omega) rfl))
   ·exact .inr (.inr (sw (pf I 11) fun d b=>fM rfl ((bX (by kernel_rfl)).trans Q) Tryz.underlying32 rfl (s:=1) (by kernel_rfl) rfl (by show _+11=_; omega)))
   ·exact .inr (.inr (sw (au v.aS) fun d b=>bA (x:=bQ v) rfl (show ev _ (.tmp 52)=(pf I 11)from by kernel_rfl) (by kernel_rfl) (uY.aI.below b (by have:=uY.lt; omega)) (i:=11) (by omega) (by omega) rfl))
   ·exact .inr (.inr (Fx.Ik (v := .tuple #[.agg (aA 54 (rv .i64 ((bB (Rk q) v.o v.aS).1))),au ((bB (Rk q) v.o v.aS).2)]) (by kernel_rfl) (by kernel_rfl) (Fx.qbC (fun d b=>rC (args := [.agg (aA 54 (rv .i64 (Rk q))),au v.o,au v.aS]) rfl (Fx.ND (show ev _ (.tmp 49) = .agg (aA 54 (rv .i64 (Rk q)))from by kernel_rfl) (show ev _ (.tmp 51)=au v.o from by kernel_rfl) (show ev _ (.tmp 53)=au v.aS from by kernel_rfl)) Tryz.func109 rfl rfl) (fun d b=>(XD (Rk q) v.o v.aS _).mono fun e v2 h=>⟨h.1,h.2⟩))))
   ·exact .inr (.inr pR)
   ·exact .inr (.inr pR)
   ·exact .inr (.inr pR)
   ·exact .inl rfl
   ·exact .inr (.inl rfl)
   exact .inr (.inr pR)
  rintro Z w7 E A su xu hb5;have EN:p≠Z:=t_ (n_ (nX.lt) su);have akG:m.tb≠Z:=t_ (n_ (xq.lt) su);have abJ:I≠Z:=t_ (n_ (uY.lt) su);have akH:V≠Z:=t_ (n_ (uI.lt) su);have⟨uZ,tu,tC,xw,qg,vg,om,sG⟩:=mM hb5 nX sj xq sF uj uY um uI;have b8:=eF hb5 b7 G;have su:w.heap.size<=Z:=m_ b7.size su;have AL:=xu.lt;have q1:E 0=(pt p):=by rw[A]; exact(bX (by kernel_rfl)).trans h1
  have q2:E 3=(pt I):=by rw[A]; exact(bX (by kernel_rfl)).trans Q
  have q3:E 5 = .slice a1 (K) (C):=by rw[A]; exact(bX (by kernel_rfl)).trans h3
  have q4:E 6=au (k:Int):=by rw[A]; exact(bX (by kernel_rfl)).trans h4
  have q5:E 28=au (k:Int):=by rw[A]; kernel_rfl
  have q6:E 29 = .slice a1 (K) (C):=by rw[A]; kernel_rfl
  have q7:E 30=au (K:Int):=by rw[A]; kernel_rfl
  have q8:E 31 = .bool true:=by rw[A]; kernel_rfl
  have q9:E 34=(pt p):=by rw[A]; kernel_rfl
  have q10:E 35 = .slice a1 (K) (C):=by rw[A]; kernel_rfl
  have q11:E 36=au (k:Int):=by rw[A]; kernel_rfl
  have q12:E 37=(pf EM k):=by rw[A]; kernel_rfl
  have q13:E 38=aD (bF m.t m.tn k v.node):=by rw[A]; kernel_rfl
  have q14:E 39=au (q:Int):=by rw[A]; kernel_rfl
  have q15:E 7=au (q:Int):=by rw[A]; kernel_rfl
  have q16:E 41=(pt p):=by rw[A]; kernel_rfl
  have q17:E 42=(pt p):=by rw[A]; kernel_rfl
  have q18:E 43=(pt p):=by rw[A]; kernel_rfl
  have q19:E 44=(pf p 18):=by rw[A]; kernel_rfl
  have q20:E 45 = .slice m.s.na (m.s.nn) (m.s.nc):=by rw[A]; kernel_rfl
  have q21:E 46=au (q:Int):=by rw[A]; kernel_rfl
  have q22:E 47=(pf V (56*q)):=by rw[A]; kernel_rfl
  have q23:E 48=(pf V (56*q+2)):=by rw[A]; kernel_rfl
  have q24:E 49 = .agg (aA 54 (rv .i64 (Rk q))):=by rw[A]; kernel_rfl
  have q25:E 50=(pt I):=by rw[A]; kernel_rfl
  have q26:E 51=au v.o:=by rw[A]; kernel_rfl
  have q27:E 52=(pf I 11):=by rw[A]; kernel_rfl
  have q28:E 53=au v.aS:=by rw[A]; kernel_rfl
  have q29:E 54 = .tuple #[.agg (aA 54 (rv .i64 ((bB (Rk q) v.o v.aS).1))),au ((bB (Rk q) v.o v.aS).2)]:=by rw[A]; kernel_rfl
  have q30:E 40 = .tuple #[.agg (aA 54 (rv .i64 ((bB (Rk q) v.o v.aS).1))),au ((bB (Rk q) v.o v.aS).2)]:=by rw[A]; kernel_rfl
  have q31:E 55 = .agg (aA 54 (rv .i64 ((bB (Rk q) v.o v.aS).1))):=by rw[A]; kernel_rfl
  have q32:E 56=au ((bB (Rk q) v.o v.aS).2):=by rw[A]; kernel_rfl
  have q33:E 8=(pt Z):=by rw[A]; kernel_rfl
  have q34:E 9=au ((bB (Rk q) v.o v.aS).2):=by rw[A]; kernel_rfl
  clear A;refine sN<|Ws<|ay<|aX q34 ?_;by_cases c58:((bB (Rk q) v.o v.aS).2)=0
  ·refine Lv aF (jM c58)<|aC<|aK<|Wk<|sN ?_;refine jV [0,1,2,3,5,4,6,7,8,9] [0,0,0,0,4,0,4,0,0,3] [(9,4,[4]),(9,6,[6])] fun BG fO mU => ?_;have⟨m64,xA,wP,xB,xC,rF,sH,uJ,wQ⟩:=Bt fO uZ tu tC xw qg vg om sG xu;have b9:=eF fO b8 G;refine bU q1<|aY (pt p)<|aY (pt p)<|aY (pf p 18)<|bU q15<|Rs (.slice m.s.na (m.s.nn) (m.s.nc)) (aN m64.aI 18) ?_;refine Rs (.agg (aA 54 (rv .i64 ((bB (Rk q) v.o v.aS).1)))) (fI wQ.aI 0 (ha:=q33)) ?_;refine Rp (pf V (56*q)) (fun _=>dh 56 (hx:=(rfl.trans (K_ (fun q=>Value.slice q (m.s.nn) (m.s.nc)) Gb))))<|aY (pf V (56*q+2))<|gF<|zS uJ (56*q+2) fun w8 uo s9 z2 => ?_;have gK:=gI s9 uJ.JH;have⟨yG,vk,xR,ze,xS,wR,vo⟩:=RD gK m64 xA wP xB xC rF sH;have b10:=s9.below b9 (m_ G b9.size) uJ.blk.1;have xD:Fx.Own w8 B 61 56 (bO V m.s.nn m.s.nc) m.s.nn (flat 56 (fun l=>lW (m.id l) (m.par l) (aH Rk q ((bB (Rk q) v.o v.aS).1) l))):=uo.congr (fun X W=>(Fx.Br (k:=q) (j:=2) (by omega) (by omega) X W).trans (bK (fun i N j hj=>BX i N j hj) X W));refine Ln<|Rn<|bR<|sN<|Wl<|aX q4<|Lv (au ((k:Int)+1)) fC<|av (au ((k:Int)+1))<|Ln ?_;have zf:Fx.Own w8 B 61 56 (.slice m.s.na (m.s.nn) (m.s.nc)) m.s.nn (flat 56 (fun l=>lW (m.id l) (m.par l) (aH Rk q ((bB (Rk q) v.o v.aS).1) l))):=xD.fH (K_ (fun q=>Value.slice q m.s.nn m.s.nc) Gb.symm);refine gV ⟨k+1,(aH Rk q (bB (Rk q) v.o v.aS).1),by omega,(ET hRk ex1 (by first|exact c58|exact Classical.not_not.1 c58)),q1,q2,q3,Fx.ic,yG,vk,xR,ze,xS,wR,vo,zf,b10⟩ ?_
   show(K-(intOf (au ((k:Int)+1))).toNat)<_;simp only[h4,intOf]; omega
  refine Lv aG (nC c58)<|aC<|aO<|ay<|aX q34<|av (au ((bB (Rk q) v.o v.aS).2))<|aC<|Wr<|sR<|bL<|sR<|pV<|bL<|sR<|aJ (au ((bB (Rk q) v.o v.aS).2)) ?_;have eN:aL v=a:=by unfold aL; omega
  have ne1 : ¬ 0<=m.core.kR (aL v) v.req:=by rw[eN]; exact j_ c17
  have ne2 : ¬ fA m.core.t m.core.tn v.node=0:=fun e=>c27 (by rw[show K=0 from Ww.trans e]; rfl);have ew:mQ m.core v=dn (fun x=>bB x v.o v.aS) (nY m.core v.node) m.R K:=by unfold mQ; rw[show fA m.core.t m.core.tn v.node=K from Ww.symm]; rfl
  have Y:iT m.core v=(bB (Rk q) v.o v.aS).2:=by
   unfold iT; rw[b_ ne1,b_ ne2,ew];have e1:=GN hRk ex1 c58;rw[Af (k:=k+1) (by rw[e1]; exact c58) K (by omega)]; exact e1
  exact⟨oV Y.symm,b8,fun h0=>L_ (Y.symm.trans h0) c58⟩
 refine Lv aF (gX c31)<|aC<|aK<|Wx<|cK<|gJ<|cO<|sN<|Ws ?_;have hRK:dn (fun x=>bB x v.o v.aS) (nY m.core v.node) m.R K=(Rk,0):=by rw[show K=k by omega]; exact hRk
 refine Wl<|Lv (pt I) (iZ Q 0)<|Lv (au v.o) (aN nW.aI 0)<|Lv (pf I 12) (iZ Q 12)<|Lv (aD v.req) (aN nW.aI 12)<|Lv (pf I 9) (iZ Q 9)<|Lv (aD v.node) (aN nW.aI 9)<|Lv (pf I 11) (iZ Q 11)<|Lv (au v.aS) (aN nW.aI 11)<|av (.agg (aA 5 (bI (bI (bI (bI (fun J=>if J<1 then au 0 else if J<3 then aD 0 else if J<4 then au 0 else aD 0) 0 1 (fun _=>au v.o)) 1 1 (fun _=>aD v.req)) 2 1 (fun _=>aD v.node)) 3 1 (fun _=>au v.aS))))<|wL 5 (fun J=>if J<1 then au 0 else if J<3 then aD 0 else if J<4 then au 0 else aD 0) fun U w9 yH wS s10 z3 => ?_;have⟨zG,zh,zH,zi,zk,zV,BM⟩:=jm s10.old qH sD sV qc sZ nW nk;have b11:=eF s10.old b6 G;have DY:=jI yH b6.size;have abK:=cu yH qH.lt;have IU:(.slice m.s.ga (m.s.gn) (m.s.gc):Value).ownBlock≠some U:=by rw[yH]; exact sD.jX (z_ _)
 have⟨abL,akJ⟩:=wY yH sV.lt nW.lt;have LJ:=wS.lt;refine fD wS 0 (h1:=(bV (bV (bV (bV (fun jq _=>by show((fun J=>if J<1 then au 0 else if J<3 then aD 0 else if J<4 then au 0 else aD 0:Nat->Value) jq).oneCell'=true; simp only[]; repeat (first|rfl|split)) (fun _ _=>rfl)) (fun _ _=>rfl)) (fun _ _=>rfl)) (fun _ _=>rfl))) fun tT AQ s11 z4 => ?_
 have Bp:aQ tT U 5 (bI (bI (bI (bI (fun J=>if J<1 then au 0 else if J<3 then aD 0 else if J<4 then au 0 else aD 0) 0 1 (fun _=>au v.o)) 1 1 (fun _=>aD v.req)) 2 1 (fun _=>aD v.node)) 3 1 (fun _=>au v.aS)) 66:=aT AQ;have kg:=gI s11 wS.ty;have zm:=jD kg zG;have D9:=zh.bZ s11 IU;have⟨BN,Ea,Eb,tX,rQ⟩:=rz kg zH zi zk zV BM;have b12:=s11.below b11 (m_ G b11.size) (by omega);refine aC<|Ws ?_;have rR:aQ tT U 5 (jc (pU v)) 66:=Bp.congr (fun j hj=>by rcases j with _|_|_|_|_|j <;> first|rfl|omega)
 refine Wl<|aX h1<|av (pt p)<|av (pt p)<|av (pf p 19)<|Lv (.slice m.s.ga (m.s.gn) (m.s.gc)) (aN zm.aI 19)<|av (au m.s.gn)<|av (au m.s.gn)<|aC<|Ws ?_;refine zQ [0,1,2,3,4,5,6,7,8,9,10,11,12] [0,0,0,0,0,1,4,2,2,0,0,0,3] (iD [66]) vL Fx.iD.trans (eZ := [(12,5,[5]),(7,6,[6]),(8,6,[7,6]),(12,6,[6]),(8,7,[7]),(9,7,[7]),(10,7,[7]),(11,7,[7]),(12,7,[7]),(9,8,[8]),(10,8,[8]),(11,8,[8]),(12,8,[8])]) (by kernel_rfl) (by kernel_rfl) (by kernel_rfl) (by kernel_rfl) (by kernel_rfl) fun QW lJ AB => ?_;have⟨nN,nO,oF,nP,oG,ql,qJ,pz⟩:=mM lJ zm D9 BN Ea Eb tX rQ rR;have b13:=eF lJ b12 G;refine bU h1<|bU h1<|aY (pt p)<|aY (pt p)<|aY (pf p 19)<|Rd (v := .slice m.s.ga (m.s.gn) (m.s.gc)) (by rfl) (by rfl) (vL _) (fun d b=>bA (x:=mE m) rfl rfl (by kernel_rfl) (nN.kH b (by decide)).aI (i:=19) (by omega) (by omega) rfl) ?_;refine Rs (.agg (aA 5 (jc (pU v)))) (fI pz.aI 0) ?_;refine yD<|yZ (vs := [(0,.agg (aA 5 (jc (pU v))))]) (s:=5) (zc:=fun J=>if J<1 then au 0 else if J<3 then aD 0 else if J<4 then au 0 else aD 0) (y:=bI (fun j=>(fun J=>if J<1 then au 0 else if J<3 then aD 0 else if J<4 then au 0 else aD 0) (j % 5)) (0*5) 5 (jc (pU v))) (by rfl) rfl rfl Tryz.underlying51 (by kernel_rfl) (by rfl) (by rfl) (by kernel_rfl) (by rw[bD (off:=0*5) (s:=5) (y:=jc (pU v)) rfl (bJ _ _) (by rfl)]; rfl) rfl fun g4 F3 Mh rT s13 z5 => ?_;have⟨wm,sK,wo,zY,uQ,rU,oH,wu⟩:=mM s13.old nN nO oF nP oG ql qJ pz;have b14:=eF s13.old b13 G;have Wy:=jI Mh b13.size;have XH:=cu Mh nN.lt;have XI:(.slice m.s.ga (m.s.gn) (m.s.gc):Value).ownBlock≠some g4:=by rw[Mh]; exact nO.jX (z_ _)
 have⟨aip,XJ,aiq⟩:=JL Mh oF.lt ql.lt pz.lt;have Ug:=rT.lt;refine Ln ⟨Fx.iD.of_below s13.old,?_⟩;refine yD<|zx (B:=B) (s:=5) (bytes:=40) (k:=m.s.gn) (m:=1) (v := .slice m.s.ga (m.s.gn) (m.s.gc)) (x:=IK m) (by rfl) rfl rfl rfl Tryz.underlying51 (by kernel_rfl) (by kernel_rfl) rfl rfl sK rT.aI (yM (tK _)) (by omega) (by omega) (by omega) (m_ G b14.size) fun F C CW ho1 hg1 vR hlt1 => ?_;have rE:=zy hg1 sK;have⟨qK,zZ,EO,BO,xW,BP⟩:=RB rE wm wo zY uQ rU oH;have BQ:=wu.grown hg1 IU;have air:U≠F:=fun e=>vR.elim (fun e2=>IU (by rw[e]; exact e2)) (fun e2=>by have:=wu.lt; omega);have wz:Fx.Own CW B 66 5 (bO F (m.s.gn+1) C) (m.s.gn+1) (flat 5 (Fx.JI (fun l=>jc (m.g l)) (jc (pU v)) m.s.gn m.s.gn)):=(ho1.congr (fun j hj=>(Fx.xJ j hj).trans (bK (fun i N q _=>Fx.xK i N q) j hj)));have b15:Below B w CW:=zw b14 hg1 (m_ G b14.size) (fun q hq=>(sK.ge hq).1);refine Ln ⟨rE,?_⟩;refine aY (pt p)<|aY (pt p)<|aY (pf p 19)<|gF<|iM qK 19 (bO F (m.s.gn+1) C) fun F4 Aa Dw z6 => ?_;have xQ:=gI Dw qK.ty;have⟨xX,E5,DF,BR,Ac,DI,EP⟩:=RD xQ zZ EO BO xW BP BQ wz;have b16:=Dw.below b15 (m_ G b15.size) (by omega);refine Ln<|bS<|CV (fun f H => ∃ k:Nat,k<=m.s.gn/\k=down (fun i=>EU v (m.g i)) m.s.gn/\f 0=(pt p)/\f 3=(pt I)/\f 10=(pt U)/\f 11=au (k:Int)/\aQ H m.tb 1 (fun _ => .slice m.ta m.tn m.tc) 123/\Fx.Own H B 128 2 (.slice m.ta (m.tn) (m.tc)) m.tn (PX m.t)/\vY H B 6 m/\aQ H I 14 (bQ v) 32/\Fx.Own H B 61 56 (.slice m.s.na (m.s.nn) (m.s.nc)) m.s.nn (flat 56 (fun l=>lW (m.id l) (m.par l) (Rk l)))/\aQ H U 5 (jc (pU v)) 66/\aQ H p 27 (dA (mE m) 19 (bO F (m.s.gn+1) C)) 71/\Fx.Own H B 66 5 (bO F (m.s.gn+1) C) (m.s.gn+1) (flat 5 (Fx.JI (fun l=>jc (m.g l)) (jc (pU v)) m.s.gn k))/\Below B w H) ?_ ?_
 ·refine Wb<|Wo (fun f H => ∃ k:Nat,k<=m.s.gn/\(∀ i,k<=i->i<m.s.gn->EU v (m.g i)=true)/\f 0=(pt p)/\f 3=(pt I)/\f 10=(pt U)/\f 11=au (k:Int)/\aQ H m.tb 1 (fun _ => .slice m.ta m.tn m.tc) 123/\Fx.Own H B 128 2 (.slice m.ta (m.tn) (m.tc)) m.tn (PX m.t)/\vY H B 6 m/\aQ H I 14 (bQ v) 32/\Fx.Own H B 61 56 (.slice m.s.na (m.s.nn) (m.s.nc)) m.s.nn (flat 56 (fun l=>lW (m.id l) (m.par l) (Rk l)))/\aQ H U 5 (jc (pU v)) 66/\aQ H p 27 (dA (mE m) 19 (bO F (m.s.gn+1) C)) 71/\Fx.Own H B 66 5 (bO F (m.s.gn+1) C) (m.s.gn+1) (flat 5 (Fx.JI (fun l=>jc (m.g l)) (jc (pU v)) m.s.gn k))/\Below B w H) (fun f _=>(intOf (f 11)).toNat) ⟨m.s.gn,by omega,(fun i h1 Q=>L_ h1 (by omega)),h1,Q,(by rfl),Fx.ic,xX,E5,DF,BR,Ac,DI,Aa,EP,b16⟩ ?_;rintro f3 L ⟨k,hk,hgt,S,h6,h7,M,Ad,DJ,BS,E8,ER,Ae,BU,AU,b17⟩;refine Ws<|Ws ?_;refine xM<|dY M ?_;by_cases c97:0<(k:Int)
  ·obtain⟨j,ej⟩ : ∃ j,k=j+1:=⟨k-1,by omega⟩;refine Qv aG (fun d b=>mI c97)<|aU aG<|dY S<|aU (pt p)<|aU (pt p)<|aU (pf p 19)<|Qv (bO F (m.s.gn+1) C) (fun d b=>aN (BU.aI.dr b) 19 (Fx.kY (by omega)))<|dY M<|Qv (au j) (fun d b=>fV)<|Qv (pf F (5*j)) (fun d b=>dh 5)<|aU (pf F (5*j))<|Qv (au ((m.g j) 0)) (fun d b=>aN (AU.aI.dr b) (5*j) (Fx.iC (k:=j) (j:=0) (by omega) (by omega) ((congrFun (Fx.zA (by omega) (by omega)) 0).trans rfl)))<|Qv (pt U) (fun d b=>iZ h7 0)<|Qv (au v.o) (fun d b=>aN (Ae.aI.dr b) 0) ?_;by_cases KC:v.o<((m.g j) 0)
   ·refine Qv aG (fun d b=>mI KC)<|aU aG<|aP<|aP<|aP<|aP<|aP<|aP<|aP<|aP<|aP<|aP<|aP<|aP<|aP<|aP<|aP<|aP<|aP<|aP<|aP<|aP<|aP<|aP<|aP ?_;refine aP<|aP<|aP<|aP<|aP<|aU aG<|aU aG<|Qn ?_;rintro _ ⟨P,rfl⟩;obtain⟨CY,rP⟩ : ∃ d,d=World.drewN L P:=⟨_,rfl⟩;rw[<- rP];have s15:Stp L.heap.size L CY:=(by rw[rP]; exact Sb (jH L P));have⟨IV,TR,Uh,TS,TT,abY,TU,abM⟩:=mM s15.old Ad DJ BS E8 ER Ae BU AU;have b18:=eF s15.old b17 G;clear rP;refine sN<|aO<|Wk<|sN<|Wb<|Ws ?_;refine jV [0,1,2,3,5,6,7,8,9,11,12,4,10,13,14,15,16] [0,0,0,0,4,0,0,0,0,0,4,0,0,0,4,0,3] [(16,4,[4]),(16,10,[10]),(16,14,[14])] fun wt4 qw Gy => ?_;have⟨TV,P6,TW,TY,abN,abO,abZ,P7⟩:=mM qw IV TR Uh TS TT abY TU abM;have b19:=eF qw b18 G;refine bU S<|aY (pt p)<|aY (pt p)<|aY (pf p 19)<|bU M<|bU S<|aY (pt p)<|aY (pt p)<|aY (pf p 19)<|bU M<|Rp (au j) (fun _=>fV)<|Rs (bO F (m.s.gn+1) C) (aN abZ.aI 19 (Fx.kY (by omega))) ?_;refine Rs (bO F (m.s.gn+1) C) (aN abZ.aI 19 (Fx.kY (by omega))) ?_;refine Rp (pf F (5*j)) (fun _=>dh 5)<|Rs (.agg (aA 5 (jc (m.g j)))) (fI P7.aI (5*j) (fun jq hjq=>(Fx.iX (k:=j) (by omega) hjq).trans (congrFun (Fx.zA (by omega) (by omega)) jq))) ?_;refine Rp (pf F (5*k)) (fun _=>dh 5)<|gF<|zS P7 (5*k) (h1:=(fun j _=>tK _ j)) fun LH abP Jq z7 => ?_;have xg:=gI Jq P7.JH;have⟨afH,abQ,abR,abS,akK⟩:=rz xg TV P6 TW TY abN;have akL:=abO.bZ Jq (by omega);have akM:=jD xg abZ;have b20:=Jq.below b19 (m_ G b19.size) P7.blk.1;have akN:Fx.Own LH B 66 5 (bO F (m.s.gn+1) C) (m.s.gn+1) (flat 5 (Fx.JI (fun l=>jc (m.g l)) (jc (pU v)) m.s.gn j)):=abP.congr (fun X W=>(Fx.uz (k:=k) (by omega) X W).trans (bK (fun i N q _=>Fx.yA ej (by omega) i N q) X W));refine Ln<|bS<|Wl<|aX M<|Lv (au j) fV<|av (au j)<|Ln<|bR<|gV ⟨j,by omega,(KA ej hgt (by unfold EU; rw[f_ KC]; rfl)),S,h6,h7,Fx.ic,afH,abQ,abR,abS,akK,akL,akM,akN,b20⟩ ?_;show(intOf (au j)).toNat<_;simp only[M,intOf]; omega
   refine Qv aF (fun d b=>mJ KC)<|aU aF<|dY S<|aU (pt p)<|aU (pt p)<|aU (pf p 19)<|Qv (bO F (m.s.gn+1) C) (fun d b=>aN (BU.aI.dr b) 19 (Fx.kY (by omega)))<|dY M<|Qv (au j) (fun d b=>fV)<|Qv (pf F (5*j)) (fun d b=>dh 5)<|aU (pf F (5*j))<|Qv (au ((m.g j) 0)) (fun d b=>aN (AU.aI.dr b) (5*j) (Fx.iC (k:=j) (j:=0) (by omega) (by omega) ((congrFun (Fx.zA (by omega) (by omega)) 0).trans rfl)))<|Qv (pt U) (fun d b=>iZ h7 0)<|Qv (au v.o) (fun d b=>aN (Ae.aI.dr b) 0) ?_;by_cases XK:((m.g j) 0)=v.o
   ·refine Qv aG (fun d b=>dX XK)<|aU aG<|dY S<|aU (pt p)<|aU (pt p)<|aU (pf p 19)<|Qv (bO F (m.s.gn+1) C) (fun d b=>aN (BU.aI.dr b) 19 (Fx.kY (by omega)))<|dY M<|Qv (au j) (fun d b=>fV)<|Qv (pf F (5*j)) (fun d b=>dh 5)<|aU (pf F (5*j+1))<|Qv (aD ((m.g j) 1)) (fun d b=>aN (AU.aI.dr b) (5*j+1) (Fx.iC (k:=j) (j:=1) (by omega) (by omega) ((congrFun (Fx.zA (by omega) (by omega)) 1).trans rfl)))<|Qv (pf U 1) (fun d b=>iZ h7 1)<|Qv (aD v.req) (fun d b=>aN (Ae.aI.dr b) 1) ?_;by_cases c139:v.req<((m.g j) 1)
    ·refine Qv aG (fun d b=>mI c139)<|aU aG<|aU aG<|aU aG<|Qn ?_;rintro _ ⟨P,rfl⟩;obtain⟨wq2,vZ⟩ : ∃ d,d=World.drewN L P:=⟨_,rfl⟩;rw[<- vZ];have Jt:Stp L.heap.size L wq2:=(by rw[vZ]; exact Sb (jH L P));have⟨akO,akP,akQ,akR,akS,akT,akU,akV⟩:=mM Jt.old Ad DJ BS E8 ER Ae BU AU;have Ml:=eF Jt.old b17 G;clear vZ;refine sN<|aO<|Wk<|sN<|Wb<|Ws ?_;refine jV [0,1,2,3,5,6,7,8,9,11,12,4,10,13,14,15,16] [0,0,0,0,4,0,0,0,0,0,4,0,0,0,4,0,3] [(16,4,[4]),(16,10,[10]),(16,14,[14])] fun wt5 zF Sk => ?_;have⟨akW,akX,akY,akZ,ala,alb,acd,XL⟩:=mM zF akO akP akQ akR akS akT akU akV;have J6:=eF zF Ml G;refine bU S<|aY (pt p)<|aY (pt p)<|aY (pf p 19)<|bU M<|bU S<|aY (pt p)<|aY (pt p)<|aY (pf p 19)<|bU M<|Rp (au j) (fun _=>fV)<|Rs (bO F (m.s.gn+1) C) (aN acd.aI 19 (Fx.kY (by omega))) ?_;refine Rs (bO F (m.s.gn+1) C) (aN acd.aI 19 (Fx.kY (by omega))) ?_;refine Rp (pf F (5*j)) (fun _=>dh 5)<|Rs (.agg (aA 5 (jc (m.g j)))) (fI XL.aI (5*j) (fun jq hjq=>(Fx.iX (k:=j) (by omega) hjq).trans (congrFun (Fx.zA (by omega) (by omega)) jq))) ?_;refine Rp (pf F (5*k)) (fun _=>dh 5)<|gF<|zS XL (5*k) (h1:=(fun j _=>tK _ j)) fun w16 alc s20 z8 => ?_;have xk:=gI s20 XL.JH;have⟨ald,ale,alf,alg,alh⟩:=rz xk akW akX akY akZ ala;have ali:=alb.bZ s20 (by omega);have alj:=jD xk acd;have QX:=s20.below J6 (m_ G J6.size) XL.blk.1;have alk:Fx.Own w16 B 66 5 (bO F (m.s.gn+1) C) (m.s.gn+1) (flat 5 (Fx.JI (fun l=>jc (m.g l)) (jc (pU v)) m.s.gn j)):=alc.congr (fun X W=>(Fx.uz (k:=k) (by omega) X W).trans (bK (fun i N q _=>Fx.yA ej (by omega) i N q) X W));refine Ln<|bS<|Wl<|aX M<|Lv (au j) fV<|av (au j)<|Ln<|bR<|gV ⟨j,by omega,(KA ej hgt (by unfold EU; rw[f_ XK,f_ c139]; cases decide (v.o<m.g j 0) <;> rfl)),S,h6,h7,Fx.ic,ald,ale,alf,alg,alh,ali,alj,alk,QX⟩ ?_
     show(intOf (au j)).toNat<_;simp only[M,intOf]; omega
    refine Qv aF (fun d b=>mJ c139)<|aU aF<|aU aF<|aU aF<|Qn ?_;rintro _ ⟨P,rfl⟩;obtain⟨Qc,E9⟩ : ∃ d,d=World.drewN L P:=⟨_,rfl⟩;rw[<- E9];have ZM:Stp L.heap.size L Qc:=(by rw[E9]; exact Sb (jH L P));have⟨alm,aln,alo,alp,alq,alr,als,alu⟩:=mM ZM.old Ad DJ BS E8 ER Ae BU AU;have Si:=eF ZM.old b17 G;clear E9;refine sN<|aK<|Wx<|cK<|gJ<|cO ?_;exact tO ⟨k,hk,(Fx.oL hk hgt (.inr (fun j2 e=>by rw[show j2=j by omega]; unfold EU; rw[g_ KC,g_ c139,H_]; rfl))),S,h6,h7,(M.trans Fx.ic),alm,aln,alo,alp,alq,alr,als,alu,Si⟩
   refine Qv aF (fun d b=>fF XK)<|aU aF<|aP<|aP<|aP<|aP<|aP<|aP<|aP<|aP<|aP<|aP<|aP<|aP<|aP<|aU aF<|aU aF<|aU aF<|Qn ?_;rintro _ ⟨P,rfl⟩;obtain⟨wq4,Fa⟩ : ∃ d,d=World.drewN L P:=⟨_,rfl⟩;rw[<- Fa];have ZN:Stp L.heap.size L wq4:=(by rw[Fa]; exact Sb (jH L P));have⟨alv,alx,aly,alz,alA,alB,alC,alD⟩:=mM ZN.old Ad DJ BS E8 ER Ae BU AU;have Zv:=eF ZN.old b17 G;clear Fa;refine sN<|aK<|Wx<|cK<|gJ<|cO ?_;exact tO ⟨k,hk,(Fx.oL hk hgt (.inr (fun j2 e=>by rw[show j2=j by omega]; unfold EU; rw[g_ KC,g_ XK]; rfl))),S,h6,h7,(M.trans Fx.ic),alv,alx,aly,alz,alA,alB,alC,alD,Zv⟩
  refine Qv aF (fun d b=>mJ c97)<|aU aF<|aP<|aP<|aP<|aP<|aP<|aP<|aP<|aP<|aP<|aP<|aP<|aP<|aP<|aP<|aP<|aP<|aP<|aP<|aP<|aP<|aP<|aP<|aP ?_;refine aP<|aP<|aP<|aP<|aP<|aP<|aP<|aP<|aP<|aP<|aP<|aP<|aP<|aP<|aP<|aP<|aP<|aP<|aP<|aP<|aU aF<|Qn ?_;rintro _ ⟨P,rfl⟩;obtain⟨wq5,ML⟩ : ∃ d,d=World.drewN L P:=⟨_,rfl⟩;rw[<- ML];have s23:Stp L.heap.size L wq5:=by rw[ML]; exact Sb (jH L P)
  have⟨alE,alF,alG,alH,alI,alJ,alK,alL⟩:=mM s23.old Ad DJ BS E8 ER Ae BU AU;have Wq:=eF s23.old b17 G;clear ML;refine sN<|aK<|Wx<|cK<|gJ<|cO ?_;exact tO ⟨k,hk,(Fx.oL hk hgt (.inl (by omega))),S,h6,h7,(M.trans Fx.ic),alE,alF,alG,alH,alI,alJ,alK,alL,Wq⟩
 rintro f4 Py ⟨k,hk,ek,h9,h10,h11,h12,alM,alN,alO,alP,alQ,alR,alS,alT,Xa⟩;refine Ws ?_;refine jV [0,1,2,3,5,4,6,7,8] [0,0,0,0,4,0,4,0,3] [(8,4,[4]),(8,6,[6])] fun wt6 J7 afg => ?_;have⟨alU,alV,alW,alX,alY,afQ,afR,acf⟩:=mM J7 alM alN alO alP alQ alR alS alT;have Zw:=eF J7 Xa G;refine bU h9<|aY (pt p)<|aY (pt p)<|aY (pf p 19)<|bU h12<|Rs (bO F (m.s.gn+1) C) (aN afR.aI 19 (Fx.kY (by omega))) ?_;refine Rs (.agg (aA 5 (jc (pU v)))) (fI afQ.aI 0 (ha:=h11)) ?_;refine Rp (pf F (5*k)) (fun _=>dh 5)<|gF<|zS acf (5*k) (h1:=(fun j _=>tK _ j)) fun Sq alZ Wu z9 => ?_;have zl:=gI Wu acf.JH;have⟨ama,amb,afS,amc,amd⟩:=rz zl alU alV alW alX alY;have ame:=afQ.bZ Wu (by omega);have amf:=jD zl afR;have b29:=Wu.below Zw (m_ G Zw.size) acf.blk.1;have amg:Fx.Own Sq B 66 5 (bO F (m.s.gn+1) C) (m.s.gn+1) (flat 5 (Fx.Iq (fun l=>jc (m.g l)) k (jc (pU v)))):=alZ.congr (fun X W=>(Fx.uz (k:=k) (by omega) X W).trans (bK (fun i N q _=>Fx.sP (by omega) i N q) X W));refine Ln<|bS<|Ws ?_;have amh:Fx.Own Sq B 28 1 (.slice (m.ra a) (m.rn a) (m.rc a)) (m.rn a) (rv .u64 (m.rq a)):=afS.1 a ha;have bra:=O.br a ha;refine zQ [0,1,4,5,8,9,12,16,17,2,3,6,7,10,11,13,14,15,18,19] [0,0,1,0,0,0,1,0,0,0,0,1,0,4,2,2,0,0,0,3] (iD [28]) vL Fx.iD.trans (eZ := [(19,2,[2]),(19,6,[6]),(19,11,[11]),(14,13,[13]),(15,13,[14,13]),(19,13,[13]),(15,14,[14]),(18,14,[14]),(19,14,[14]),(18,15,[15]),(19,15,[15])]) (by kernel_rfl) (by kernel_rfl) (by kernel_rfl) (by kernel_rfl) (by kernel_rfl) fun wt7 J8 afh => ?_;have⟨afT,ami,amj,XM,amk,aml,acg,afU,afV⟩:=Bt J8 ama amb afS amc amd ame amf amg amh;have Zx:=eF J8 b29 G;refine bU h9<|Rp (pt I) (fun _=>iZ h10 0)<|bU h9<|Rp (pt I) (fun _=>iZ h10 0)<|aY (pt p)<|aY (pf p 21)<|Rp (pf I 12) (fun _=>iZ h10 12)<|aY (pt p)<|aY (pf p 21)<|Rd (v:=au v.o) (by rfl) (by rfl) (vL _) (fun d b=>bA (x:=bQ v) rfl rfl (by kernel_rfl) (XM.kH b (by decide)).aI (i:=0) (by omega) (by omega) rfl) ?_;refine Rp (au a) (fun _=>fV)<|Rd (v:=au v.o) (by rfl) (by rfl) (vL _) (fun d b=>bA (x:=bQ v) rfl rfl (by kernel_rfl) (XM.kH b (by decide)).aI (i:=0) (by omega) (by omega) rfl) ?_;refine Rp (au a) (fun _=>fV)<|Rp (pf p (a+21)) (fun _=>ji 6 1)<|Rd (v := .slice (m.ra a) (m.rn a) (m.rc a)) (by rfl) (by rfl) (vL _) (fun d b=>bA (x:=dA (mE m) 19 (bO F (m.s.gn+1) C)) rfl rfl (by kernel_rfl) (acg.kH b (by decide)).aI (i:=a+21) (by omega) (by omega) (Fx.Au (by omega) (vX _ (by omega)))) ?_;refine Rs (aD v.req) (aN XM.aI 12) ?_;refine yD<|yZ (vs := [(0,aD v.req)]) (s:=1) (zc:=rv .u64 (fun _=>0)) (y:=bI (fun j=>(rv .u64 (fun _=>0)) (j % 1)) (0*1) 1 (fun _=>aD v.req)) (by rfl) rfl rfl Tryz.underlying63 (by kernel_rfl) (by rfl) (by rfl) (by kernel_rfl) (by rw[bD (off:=0*1) (s:=1) (y:=fun _=>aD v.req) rfl (cells_one (by rfl)) (by rfl)]; rfl) rfl fun g6 Xc eg6 afW ZO z10 => ?_;have⟨amm,amn,amo,amq,amr,ams,aci⟩:=jm ZO.old afT ami amj amk acg afU afV;have Xb:=eF ZO.old Zx G;have lg6:=jI eg6 Zx.size;have⟨ais,ait,aiu,aiv,aiw⟩:=Bv eg6 afT.lt XM.lt aml.lt acg.lt afU.lt;have aix:(.slice (m.ra a) (m.rn a) (m.rc a):Value).ownBlock≠some g6:=by rw[eg6]; exact afV.jX (z_ _)
 have tg6:=afW.lt;refine Ln ⟨Fx.iD.of_below ZO.old,?_⟩;refine yD<|zx (B:=B) (s:=1) (bytes:=8) (k:=(m.rn a)) (m:=1) (v := .slice (m.ra a) (m.rn a) (m.rc a)) (x:=rv .u64 (m.rq a)) (by rfl) rfl rfl rfl Tryz.underlying63 (by kernel_rfl) (by kernel_rfl) rfl rfl aci afW.aI (yM (fun _=>rfl)) (by omega) (by omega) (by omega) (m_ G Xb.size) fun g7 cap2 Pz ho2 hg2 ME hlt2 => ?_;have BL:=zy hg2 aci;have⟨amu,amv,amw,afX,amx⟩:=rz BL amm amn amq amr ams;have amy:Fx.Own Pz B 28 1 (.slice (some ⟨g7,0,none⟩) ((m.rn a)+1) cap2) ((m.rn a)+1) (rv .u64 (aH (m.rq a) (m.rn a) v.req)):=(ho2.congr (fun j hj=>Oo j hj));have b32:Below B w Pz:=zw Xb hg2 (m_ G Xb.size) (fun q hq=>(aci.ge hq).1);have amA:vY Pz B 6 { m with ra:=aH m.ra a (some ⟨g7,0,none⟩),rn:=aH m.rn a (m.rn a+1),rc:=aH m.rc a cap2,rq:=aH m.rq a (aH (m.rq a) (m.rn a) v.req) }:=vY.app amo ha rfl rfl rfl rfl amy hg2 ME;refine Ln ⟨BL,?_⟩;refine Rp (pf p (a+21)) (fun _=>ji 6 1)<|gF<|iM afX (a+21) (.slice (some ⟨g7,0,none⟩) ((m.rn a)+1) (cap2)) fun w21 amB s28 z11 => ?_;have Ui:=gI s28 afX.ty;have⟨amC,amD,amE,amF,amG⟩:=rz Ui amu amv amw amx amA;have b33:=s28.below b32 (m_ G b32.size) (by omega);refine Ln<|bS<|ay<|av (au 0)<|aC<|Wr<|aJ (au 0) ?_;have eN:aL v=a:=by unfold aL; omega
 have ne1 : ¬ 0<=m.core.kR (aL v) v.req:=by rw[eN]; exact j_ c17
 have ne2 : ¬ fA m.core.t m.core.tn v.node=0:=fun e=>c27 (by rw[show K=0 from Ww.trans e]; rfl);have ew:mQ m.core v=dn (fun x=>bB x v.o v.aS) (nY m.core v.node) m.R K:=by unfold mQ; rw[show fA m.core.t m.core.tn v.node=K from Ww.symm]; rfl
 have Y:iT m.core v=0:=by unfold iT; rw[b_ ne1,b_ ne2,ew,hRK]
 have eW:mQ m.core v=(Rk,0):=ew.trans hRK;have amH:Fx.Own w21 B 66 5 (bO F (m.s.gn+1) C) (m.s.gn+1) (flat 5 fun l=>jc (cB m.g k (pU v) l)):=by rw[<- XC]; exact amF
 refine⟨oV Y.symm,b33,fun _=>⟨{ m with s := { m.s with ga:=some ⟨F,0,none⟩,gn:=m.s.gn+1,gc:=C },R:=Rk,g:=cB m.g k (pU v),ra:=aH m.ra a (some ⟨g7,0,none⟩),rn:=aH m.rn a (m.rn a+1),rc:=aH m.rc a cap2,rq:=aH m.rq a (aH (m.rq a) (m.rn a) v.req) },?_,?_⟩⟩
 ·unfold lQ qm; rw[eW,eN]; rw[show down (fun i=>EU v (m.core.g i)) m.core.gn=k from ek.symm]; rfl
 exact { c:=amB.to ((K_ (fun z=>dA z (a+21) _) (MH m _ _ _)).trans (Ku _ rfl _ _ _)),n:=amE,g:=amH,tc:=amC,t:=amD,r:=amG,pB:=TQ,tB:=DC,bn:=bn,bg:=(by show m.s.gn+1<=1000000; omega),bt:=bt,br:=(fun i N=>by show aH m.rn a (m.rn a+1) i<=1000000; have:=ZL i N; have:=ZL a ha; unfold aH; split <;> omega) }
namespace Rt
def zJ(L:gy)(v:EvM):Nat:=(L.grant v.o v.of).toNat
def lS(L:gy)(v:EvM):(Nat->Nat->Int) × Int:=dn (fun x=>bE x v.o (L.g (zJ L v) 3)) (nY L (L.g (zJ L v) 2)) L.R (fA L.t L.tn (L.g (zJ L v) 2))
def iI(L:gy)(v:EvM):Int:=if 0<=L.kR (aL v) v.req then 14 else if L.grant v.o v.of<0\/L.g (zJ L v) 4≠0 then 12 else(lS L v).2
def kr(L:gy)(v:EvM):gy:=qm { L with R:=(lS L v).1,g:=aH L.g (zJ L v) (aH (L.g (zJ L v)) 4 v.req) } (aL v) v.req
theorem Uj{m:lu}{o r:Int}(h : ¬ m.grant o r<0) : ∃ q:Nat,q<m.s.gn/\m.grant o r=(q:Int)/\m.g q 0=o/\m.g q 1=r:=by
 rcases jJ (fun i=>decide (m.g i 0=o)&&decide (m.g i 1=r)) m.s.gn with ⟨q,b,e,a⟩|⟨e,_⟩
 ·rw[R_]at a;exact⟨q,b,e,h_ a.1,h_ a.2⟩
 unfold lu.grant at h; omega
theorem Qg{n q:Nat}{g:Nat->Nat->Int}{r:Int} : ∀ i,i<n -> ∀ j,j<5->Fx.qE (fun a=>jc (g a)) q (dA (jc (g q)) 4 (aD r)) i j=jc (aH g q (aH (g q) 4 r) i) j:=fun i _ j b=>by
 unfold Fx.qE;by_cases h:i=q
 ·subst h;rw[d_ rfl];unfold aH dA jc;rw[d_ rfl]
  rcases j with _|_|_|_|_|j <;> first|rfl|omega
 ·rw[b_ h]; unfold aH; rw[b_ h]
end Rt
set_option maxRecDepth 20000 in
set_option maxHeartbeats 2000000 in
theorem XO(m:lu)(B p a:Nat)(v:EvM)(w:World)(H:vw w B p m)(F:B<=w.heap.size)(ha:a<6)(ho:v.o=(a:Int)+1)(bgg:m.s.gn<=900000)(ZL : ∀ i,i<6->m.rn i<=900000)(hTN : ∀ x,m.node x=bC m.t m.tn x)(hDx : ∀ x,∃ D,D<=1000/\bC m.t m.tn (bF m.t m.tn D x)<0) :
 Calls Tryz.prog 80 #[(pt p),.agg (aA 14 (bQ v))] w fun e w'=>e = .returned (au (iI m.core v))/\Below B w w'/\(iI m.core v=0 -> ∃ m',m'.core=kr m.core v/\vw w' B p m'):=by
 have TM:=H.c;have hLn:=H.n;have hLg:=H.g;have TN:=H.tc;have TP:=H.t;have hLr:=H.r;have TQ:=H.pB;have DC:=H.tB;have bn:=H.bn;have bg:=H.bg;have bt:=H.bt;have lpp:p<w.heap.size:=TM.lt;have QV:m.tb<w.heap.size:=TN.lt;refine Kent Tryz.func80 128 ?_;refine ay<|qP fun G w1 lK m1 s1 z1 => ?_;have⟨m2,m3,m4,m5,m6,m7⟩:=ru s1.old TM hLn hLg TN TP hLr;have b1:=eF s1.old (Below.refl B w) F;have uh:=jI lK (Below.refl B w).size;have⟨nE,wU⟩:=wY lK TM.lt TN.lt;have vS:=m1.lt;refine av (au 0)<|aC<|Ws<|ay<|av (pt p)<|av (pt G)<|Lv (au v.o) (aN m1.aI 0)<|av (pf G 12)<|Lv (aD v.req) (aN m1.aI 12) ?_;have MK:CZ w1 p m := { c:=m2.aI,an:=m3.arr,ag:=m4.arr,tc:=m5.aI,at2:=m6.arr,ar:=fun i N=>(m7.1 i N).arr,bn:=(by show m.s.nn<=1000000; omega),bg:=bg,bt:=(by show m.tn<=1000000; omega),br:=H.br };by_cases V:(decide (0<=m.kR a v.req))=true
 ·refine dL (AX m p a v.o v.req _ MK ha ho) aG (by rw[V]) ?_;intro w2 hb1;have b2:=eF hb1 b1 F;refine aC<|aO<|ay<|av (au 14)<|aC<|Wr<|sR<|aJ (au 14) ?_;have O:aL v=a:=by unfold aL; omega
  have J:iI m.core v=14:=by unfold iI; rw[O]; exact d_ (h_ V)
  exact⟨oV J.symm,b2,fun P=>by rw[J]at P; cases P⟩
 rw[S_]at V;refine dL (AX m p a v.o v.req _ MK ha ho) aF (by rw[V]) ?_;intro w3 hb2;have⟨m15,m16,m17,m18,m19,m20,m21⟩:=jm hb2 m2 m3 m4 m5 m6 m7 m1;have b3:=eF hb2 b1 F;refine aC<|aK<|Wk<|sN<|ay<|av (pt p)<|av (pt G)<|Lv (au v.o) (aN m21.aI 0)<|av (pf G 13)<|Lv (aD v.of) (aN m21.aI 13) ?_;have Uf:CZ w3 p m := { c:=m15.aI,an:=m16.arr,ag:=m17.arr,tc:=m18.aI,at2:=m19.arr,ar:=fun i N=>(m20.1 i N).arr,bn:=(by show m.s.nn<=1000000; omega),bg:=bg,bt:=(by show m.tn<=1000000; omega),br:=H.br };refine dL (Xq m p v.o v.of _ Uf) _ rfl ?_;intro w4 hb3;have⟨m22,m23,m24,nT,mY,pY,oN⟩:=jm hb3 m15 m16 m17 m18 m19 m20 m21;have b4:=eF hb3 b3 F;refine av (au (m.grant v.o v.of))<|aC<|Ws<|ay<|av (au (m.grant v.o v.of)) ?_;by_cases ab:(m.grant v.o v.of)<0
 ·refine Lv aG (gW ab)<|av aG<|dD<|dD<|dD<|dD<|dD<|dD<|dD<|dD<|dD<|dD<|av aG<|aC<|aO<|ay<|av (au 12)<|aC<|Wr<|sR<|aJ (au 12) ?_;have O:aL v=a:=by unfold aL; omega
  have aa : ¬ 0<=m.core.kR (aL v) v.req:=by rw[O]; exact j_ V
  have J:iI m.core v=12:=by unfold iI; rw[b_ aa]; exact d_ (.inl ab)
  exact⟨oV J.symm,b4,fun P=>by rw[J]at P; cases P⟩
 obtain⟨b,hkg,ekg,_,_⟩:=Uj ab;have ac:zJ m.core v=b:=by show(m.grant v.o v.of).toNat=b; rw[ekg]; rfl
 refine Lv aF (gX ab)<|av aF<|av (pt p)<|av (pt p)<|av (pt p)<|av (pf p 19)<|Lv (.slice m.s.ga (m.s.gn) (m.s.gc)) (aN m22.aI 19)<|aX (K_ (Value.int .i64) ekg) ?_;obtain⟨af,eq1⟩:=m24.addr (by omega);have qx:Fx.Own w4 B 66 5 (bO af m.s.gn m.s.gc) m.s.gn (IK m):=m24.fH (K_ (fun q=>Value.slice q m.s.gn m.s.gc) eq1);refine Lv (pf af (5*b)) (dh 5 (hx:=(rfl.trans (K_ (fun q=>Value.slice q (m.s.gn) (m.s.gc)) eq1))))<|av (pf af (5*b+4))<|Lv (aD ((m.g b) 4)) (aN qx.aI (5*b+4) (Fx.iC (k:=b) (j:=4) (by omega) (by omega) rfl)) ?_;by_cases ae:((m.g b) 4)=0
 ·refine Lv aF (jM ae)<|av aF<|aC<|aK<|Wk<|sN<|Ws ?_;obtain⟨D,hD2,hD⟩:=hDx (m.g b 2);refine jV [0,1,2,4,5,6,7,9,3,8,10,11,12,13,14] [0,0,0,4,0,0,0,0,4,0,0,0,4,3,0] [(13,3,[3]),(13,8,[12,11,10,8]),(13,12,[12]),(14,13,[13])] fun qp dQ iA => ?_;have⟨oZ,lV,m32,qG,oO,qb,qH⟩:=jm dQ m22 m23 nT mY pY oN qx;have b5:=eF dQ b4 F;refine aY (pt p)<|aY (pt p)<|aY (pf p 20)<|aY (pt p)<|aY (pt p)<|aY (pt p)<|aY (pf p 19)<|bU (K_ (Value.int .i64) ekg)<|Rs (pt m.tb) (aN oZ.aI 20) ?_;refine Rs (.slice m.s.ga (m.s.gn) (m.s.gc)) (aN oZ.aI 19) ?_;refine Rp (pf af (5*b)) (fun _=>dh 5 (hx:=(rfl.trans (K_ (fun q=>Value.slice q (m.s.gn) (m.s.gc)) eq1))))<|aY (pf af (5*b+2))<|Rs (aD ((m.g b) 2)) (aN qH.aI (5*b+2) (Fx.iC (k:=b) (j:=2) (by omega) (by omega) rfl)) ?_;refine gF<|lX (IQ m.tb m.ta m.tn m.tc m.t (m.g b 2) D _ (tJ m32 qG bt) hD hD2) ?_;rintro e w5 ⟨K,vv,he,hown,rG,hK1,hb4⟩;obtain⟨U,E,rfl⟩:=hown.val;refine⟨.slice U K E,he,?_⟩;clear he;have Ww:K=fA m.t m.tn (m.g b 2):=uR rG hK1 hD hD2;have hKD:K<=1000:=by rw[Ww]; exact IY _ _
  have⟨sD,sV,qc,sZ,nW,mV,nk⟩:=jm hb4 oZ lV m32 qG oO qb qH;have b6:=eF hb4 b5 F;refine Ln<|aY (.slice U (K) (E))<|bS<|Ws<|ay<|av (au 0)<|aC<|Wb ?_;have tV:Fx.Own w5 B 66 5 (.slice m.s.ga (m.s.gn) (m.s.gc)) m.s.gn (IK m):=nk.fH (K_ (fun q=>Value.slice q m.s.gn m.s.gc) eq1.symm);refine Wo (fun f S => ∃ k:Nat,∃ Rk:Nat->Nat->Int,k<=K/\dn (fun x=>bE x v.o (m.g b 3)) (nY m.core (m.g b 2)) m.R k=(Rk,0)/\f 0=(pt p)/\f 3=(pt G)/\f 6 = .slice U (K) (E)/\f 7=au (k:Int)/\f 5=au (b:Int)/\aQ S p 27 (mE m) 71/\aQ S m.tb 1 (fun _ => .slice m.ta m.tn m.tc) 123/\Fx.Own S B 128 2 (.slice m.ta (m.tn) (m.tc)) m.tn (PX m.t)/\vY S B 6 m/\aQ S G 14 (bQ v) 32/\Fx.Own S B 66 5 (.slice m.s.ga (m.s.gn) (m.s.gc)) m.s.gn (IK m)/\Fx.Own S qp.heap.size 28 1 (.slice U (K) (E)) K (rv .u64 (fun i=>bF m.t m.tn i (m.g b 2)))/\Fx.Own S B 61 56 (.slice m.s.na (m.s.nn) (m.s.nc)) m.s.nn (flat 56 (fun C=>lW (m.id C) (m.par C) (Rk C)))/\Below B w S) (fun f _=>(K-(intOf (f 7)).toNat)) ⟨0,m.R,by omega,rfl,(by rfl),(by rfl),(by rfl),Fx.ic,((K_ (Value.int .i64) ekg).trans Fx.ic),sD,qc,sZ,nW,mV,tV,hown,sV,b6⟩ ?_;rintro f1 w6 ⟨k,Rk,hk,hRk,Y,Q,h3,h4,h5,qQ,nX,sj,xq,sF,uj,uY,uH,b7⟩;refine Ws<|ay<|aX h4<|aX h3<|av (au K) ?_;by_cases c54:(k:Int)<(K:Int)
  ·refine Lv aG (gW c54)<|aC<|aO<|Wk<|sN<|Ws<|Wb<|Ws ?_;obtain⟨q,hq,eq0,_⟩:=Ec (m:=m) (x:=bF m.t m.tn k (m.g b 2)) (by rw[hTN]; exact rG k (by omega));have ex1:nY m.core (m.g b 2) k=q:=(by show(gQ (fun i=>decide (m.id i=bF m.t m.tn k (m.g b 2))) m.s.nn).toNat=q; rw[eq0]; rfl);refine Wl<|aX Y<|aX h3<|aX h4 ?_;obtain⟨QY,Gb⟩:=uY.addr (by omega);have um:Fx.Own w6 qp.heap.size 28 1 (bO QY K E) K (rv .u64 (fun i=>bF m.t m.tn i (m.g b 2))):=uY.fH (K_ (fun q=>Value.slice q K E) Gb);refine Lv (pf QY k) (dh 1 (hx:=(rfl.trans (K_ (fun q=>Value.slice q (K) (E)) Gb))))<|Lv (aD ((fun i=>bF m.t m.tn i (m.g b 2)) k)) (aN um.aI k) ?_;have uI:Fx.Own w6 qp.heap.size 28 1 (.slice U (K) (E)) K (rv .u64 (fun i=>bF m.t m.tn i (m.g b 2))):=um.fH (K_ (fun q=>Value.slice q K E) Gb.symm);have amI:CZ w6 p { m with R:=Rk } := { c:=qQ.aI,an:=uH.arr,ag:=uj.arr,tc:=nX.aI,at2:=sj.arr,ar:=fun i N=>(xq.1 i N).arr,bn:=(by show m.s.nn<=1000000; omega),bg:=bg,bt:=(by show m.tn<=1000000; omega),br:=H.br };refine dL ((IL { m with R:=Rk } p (bF m.t m.tn k (m.g b 2)) _ amI).mono (fun e w2 Q=>(⟨Q.1.trans (oV eq0),Q.2⟩:e = .returned (au (q:Int))/\_))) _ rfl ?_;intro w7 hb5;have⟨ad,uZ,tu,tC,xw,qg,vg,om⟩:=mM hb5 qQ nX sj xq sF uj uH uI;have b8:=eF hb5 b7 F;refine av (au q)<|aC<|Ws ?_;obtain⟨M,ZP⟩:=vg.addr (by omega);have sG:Fx.Own w7 B 61 56 (bO M m.s.nn m.s.nc) m.s.nn (flat 56 (fun C=>lW (m.id C) (m.par C) (Rk C))):=vg.fH (K_ (fun q=>Value.slice q m.s.nn m.s.nc) ZP);obtain⟨W,eq4⟩:=qg.addr (by omega);have m64:Fx.Own w7 B 66 5 (bO W m.s.gn m.s.gc) m.s.gn (IK m):=qg.fH (K_ (fun q=>Value.slice q m.s.gn m.s.gc) eq4);refine qY (T:=59) (T':=59) (a := .tmp 9) (v := .tmp 85) (m:=54) (z:=rv .i64 (fun _=>0)) (y:=rv .i64 ((bE (Rk q) v.o ((m.g b) 3)).1)) (u := .agg (aA 54 (rv .i64 ((bE (Rk q) v.o ((m.g b) 3)).1)))) 24 25 (List.replicate 27 (0,2,[],[])) #[(pt p),(pt p),(pt p),(pf p 18),.slice m.s.na (m.s.nn) (m.s.nc),au (q:Int),(pf M (56*q)),(pf M (56*q+2)),.agg (aA 54 (rv .i64 (Rk q))),(pt G),au v.o,(pt p),(pt p),(pt p),(pf p 19),.slice m.s.ga (m.s.gn) (m.s.gc),au (b:Int),(pf W (5*b)),(pf W (5*b+3)),au ((m.g b) 3),.tuple #[.agg (aA 54 (rv .i64 ((bE (Rk q) v.o ((m.g b) 3)).1))),au ((bE (Rk q) v.o ((m.g b) 3)).2)],.tuple #[.agg (aA 54 (rv .i64 ((bE (Rk q) v.o ((m.g b) 3)).1))),au ((bE (Rk q) v.o ((m.g b) 3)).2)],.agg (aA 54 (rv .i64 ((bE (Rk q) v.o ((m.g b) 3)).1))),au ((bE (Rk q) v.o ((m.g b) 3)).2),undef,undef,au ((bE (Rk q) v.o ((m.g b) 3)).2)] (by kernel_rfl) (by kernel_rfl) (by kernel_rfl) (by kernel_rfl) (by kernel_rfl) (by kernel_rfl) rfl (by kernel_rfl) rfl rfl (by kernel_rfl) (fun L=>(show ev _ (.tmp 9)=(pt L)from by kernel_rfl)) (fun L=>(show ev _ (.tmp 85) = .agg (aA 54 (rv .i64 ((bE (Rk q) v.o ((m.g b) 3)).1)))from by kernel_rfl)) (bJ _ _) (fun _ _=>rfl) (by kernel_rfl) (fun L => ?_) ?_
   ·refine⟨?_,?_,?_,?_,?_,?_,?_,?_,?_,?_,?_,?_,?_,?_,?_,?_,?_,?_,?_,?_,?_,?_,?_,?_,?_,?_,?_,trivial⟩
    ·exact .inr (.inr (sw (pt p) fun I A=>fE rfl ((bX (by kernel_rfl)).trans Y)))
    ·exact .inr (.inr pR)
    ·exact .inr (.inr pR)
    ·exact .inr (.inr pR)
    ·exact .inr (.inr (sw (.slice m.s.na (m.s.nn) (m.s.nc)) fun I A=>bA (x:=mE m) rfl (show ev _ (.tmp 67)=(pf p 18)from by kernel_rfl) (by kernel_rfl) (ad.aI.below A (by have:=ad.lt; omega)) (i:=18) (by omega) (by omega) rfl))
    ·exact .inr (.inr pR)
    ·exact .inr (.inr (sw (pf M (56*q)) fun I A=>dS rfl ((show ev _ (.tmp 68) = .slice m.s.na (m.s.nn) (m.s.nc)from by kernel_rfl).trans (K_ (fun q=>Value.slice q (m.s.nn) (m.s.nc)) ZP)) (show ev _ (.tmp 69)=au (q:Int)from by kernel_rfl) Tryz.underlying50 (s:=56) (by kernel_rfl) (by omega) (by omega) (by omega)))
    ·exact .inr (.inr pR)
    ·exact .inr (.inr (sw (.agg (aA 54 (rv .i64 (Rk q)))) fun I A=>eG (x:=flat 56 (fun C=>lW (m.id C) (m.par C) (Rk C))) (y:=rv .i64 (Rk q)) rfl (show ev _ (.tmp 71)=(pf M (56*q+2))from by kernel_rfl) (by kernel_rfl) (by kernel_rfl) (sG.aI.below A (by have:=sG.lt; omega)) (i:=56*q+2) (by omega) (by omega) (fun jq hjq=>(Fx.iX (k:=q) (j:=2+jq) (by omega) (by omega)).trans ((fun jq _=>IJ _ _ _ jq) jq hjq))))
    ·exact .inr (.inr (sw (pt G) fun I A=>fM rfl ((bX (by kernel_rfl)).trans Q) Tryz.underlying32 rfl (s:=1) (by kernel_rfl) rfl rfl))
    ·exact .inr (.inr (sw (au v.o) fun I A=>bA (x:=bQ v) rfl (show ev _ (.tmp 73)=(pt G)from by kernel_rfl) (by kernel_rfl) (xw.aI.below A (by have:=xw.lt; omega)) (i:=0) (by omega) (by omega) rfl))
    ·exact .inr (.inr (sw (pt p) fun I A=>fE rfl ((bX (by kernel_rfl)).trans Y)))
    ·exact .inr (.inr pR)
    ·exact .inr (.inr pR)
    ·exact .inr (.inr pR)
    ·exact .inr (.inr (sw (.slice m.s.ga (m.s.gn) (m.s.gc)) fun I A=>bA (x:=mE m) rfl (show ev _ (.tmp 78)=(pf p 19)from by kernel_rfl) (by kernel_rfl) (ad.aI.below A (by have:=ad.lt; omega)) (i:=19) (by omega) (by omega) rfl))
    ·exact .inr (.inr (sw (au b) fun I A=>fE rfl ((bX (by kernel_rfl)).trans h5)))
    ·exact .inr (.inr (sw (pf W (5*b)) fun I A=>dS rfl ((show ev _ (.tmp 79) = .slice m.s.ga (m.s.gn) (m.s.gc)from by kernel_rfl).trans (K_ (fun q=>Value.slice q (m.s.gn) (m.s.gc)) eq4)) (show ev _ (.tmp 80)=au (b:Int)from by kernel_rfl) Tryz.underlying51 (s:=5) (by kernel_rfl) (by omega) (by omega) (by omega)))
    ·exact .inr (.inr pR)
    ·exact .inr (.inr (sw (au ((m.g b) 3)) fun I A=>bA (x:=IK m) rfl (show ev _ (.tmp 82)=(pf W (5*b+3))from by kernel_rfl) (by kernel_rfl) (m64.aI.below A (by have:=m64.lt; omega)) (i:=5*b+3) (by omega) (by omega) (Fx.iC (k:=b) (j:=3) (by omega) (by omega) rfl)))
    ·exact .inr (.inr (Fx.Ik (v := .tuple #[.agg (aA 54 (rv .i64 ((bE (Rk q) v.o ((m.g b) 3)).1))),au ((bE (Rk q) v.o ((m.g b) 3)).2)]) (by kernel_rfl) (by kernel_rfl) (Fx.qbC (fun I A=>rC (args := [.agg (aA 54 (rv .i64 (Rk q))),au v.o,au ((m.g b) 3)]) rfl (Fx.ND (show ev _ (.tmp 72) = .agg (aA 54 (rv .i64 (Rk q)))from by kernel_rfl) (show ev _ (.tmp 74)=au v.o from by kernel_rfl) (show ev _ (.tmp 83)=au ((m.g b) 3)from by kernel_rfl)) Tryz.func111 rfl rfl) (fun I A=>(XE (Rk q) v.o ((m.g b) 3) _).mono fun e v2 h=>⟨h.1,h.2⟩))))
    ·exact .inr (.inr pR)
    ·exact .inr (.inr pR)
    ·exact .inr (.inr pR)
    ·exact .inl rfl
    ·exact .inr (.inl rfl)
    exact .inr (.inr pR)
   rintro L w8 l d Z xA hb6;have acj:p≠L:=t_ (n_ (ad.lt) Z);have acn:m.tb≠L:=t_ (n_ (uZ.lt) Z);have aco:G≠L:=t_ (n_ (xw.lt) Z);have acp:M≠L:=t_ (n_ (sG.lt) Z);have amJ:W≠L:=t_ (n_ (m64.lt) Z);have⟨wP,xB,xC,rF,sH,uJ,wQ,uo⟩:=mM hb6 ad uZ tu tC xw om sG m64;have b9:=eF hb6 b8 F;have Z:w.heap.size<=L:=m_ b8.size Z;have AL:=xA.lt;have q1:l 0=(pt p):=(by rw[d]; exact(bX (by kernel_rfl)).trans Y);have q2:l 3=(pt G):=(by rw[d]; exact(bX (by kernel_rfl)).trans Q);have q3:l 6 = .slice U (K) (E):=(by rw[d]; exact(bX (by kernel_rfl)).trans h3);have q4:l 7=au (k:Int):=(by rw[d]; exact(bX (by kernel_rfl)).trans h4);have q5:l 5=au (b:Int):=(by rw[d]; exact(bX (by kernel_rfl)).trans h5);have q6:l 51=au (k:Int):=(by rw[d]; kernel_rfl);have q7:l 52 = .slice U (K) (E):=(by rw[d]; kernel_rfl);have q8:l 53=au (K:Int):=(by rw[d]; kernel_rfl);have q9:l 54 = .bool true:=(by rw[d]; kernel_rfl);have q10:l 57=(pt p):=(by rw[d]; kernel_rfl);have q11:l 58 = .slice U (K) (E):=(by rw[d]; kernel_rfl);have q12:l 59=au (k:Int):=(by rw[d]; kernel_rfl);have q13:l 60=(pf QY k):=(by rw[d]; kernel_rfl);have q14:l 61=aD ((fun i=>bF m.t m.tn i (m.g b 2)) k):=(by rw[d]; kernel_rfl);have q15:l 62=au (q:Int):=(by rw[d]; kernel_rfl);have q16:l 8=au (q:Int):=(by rw[d]; kernel_rfl);have q17:l 64=(pt p):=(by rw[d]; kernel_rfl);have q18:l 65=(pt p):=(by rw[d]; kernel_rfl);have q19:l 66=(pt p):=(by rw[d]; kernel_rfl);have q20:l 67=(pf p 18):=(by rw[d]; kernel_rfl);have q21:l 68 = .slice m.s.na (m.s.nn) (m.s.nc):=(by rw[d]; kernel_rfl);have q22:l 69=au (q:Int):=(by rw[d]; kernel_rfl);have q23:l 70=(pf M (56*q)):=(by rw[d]; kernel_rfl);have q24:l 71=(pf M (56*q+2)):=(by rw[d]; kernel_rfl);have q25:l 72 = .agg (aA 54 (rv .i64 (Rk q))):=(by rw[d]; kernel_rfl);have q26:l 73=(pt G):=(by rw[d]; kernel_rfl);have q27:l 74=au v.o:=(by rw[d]; kernel_rfl);have q28:l 75=(pt p):=(by rw[d]; kernel_rfl);have q29:l 76=(pt p):=(by rw[d]; kernel_rfl);have q30:l 77=(pt p):=(by rw[d]; kernel_rfl);have q31:l 78=(pf p 19):=(by rw[d]; kernel_rfl);have q32:l 79 = .slice m.s.ga (m.s.gn) (m.s.gc):=(by rw[d]; kernel_rfl);have q33:l 80=au (b:Int):=(by rw[d]; kernel_rfl);have q34:l 81=(pf W (5*b)):=(by rw[d]; kernel_rfl);have q35:l 82=(pf W (5*b+3)):=(by rw[d]; kernel_rfl);have q36:l 83=au ((m.g b) 3):=(by rw[d]; kernel_rfl);have q37:l 84 = .tuple #[.agg (aA 54 (rv .i64 ((bE (Rk q) v.o ((m.g b) 3)).1))),au ((bE (Rk q) v.o ((m.g b) 3)).2)]:=(by rw[d]; kernel_rfl);have q38:l 63 = .tuple #[.agg (aA 54 (rv .i64 ((bE (Rk q) v.o ((m.g b) 3)).1))),au ((bE (Rk q) v.o ((m.g b) 3)).2)]:=(by rw[d]; kernel_rfl);have q39:l 85 = .agg (aA 54 (rv .i64 ((bE (Rk q) v.o ((m.g b) 3)).1))):=(by rw[d]; kernel_rfl);have q40:l 86=au ((bE (Rk q) v.o ((m.g b) 3)).2):=(by rw[d]; kernel_rfl);have q41:l 9=(pt L):=(by rw[d]; kernel_rfl);have q42:l 10=au ((bE (Rk q) v.o ((m.g b) 3)).2):=(by rw[d]; kernel_rfl);clear d;refine sN<|Ws<|ay<|aX q42 ?_;by_cases X:((bE (Rk q) v.o ((m.g b) 3)).2)=0
   ·refine Lv aF (jM X)<|aC<|aK<|Wk<|sN ?_;refine jV [0,1,2,3,5,4,6,7,8,9] [0,0,0,0,4,0,4,0,0,3] [(9,4,[4]),(9,6,[6])] fun BG fO mU => ?_;have⟨yG,vk,xR,ze,xS,wR,vo,uK,xD⟩:=Bt fO wP xB xC rF sH uJ wQ uo xA;have b10:=eF fO b9 F;refine bU q1<|aY (pt p)<|aY (pt p)<|aY (pf p 18)<|bU q16<|Rs (.slice m.s.na (m.s.nn) (m.s.nc)) (aN yG.aI 18) ?_;refine Rs (.agg (aA 54 (rv .i64 ((bE (Rk q) v.o ((m.g b) 3)).1)))) (fI xD.aI 0 (ha:=q41)) ?_;refine Rp (pf M (56*q)) (fun _=>dh 56 (hx:=(rfl.trans (K_ (fun q=>Value.slice q (m.s.nn) (m.s.nc)) ZP))))<|aY (pf M (56*q+2))<|gF<|zS vo (56*q+2) fun w9 zf s10 z2 => ?_;have gK:=gI s10 vo.JH;have⟨wS,zG,zh,zH,zi,zk,zV⟩:=RD gK yG vk xR ze xS wR uK;have b11:=s10.below b10 (m_ F b10.size) vo.blk.1;have BM:Fx.Own w9 B 61 56 (bO M m.s.nn m.s.nc) m.s.nn (flat 56 (fun C=>lW (m.id C) (m.par C) (aH Rk q ((bE (Rk q) v.o ((m.g b) 3)).1) C))):=zf.congr (fun pq hp=>(Fx.Br (k:=q) (j:=2) (by omega) (by omega) pq hp).trans (bK (fun i N j hj=>BX i N j hj) pq hp));refine Ln<|Rn<|bR<|sN<|Wl<|aX q4<|Lv (au ((k:Int)+1)) fC<|av (au ((k:Int)+1))<|Ln ?_;have AQ:Fx.Own w9 B 66 5 (.slice m.s.ga (m.s.gn) (m.s.gc)) m.s.gn (IK m):=zV.fH (K_ (fun q=>Value.slice q m.s.gn m.s.gc) eq4.symm);have Bp:Fx.Own w9 B 61 56 (.slice m.s.na (m.s.nn) (m.s.nc)) m.s.nn (flat 56 (fun C=>lW (m.id C) (m.par C) (aH Rk q ((bE (Rk q) v.o ((m.g b) 3)).1) C))):=BM.fH (K_ (fun q=>Value.slice q m.s.nn m.s.nc) ZP.symm);refine gV ⟨k+1,(aH Rk q (bE (Rk q) v.o (m.g b 3)).1),by omega,(ET hRk ex1 (by first|exact X|exact Classical.not_not.1 X)),q1,q2,q3,Fx.ic,(q5.trans Fx.ic),wS,zG,zh,zH,zi,AQ,zk,Bp,b11⟩ ?_
    show(K-(intOf (au ((k:Int)+1))).toNat)<_;simp only[h4,intOf]; omega
   refine Lv aG (nC X)<|aC<|aO<|ay<|aX q42<|av (au ((bE (Rk q) v.o ((m.g b) 3)).2))<|aC<|Wr<|sR<|bL<|sR<|pV<|bL<|sR<|aJ (au ((bE (Rk q) v.o ((m.g b) 3)).2)) ?_;have O:aL v=a:=(by unfold aL; omega);have aa : ¬ 0<=m.core.kR (aL v) v.req:=(by rw[O]; exact j_ V);have ne2 : ¬ (m.core.grant v.o v.of<0\/m.core.g (zJ m.core v) 4≠0):=(by rw[ac]; exact fun h=>h.elim ab (fun h=>h ae));have ew:lS m.core v=dn (fun x=>bE x v.o (m.g b 3)) (nY m.core (m.g b 2)) m.R K:=(by unfold lS; rw[ac,show fA m.core.t m.core.tn (m.core.g b 2)=K from Ww.symm]; rfl);have J:iI m.core v=(bE (Rk q) v.o (m.g b 3)).2:=by
    unfold iI; rw[b_ aa,b_ ne2,ew];have e1:=GN hRk ex1 X;rw[Af (k:=k+1) (by rw[e1]; exact X) K (by omega)]; exact e1
   exact⟨oV J.symm,b9,fun P=>L_ (J.symm.trans P) X⟩
  refine Lv aF (gX c54)<|aC<|aK<|Wx<|cK<|gJ<|cO<|sN<|Ws ?_;have hRK:dn (fun x=>bE x v.o (m.g b 3)) (nY m.core (m.g b 2)) m.R K=(Rk,0):=by rw[show K=k by omega]; exact hRk
  refine jV [0,1,2,3,5,6,4,7,8,9,10] [0,0,0,0,4,0,0,4,0,0,3] [(10,4,[4]),(10,7,[7])] fun QW lJ AB => ?_;have⟨zm,D9,BN,Ea,Eb,tX,rQ⟩:=jm lJ qQ nX sj xq sF uj uH;have b12:=eF lJ b7 F;refine bU Y<|aY (pt p)<|aY (pt p)<|aY (pf p 19)<|bU h5<|Rp (pf G 12) (fun _=>iZ Q 12)<|Rs (.slice m.s.ga (m.s.gn) (m.s.gc)) (aN zm.aI 19) ?_;refine Rs (aD v.req) (aN Eb.aI 12) ?_;obtain⟨gq5,eq5⟩:=tX.addr (by omega);have rR:Fx.Own QW B 66 5 (bO gq5 m.s.gn m.s.gc) m.s.gn (IK m):=tX.fH (K_ (fun q=>Value.slice q m.s.gn m.s.gc) eq5);refine Rp (pf gq5 (5*b)) (fun _=>dh 5 (hx:=(rfl.trans (K_ (fun q=>Value.slice q (m.s.gn) (m.s.gc)) eq5))))<|aY (pf gq5 (5*b+4))<|gF<|pQ rR (5*b+4) (aD v.req) fun tT nN s12 z3 => ?_;have kg:=gI s12 rR.JH;have⟨nO,oF,nP,oG,ql,pz⟩:=RB kg zm D9 BN Ea Eb rQ;have b13:=s12.below b12 (m_ F b12.size) rR.blk.1;have rT:Fx.Own tT B 66 5 (bO gq5 m.s.gn m.s.gc) m.s.gn (flat 5 (fun C=>jc (aH m.g b (aH (m.g b) 4 v.req) C))):=nN.congr (fun pq hp=>(Fx.Gp (k:=b) (j:=4) (by omega) (by omega) pq hp).trans (bK (fun i N j hj=>Qg i N j hj) pq hp));refine Ln<|bS<|Ws ?_;have wm:Fx.Own tT B 66 5 (.slice m.s.ga (m.s.gn) (m.s.gc)) m.s.gn (flat 5 (fun C=>jc (aH m.g b (aH (m.g b) 4 v.req) C))):=rT.fH (K_ (fun q=>Value.slice q m.s.gn m.s.gc) eq5.symm);have sK:Fx.Own tT B 28 1 (.slice (m.ra a) (m.rn a) (m.rc a)) (m.rn a) (rv .u64 (m.rq a)):=oG.1 a ha;have bra:=H.br a ha;refine zQ [0,1,4,5,8,9,12,16,17,2,3,6,7,10,11,13,14,15,18,19] [0,0,1,0,0,0,1,0,0,0,0,1,0,4,2,2,0,0,0,3] (iD [28]) vL Fx.iD.trans (eZ := [(19,2,[2]),(19,6,[6]),(19,11,[11]),(14,13,[13]),(15,13,[14,13]),(19,13,[13]),(15,14,[14]),(18,14,[14]),(19,14,[14]),(18,15,[15]),(19,15,[15])]) (by kernel_rfl) (by kernel_rfl) (by kernel_rfl) (by kernel_rfl) (by kernel_rfl) fun wt4 qw Gy => ?_;have⟨wo,zY,uQ,rU,oH,wu,wz,qK⟩:=mM qw nO oF nP oG ql pz wm sK;have b14:=eF qw b13 F;refine bU Y<|Rp (pt G) (fun _=>iZ Q 0)<|bU Y<|Rp (pt G) (fun _=>iZ Q 0)<|aY (pt p)<|aY (pf p 21)<|Rp (pf G 12) (fun _=>iZ Q 12)<|aY (pt p)<|aY (pf p 21)<|Rd (v:=au v.o) (by rfl) (by rfl) (vL _) (fun I A=>bA (x:=bQ v) rfl rfl (by kernel_rfl) (oH.kH A (by decide)).aI (i:=0) (by omega) (by omega) rfl) ?_;refine Rp (au a) (fun _=>fV)<|Rd (v:=au v.o) (by rfl) (by rfl) (vL _) (fun I A=>bA (x:=bQ v) rfl rfl (by kernel_rfl) (oH.kH A (by decide)).aI (i:=0) (by omega) (by omega) rfl) ?_;refine Rp (au a) (fun _=>fV)<|Rp (pf p (a+21)) (fun _=>ji 6 1)<|Rd (v := .slice (m.ra a) (m.rn a) (m.rc a)) (by rfl) (by rfl) (vL _) (fun I A=>bA (x:=mE m) rfl rfl (by kernel_rfl) (wo.kH A (by decide)).aI (i:=a+21) (by omega) (by omega) (vX _ (by omega))) ?_;refine Rs (aD v.req) (aN oH.aI 12) ?_;refine yD<|yZ (vs := [(0,aD v.req)]) (s:=1) (zc:=rv .u64 (fun _=>0)) (y:=bI (fun j=>(rv .u64 (fun _=>0)) (j % 1)) (0*1) 1 (fun _=>aD v.req)) (by rfl) rfl rfl Tryz.underlying63 (by kernel_rfl) (by rfl) (by rfl) (by kernel_rfl) (by rw[bD (off:=0*1) (s:=1) (y:=fun _=>aD v.req) rfl (cells_one (by rfl)) (by rfl)]; rfl) rfl fun g3 F3 yH zZ Dw z4 => ?_;have⟨EO,BO,xW,BP,Aa,xX,E5⟩:=jm Dw.old wo zY uQ rU wu wz qK;have b15:=eF Dw.old b14 F;have DY:=jI yH b14.size;have⟨aiB,aiC,aiD⟩:=JL yH wo.lt zY.lt oH.lt;have aiE:(.slice (m.ra a) (m.rn a) (m.rc a):Value).ownBlock≠some g3:=by rw[yH]; exact qK.jX (z_ _)
  have LJ:=zZ.lt;refine Ln ⟨Fx.iD.of_below Dw.old,?_⟩;refine yD<|zx (B:=B) (s:=1) (bytes:=8) (k:=(m.rn a)) (m:=1) (v := .slice (m.ra a) (m.rn a) (m.rc a)) (x:=rv .u64 (m.rq a)) (by rfl) rfl rfl rfl Tryz.underlying63 (by kernel_rfl) (by kernel_rfl) rfl rfl E5 zZ.aI (yM (fun _=>rfl)) (by omega) (by omega) (by omega) (m_ F b15.size) fun g4 E CW ho1 hg1 vR hlt1 => ?_;have rE:=zy hg1 E5;have⟨BR,Ac,DI,Ad,DJ⟩:=rz rE EO BO xW Aa xX;have DF:Fx.Own CW B 28 1 (.slice (some ⟨g4,0,none⟩) ((m.rn a)+1) E) ((m.rn a)+1) (rv .u64 (aH (m.rq a) (m.rn a) v.req)):=(ho1.congr (fun j hj=>Oo j hj));have b16:Below B w CW:=zw b15 hg1 (m_ F b15.size) (fun q hq=>(E5.ge hq).1);have BS:vY CW B 6 { m with ra:=aH m.ra a (some ⟨g4,0,none⟩),rn:=aH m.rn a (m.rn a+1),rc:=aH m.rc a E,rq:=aH m.rq a (aH (m.rq a) (m.rn a) v.req) }:=vY.app BP ha rfl rfl rfl rfl DF hg1 vR;refine Ln ⟨rE,?_⟩;refine Rp (pf p (a+21)) (fun _=>ji 6 1)<|gF<|iM BR (a+21) (.slice (some ⟨g4,0,none⟩) ((m.rn a)+1) (E)) fun F4 E8 s15 z5 => ?_;have xQ:=gI s15 BR.ty;have⟨ER,Ae,AU,IV,Uh⟩:=rz xQ Ac DI Ad DJ BS;have b17:=s15.below b16 (m_ F b16.size) (by omega);refine Ln<|bS<|ay<|av (au 0)<|aC<|Wr<|aJ (au 0) ?_;have O:aL v=a:=by unfold aL; omega
  have aa : ¬ 0<=m.core.kR (aL v) v.req:=by rw[O]; exact j_ V
  have ne2 : ¬ (m.core.grant v.o v.of<0\/m.core.g (zJ m.core v) 4≠0):=by rw[ac]; exact fun h=>h.elim ab (fun h=>h ae)
  have ew:lS m.core v=dn (fun x=>bE x v.o (m.g b 3)) (nY m.core (m.g b 2)) m.R K:=by unfold lS; rw[ac,show fA m.core.t m.core.tn (m.core.g b 2)=K from Ww.symm]; rfl
  have J:iI m.core v=0:=by unfold iI; rw[b_ aa,b_ ne2,ew,hRK]
  have eW:lS m.core v=(Rk,0):=ew.trans hRK;refine⟨oV J.symm,b17,fun _=>⟨{ m with s := { m.s with ga:=m.s.ga,gn:=m.s.gn,gc:=m.s.gc },R:=Rk,g:=aH m.g b (aH (m.g b) 4 v.req),ra:=aH m.ra a (some ⟨g4,0,none⟩),rn:=aH m.rn a (m.rn a+1),rc:=aH m.rc a E,rq:=aH m.rq a (aH (m.rq a) (m.rn a) v.req) },?_,?_⟩⟩
  ·unfold kr qm; rw[eW,O]; rw[ac]; rfl
  exact { c:=E8.to (Ku _ rfl _ _ _),n:=AU,g:=IV,tc:=ER,t:=Ae,r:=Uh,pB:=TQ,tB:=DC,bn:=bn,bg:=(by show m.s.gn<=1000000; omega),bt:=bt,br:=(fun i N=>by show aH m.rn a (m.rn a+1) i<=1000000; have:=ZL i N; have:=ZL a ha; unfold aH; split <;> omega) }
 refine Lv aG (nC ae)<|av aG<|aC<|aO<|ay<|av (au 12)<|aC<|Wr<|sR<|aJ (au 12) ?_;have O:aL v=a:=by unfold aL; omega
 have aa : ¬ 0<=m.core.kR (aL v) v.req:=by rw[O]; exact j_ V
 have J:iI m.core v=12:=by unfold iI; rw[b_ aa,ac]; exact d_ (.inr ae)
 exact⟨oV J.symm,b4,fun P=>by rw[J]at P; cases P⟩
namespace Rt
def wC(L:gy)(v:EvM):Int:=if L.node v.node<0 then 9 else if 140737488355328<L.R (L.node v.node).toNat (aL v)+v.aS then 6 else 0
def Fb(L:gy)(v:EvM):gy := { L with R:=aH L.R (L.node v.node).toNat (upd (L.R (L.node v.node).toNat) (aL v) (L.R (L.node v.node).toNat (aL v)+v.aS)) }
def xY(L:gy)(v:EvM):(Nat->Int) × Int:=cZ (L.R (L.node v.node).toNat) v.o v.dst v.aS
def oI(L:gy)(v:EvM):Int:=if L.node v.node<0 then 9 else if v.dst<1\/6<v.dst\/L.inn (v.dst-1).toNat=false then 10 else(xY L v).2
def Fe(L:gy)(v:EvM):gy := { L with R:=aH L.R (L.node v.node).toNat (xY L v).1 }
noncomputable def dR(L:gy)(v:EvM):Int :=
 if v.kind=1 then ko L v else if v.kind=2 then wC L v else if v.kind=3 then iT L v else if v.kind=4 then iI L v else if v.kind=5 then oI L v else 0
def iJ(L:gy)(v:EvM):gy :=
 if v.kind=1 then qj L v else if v.kind=2 then Fb L v else if v.kind=3 then lQ L v else if v.kind=4 then kr L v else if v.kind=5 then Fe L v
 else if v.kind=6 then { L with inn:=aH L.inn (v.dst-1).toNat true } else { L with left:=aH L.left (aL v) true }
theorem MN{n q a:Nat}{id par:Nat->Int}{R:Nat->Nat->Int}{x:Int} : ∀ i,i<n -> ∀ j,j<56->Fx.qE (fun b=>lW (id b) (par b) (R b)) q (dA (lW (id q) (par q) (R q)) (a+2) (au x)) i j=lW (id i) (par i) (aH R q (upd (R q) a x) i) j:=fun i _ j _=>by
 unfold Fx.qE;by_cases h:i=q
 ·subst h; rw[d_ rfl,Og rfl]; unfold aH; rw[d_ rfl]
 ·rw[b_ h]; unfold aH; rw[b_ h]
theorem XP(m:lu){i:Nat}(hi:i<6):dA (mE m) i (.bool true)=mE { m with s := { m.s with inn:=aH m.s.inn i true } }:=by
 funext p
 unfold dA mE;by_cases h:p=i
 ·subst h; rw[d_ rfl,d_ (by omega)]; unfold nL; rw[d_ hi]; simp[aH]
 rw[b_ h];by_cases a:p<20
 ·rw[d_ a,d_ a]; unfold nL;by_cases b:p<6
  ·rw[d_ b,d_ b]; simp[aH,h]
  rw[b_ b,b_ b]
 rw[b_ a,b_ a]
theorem Uk(m:lu){i q:Nat}(hi:i<6)(d:q=i+6):dA (mE m) q (.bool true)=mE { m with s := { m.s with left:=aH m.s.left i true } }:=by
 subst d
 funext p
 unfold dA mE;by_cases h:p=i+6
 ·subst h; rw[d_ rfl,d_ (by omega)]; unfold nL; rw[b_ (by omega),d_ (by omega)]; simp[aH]
 rw[b_ h];by_cases a:p<20
 ·rw[d_ a,d_ a]; unfold nL;by_cases b:p<6
  ·rw[d_ b,d_ b]
  rw[b_ b,b_ b];by_cases c:p<12
  ·rw[d_ c,d_ c]; simp[aH,show ¬ p-6=i by omega]
  rw[b_ c,b_ c]
 rw[b_ a,b_ a]
theorem Qh(m:lu){i q:Nat}(hi:i<6)(e:q=i+12)(x:Int):dA (mE m) q (aD x)=mE { m with s := { m.s with known:=aH m.s.known i x } }:=by
 subst e
 funext p
 unfold dA mE;by_cases h:p=i+12
 ·subst h; rw[d_ rfl,d_ (by omega)]; unfold nL; rw[b_ (by omega),b_ (by omega),d_ (by omega)]; simp[aH]
 rw[b_ h];by_cases a:p<20
 ·rw[d_ a,d_ a]; unfold nL;by_cases b:p<6
  ·rw[d_ b,d_ b]
  rw[b_ b,b_ b];by_cases c:p<12
  ·rw[d_ c,d_ c]
  rw[b_ c,b_ c];by_cases d:p<18
  ·rw[d_ d,d_ d]; simp[aH,show ¬ p-12=i by omega]
  rw[b_ d,b_ d]
 rw[b_ a,b_ a]
theorem iY{v:EvM}(h:bM v=true):1<=v.kind/\v.kind<=7:=by
 unfold bM at h;simp only[R_]at h;have a:=h.2;unfold dw at a;split at a; · omega
 split at a; · omega
 split at a; · omega
 split at a; · omega
 split at a; · omega
 split at a; · omega
 have:=h_ a; omega
theorem kU{v:EvM}(h:bM v=true)(c:v.kind=2\/v.kind=3\/v.kind=5):1<=v.aS/\v.aS<=1125899906842624:=by
 unfold bM at h;simp only[R_]at h;have a:=h.2;unfold dw at a;rw[b_ (by omega)]at a;have b:someE v=true->1<=v.aS/\v.aS<=1125899906842624:=fun h=>by unfold someE at h; simpa using h
 split at a; · exact b a
 split at a; · rw[R_]at a; exact b a.1
 rw[b_ (by omega)]at a;split at a; · rw[R_]at a; exact b a.1
 omega
theorem GQ{v:EvM}(h:bM v=true)(c:v.kind=6) : ∃ b:Nat,b<6/\v.dst=(b:Int)+1:=by
 unfold bM at h;simp only[R_]at h;have a:=h.2;unfold dw at a;rw[b_ (by omega),b_ (by omega),b_ (by omega),b_ (by omega),b_ (by omega),d_ c]at a;unfold lM at a;rw[R_]at a;exact fu a.1
end Rt
set_option maxRecDepth 20000 in
set_option maxHeartbeats 2000000 in
theorem acr(m:lu)(B p a:Nat)(v:EvM)(w:World)(S:vw w B p m)(H:B<=w.heap.size)(ha:a<6)(ho:v.o=(a:Int)+1)(bnn:m.s.nn<=900)(bgg:m.s.gn<=900000)(ZL : ∀ i,i<6->m.rn i<=900000)(hTN : ∀ x,m.node x=bC m.t m.tn x)(hDx : ∀ x,∃ D,D<=1000/\bC m.t m.tn (bF m.t m.tn D x)<0)(hv:fK v)(hmay:bM v=true)(hR : ∀ k,k<m.s.nn->may (m.R k)=true) :
 Calls Tryz.prog 54 #[(pt p),.agg (aA 14 (bQ v))] w fun e w'=>e = .returned (au (dR m.core v))/\Below B w w'/\(dR m.core v=0 -> ∃ m',m'.core=iJ m.core v/\vw w' B p m'):=by
 have TQ:=S.pB;have DC:=S.tB;have bn:=S.bn;have bg:=S.bg;have bt:=S.bt;have lpp:p<w.heap.size:=S.c.lt;have QV:m.tb<w.heap.size:=S.tc.lt;have hvk:=hv.kind;have hvt:=hv.dst;have hkr:=iY hmay;obtain⟨D,hD2,hD⟩:=hDx v.node;refine Kent Tryz.func54 152 ?_;refine ay<|qP fun I w1 lK W s1 z1 => ?_;have C:=bG s1.old S;have X:=eF s1.old (Below.refl B w) H;have uh:=jI lK (Below.refl B w).size;have vS:=W.lt;refine av (au 0)<|aC<|Ws<|ay<|av (pf I 8)<|Lv (.int .u8 (v.kind)) (aN W.aI 8)<|aC<|Wb<|ay ?_;by_cases F:v.kind=1
 ·refine Lv aG (dX F)<|av aG<|aC<|aO<|ay<|av (pt p)<|Lv (.agg (aA 14 (bQ v))) (fI W.aI 0)<|dL (Xz m B p a D v _ C (m_ H X.size) ha ho bnn hD hD2) _ rfl ?_;rintro w2 ⟨hb1,hr1⟩;have b2:Below B w w2:=X.trans hb1;refine av (au (ko m.core v))<|aC<|Wr<|bL<|sR<|aJ (au (ko m.core v)) ?_;have A:dR m.core v=ko m.core v:=by unfold dR; rw[d_ F]
  have ec:iJ m.core v=qj m.core v:=by unfold iJ; rw[d_ F]
  exact⟨oV A.symm,b2,fun E=>by rw[ec]; exact hr1 (A.symm.trans E)⟩
 refine Lv aF (fF F)<|av aF<|aC<|aK<|ay ?_;by_cases G:v.kind=2
 ·refine Lv aG (dX G)<|av aG<|aC<|aO<|Ws ?_;have aa:=C.c;have ac:=C.n;have ab:=C.g;have ae:=C.tc;have af:=C.t;have ad:=C.r;refine Wl<|av (pt p)<|av (pf I 9)<|Lv (aD v.node) (aN W.aI 9) ?_;have MK:CZ w1 p m := { c:=aa.aI,an:=ac.arr,ag:=ab.arr,tc:=ae.aI,at2:=af.arr,ar:=fun i hi=>(ad.1 i hi).arr,bn:=(by show m.s.nn<=1000000; omega),bg:=bg,bt:=(by show m.tn<=1000000; omega),br:=S.br };refine dL (IL m p v.node _ MK) _ rfl ?_;intro w3 hb2;have⟨m3,m4,m5,m6,m7,m8,m9⟩:=jm hb2 W aa ac ab ae af ad;have b3:=eF hb2 X H;refine av (au (m.node v.node))<|aC<|Ws<|ay<|av (au (m.node v.node)) ?_;by_cases c23:(m.node v.node)<0
  ·refine Lv aG (gW c23)<|aC<|aO<|ay<|av (au 9)<|aC<|Wr<|sR<|bL<|sR<|aJ (au 9) ?_;have P:aL v=a:=(by unfold aL; omega);have A:dR m.core v=9:=(by unfold dR; rw[b_ F,d_ G]; unfold wC; exact d_ c23);exact⟨oV A.symm,b3,fun E=>by rw[A]at E; cases E⟩
  obtain⟨d,hkq,V,_⟩:=Ec (m:=m) (x:=v.node) (by omega);have V:m.node v.node=(d:Int):=V;have ekN:(m.core.node v.node).toNat=d:=by show(m.node v.node).toNat=d; rw[V]; rfl
  refine Lv aF (gX c23)<|aC<|aK<|Wk<|sN<|Ws<|Ws ?_;have hRb:=mD (hR d hkq) a (by omega);have hab:=kU hmay (.inl G);refine xM<|aU (pt p)<|aU (pt p)<|aU (pt p)<|aU (pf p 18)<|Qv (.slice m.s.na (m.s.nn) (m.s.nc)) (fun l f=>aN (m4.aI.dr f) 18)<|dY (K_ (Value.int .i64) V)<|aU (pt I)<|Qv (au v.o) (fun l f=>aN (m3.aI.dr f) 0)<|Qv (au a) (fun l f=>fV) ?_;obtain⟨Q,eq1⟩:=m5.addr (by omega);have m10:Fx.Own w3 B 61 56 (bO Q m.s.nn m.s.nc) m.s.nn (Js m):=m5.fH (K_ (fun q=>Value.slice q m.s.nn m.s.nc) eq1);refine Qv (pf Q (56*d)) (fun l f=>dh 56 (hx:=(rfl.trans (K_ (fun q=>Value.slice q (m.s.nn) (m.s.nc)) eq1))))<|aU (pf Q (56*d+2))<|aU (pf Q (56*d+2))<|Qv (pf Q (a+56*d+2)) (fun l f=>ji 6 1)<|Qv (au ((m.R d) a)) (fun l f=>aN (m10.aI.dr f) (a+56*d+2) (Fx.iC (k:=d) (j:=a+2) (by omega) (by omega) (MF _ _ _ (by omega))))<|aU (pf I 11)<|Qv (au v.aS) (fun l f=>aN (m3.aI.dr f) 11)<|Qv (au (((m.R d) a)+v.aS)) (fun l f=>fC) ?_;by_cases c41:140737488355328<(((m.R d) a)+v.aS)
  ·refine Qv aG (fun l f=>mI c41)<|Qn ?_;rintro _ ⟨L,rfl⟩;obtain⟨CY,rP⟩ : ∃ l,l=World.drewN w3 L:=⟨_,rfl⟩;rw[<- rP];have s3:Stp w3.heap.size w3 CY:=(by rw[rP]; exact Sb (jH w3 L));have b4:=eF s3.old b3 H;clear rP;refine sN<|aO<|ay<|av (au 6)<|aC<|Wr<|sR<|bL<|sR<|aJ (au 6) ?_;have P:aL v=a:=(by unfold aL; omega);have A:dR m.core v=6:=(by unfold dR; rw[b_ F,d_ G]; unfold wC; rw[ekN,P,b_ (show ¬ m.core.node v.node<0 from c23)]; exact d_ c41);exact⟨oV A.symm,b4,fun E=>by rw[A]at E; cases E⟩
  refine Qv aF (fun l f=>mJ c41)<|Qn ?_;rintro _ ⟨L,rfl⟩;obtain⟨wq2,vZ⟩ : ∃ l,l=World.drewN w3 L:=⟨_,rfl⟩;rw[<- vZ];have s4:Stp w3.heap.size w3 wq2:=by rw[vZ]; exact Sb (jH w3 L)
  have⟨m18,m19,m20,m21,m22,m23,m24⟩:=jm s4.old m3 m4 m6 m7 m8 m9 m10;have b5:=eF s4.old b3 H;clear vZ;refine sN<|aK<|Wk<|sN ?_;refine jV [0,1,2,3,5,6,14,4,9,10,11,17,18,19,7,8,12,13,15,16,20,21] [0,0,0,0,4,0,0,4,0,0,0,0,0,4,0,4,0,0,0,0,0,3] [(21,4,[4]),(21,7,[7]),(21,13,[13]),(21,15,[15])] fun qp dQ iA => ?_;have⟨nT,mY,pY,oN,qx,oZ,lV⟩:=jm dQ m18 m19 m20 m21 m22 m23 m24;have b6:=eF dQ b5 H;refine aY (pt p)<|aY (pt p)<|aY (pt p)<|aY (pf p 18)<|bU (K_ (Value.int .i64) V)<|aY (pt I)<|aY (pf I 11)<|Rs (.slice m.s.na (m.s.nn) (m.s.nc)) (aN mY.aI 18) ?_;refine Rp (pf Q (56*d)) (fun _=>dh 56 (hx:=(rfl.trans (K_ (fun q=>Value.slice q (m.s.nn) (m.s.nc)) eq1))))<|aY (pf Q (56*d+2))<|aY (pf Q (56*d+2))<|Rp (pf Q (56*d)) (fun _=>dh 56 (hx:=(rfl.trans (K_ (fun q=>Value.slice q (m.s.nn) (m.s.nc)) eq1))))<|aY (pf Q (56*d+2))<|aY (pf Q (56*d+2))<|Rs (au v.o) (aN nT.aI 0) ?_;refine Rp (au a) (fun _=>fV)<|Rp (pf Q (a+56*d+2)) (fun _=>ji 6 1)<|Rs (au ((m.R d) a)) (aN lV.aI (a+56*d+2) (Fx.iC (k:=d) (j:=a+2) (by omega) (by omega) (MF _ _ _ (by omega)))) ?_;refine Rs (au v.aS) (aN nT.aI 11) ?_;refine Rp (au (((m.R d) a)+v.aS)) (fun _=>fC)<|Rp (pf Q (a+56*d+2)) (fun _=>ji 6 1)<|gF<|pQ lV (a+56*d+2) (au (((m.R d) a)+v.aS)) fun w4 m32 s6 z2 => ?_;have gK:=gI s6 lV.JH;have⟨oO,qb,qH,sD,sV⟩:=rz gK mY pY oN qx oZ;have b7:=s6.below b6 (m_ H b6.size) lV.blk.1;have qc:Fx.Own w4 B 61 56 (bO Q m.s.nn m.s.nc) m.s.nn (flat 56 (fun O=>lW (m.id O) (m.par O) (aH m.R d (upd (m.R d) a (((m.R d) a)+v.aS)) O))):=m32.congr (fun pq hp=>(Fx.Gp (k:=d) (j:=a+2) (by omega) (by omega) pq hp).trans (bK (fun i hi j hj=>MN (a:=a) (x:=((m.R d) a)+v.aS) (q:=d) (id:=m.id) (par:=m.par) (R:=m.R) i hi j hj) pq hp));refine Ln<|Rn<|bR<|sN<|ay<|av (au 0)<|aC<|Wr<|aJ (au 0) ?_;have P:aL v=a:=by unfold aL; omega
  have sZ:Fx.Own w4 B 61 56 (.slice m.s.na (m.s.nn) (m.s.nc)) m.s.nn (flat 56 (fun O=>lW (m.id O) (m.par O) (aH m.R d (upd (m.R d) a (((m.R d) a)+v.aS)) O))):=qc.fH (K_ (fun q=>Value.slice q m.s.nn m.s.nc) eq1.symm);have A:dR m.core v=0:=by unfold dR; rw[b_ F,d_ G]; unfold wC; rw[ekN,P,b_ (show ¬ m.core.node v.node<0 from c23)]; exact b_ c41
  refine⟨oV A.symm,b7,fun _=>⟨{ m with R:=aH m.R d (upd (m.R d) a (m.R d a+v.aS)) },by symm; unfold iJ; rw[b_ F,d_ G]; unfold Fb; rw[ekN,P]; rfl,?_⟩⟩;exact { c:=oO,n:=sZ,g:=qb,tc:=qH,t:=sD,r:=sV,pB:=TQ,tB:=DC,bn:=bn,bg:=bg,bt:=bt,br:=S.br }
 refine Lv aF (fF G)<|av aF<|aC<|aK<|ay ?_;by_cases K:v.kind=3
 ·refine Lv aG (dX K)<|av aG<|aC<|aO<|ay<|av (pt p)<|Lv (.agg (aA 14 (bQ v))) (fI W.aI 0)<|dL (XG m B p a D v _ C (m_ H X.size) ha ho bgg ZL hTN hD hD2) _ rfl ?_;rintro w5 ⟨hb3,hr2⟩;have b8:Below B w w5:=X.trans hb3;refine av (au (iT m.core v))<|aC<|Wr<|bL<|sR<|aJ (au (iT m.core v)) ?_;have A:dR m.core v=iT m.core v:=by unfold dR; rw[b_ F,b_ G,d_ K]
  have ec:iJ m.core v=lQ m.core v:=by unfold iJ; rw[b_ F,b_ G,d_ K]
  exact⟨oV A.symm,b8,fun E=>by rw[ec]; exact hr2 (A.symm.trans E)⟩
 refine Lv aF (fF K)<|av aF<|aC<|aK<|ay ?_;by_cases N:v.kind=4
 ·refine Lv aG (dX N)<|av aG<|aC<|aO<|ay<|av (pt p)<|Lv (.agg (aA 14 (bQ v))) (fI W.aI 0)<|dL (XO m B p a  v _ C (m_ H X.size) ha ho bgg ZL hTN hDx) _ rfl ?_;rintro w6 ⟨hb4,hr3⟩;have J:Below B w w6:=X.trans hb4;refine av (au (iI m.core v))<|aC<|Wr<|bL<|sR<|aJ (au (iI m.core v)) ?_;have A:dR m.core v=iI m.core v:=by unfold dR; rw[b_ F,b_ G,b_ K,d_ N]
  have ec:iJ m.core v=kr m.core v:=by unfold iJ; rw[b_ F,b_ G,b_ K,d_ N]
  exact⟨oV A.symm,J,fun E=>by rw[ec]; exact hr3 (A.symm.trans E)⟩
 refine Lv aF (fF N)<|av aF<|aC<|aK<|ay ?_;by_cases U:v.kind=5
 ·refine Lv aG (dX U)<|av aG<|aC<|aO<|Ws ?_;have aa:=C.c;have ac:=C.n;have ab:=C.g;have ae:=C.tc;have af:=C.t;have ad:=C.r;refine Wl<|av (pt p)<|av (pf I 9)<|Lv (aD v.node) (aN W.aI 9) ?_;have Uf:CZ w1 p m := { c:=aa.aI,an:=ac.arr,ag:=ab.arr,tc:=ae.aI,at2:=af.arr,ar:=fun i hi=>(ad.1 i hi).arr,bn:=(by show m.s.nn<=1000000; omega),bg:=bg,bt:=(by show m.tn<=1000000; omega),br:=S.br };refine dL (IL m p v.node _ Uf) _ rfl ?_;intro M hb5;have⟨nW,mV,nk,tV,qQ,nX,sj⟩:=jm hb5 W aa ac ab ae af ad;have b10:=eF hb5 X H;refine av (au (m.node v.node))<|aC<|Ws<|ay<|av (au (m.node v.node)) ?_;by_cases c80:(m.node v.node)<0
  ·refine Lv aG (gW c80)<|aC<|aO<|ay<|av (au 9)<|aC<|Wr<|sR<|bL<|sR<|aJ (au 9) ?_;have P:aL v=a:=(by unfold aL; omega);have A:dR m.core v=9:=(by unfold dR; rw[b_ F,b_ G,b_ K,b_ N,d_ U]; unfold oI; exact d_ c80);exact⟨oV A.symm,b10,fun E=>by rw[A]at E; cases E⟩
  obtain⟨d,hkq,V,_⟩:=Ec (m:=m) (x:=v.node) (by omega);have V:m.node v.node=(d:Int):=V;have ekN:(m.core.node v.node).toNat=d:=by show(m.node v.node).toNat=d; rw[V]; rfl
  refine Lv aF (gX c80)<|aC<|aK<|Wk<|sN<|Ws<|Ws ?_;refine xM<|aU (pf I 10)<|Qv (au v.dst) (fun l f=>aN (nW.aI.dr f) 10) ?_;by_cases c83:v.dst<1
  ·refine Qv aG (fun l f=>gW c83)<|aU aG<|aP<|aP<|aP<|aU aG<|aU aG<|aP<|aP<|aP<|aP<|aP<|aP<|aP<|aP<|aP<|aP<|aU aG<|Qn ?_;rintro _ ⟨L,rfl⟩;obtain⟨Qc,E9⟩ : ∃ l,l=World.drewN M L:=⟨_,rfl⟩;rw[<- E9];have s8:Stp M.heap.size M Qc:=(by rw[E9]; exact Sb (jH M L));have b11:=eF s8.old b10 H;clear E9;refine sN<|aO<|ay<|av (au 10)<|aC<|Wr<|sR<|bL<|sR<|aJ (au 10) ?_;have P:aL v=a:=(by unfold aL; omega);have A:dR m.core v=10:=(by unfold dR; rw[b_ F,b_ G,b_ K,b_ N,d_ U]; unfold oI; rw[b_ (show ¬ m.core.node v.node<0 from c80)]; exact d_ (.inl c83));exact⟨oV A.symm,b11,fun E=>by rw[A]at E; cases E⟩
  refine Qv aF (fun l f=>gX c83)<|aU aF<|aU (pf I 10)<|Qv (au v.dst) (fun l f=>aN (nW.aI.dr f) 10) ?_;by_cases c87:6<v.dst
  ·refine Qv aG (fun l f=>mI c87)<|aU aG<|aU aG<|aP<|aP<|aP<|aP<|aP<|aP<|aP<|aP<|aP<|aP<|aU aG<|Qn ?_;rintro _ ⟨L,rfl⟩;obtain⟨wq4,Fa⟩ : ∃ l,l=World.drewN M L:=⟨_,rfl⟩;rw[<- Fa];have s9:Stp M.heap.size M wq4:=(by rw[Fa]; exact Sb (jH M L));have b12:=eF s9.old b10 H;clear Fa;refine sN<|aO<|ay<|av (au 10)<|aC<|Wr<|sR<|bL<|sR<|aJ (au 10) ?_;have P:aL v=a:=(by unfold aL; omega);have A:dR m.core v=10:=(by unfold dR; rw[b_ F,b_ G,b_ K,b_ N,d_ U]; unfold oI; rw[b_ (show ¬ m.core.node v.node<0 from c80)]; exact d_ (.inr (.inl c87)));exact⟨oV A.symm,b12,fun E=>by rw[A]at E; cases E⟩
  obtain⟨J,hb9,eb9⟩ : ∃ b:Nat,b<6/\v.dst=(b:Int)+1:=⟨(v.dst-1).toNat,by omega,by omega⟩;refine Qv aF (fun l f=>mJ c87)<|aU aF<|aU aF<|aU (pt p)<|aU (pf I 10)<|Qv (au v.dst) (fun l f=>aN (nW.aI.dr f) 10)<|Qv (au J) (fun l f=>fV)<|aU (pt p)<|aU (pt p)<|aU (pt p)<|Qv (pf p J) (fun l f=>ji 6 1) ?_;by_cases c98:(m.s.inn J)=true
  ·refine Qv aG (fun l f=>aN (mV.aI.dr f) J ((lN _ (by omega) (zX _ (by omega))).trans (K_ Value.bool c98)))<|aU aF<|aU aF<|Qn ?_;rintro _ ⟨L,rfl⟩;obtain⟨wq5,ML⟩ : ∃ l,l=World.drewN M L:=⟨_,rfl⟩;rw[<- ML];have s10:Stp M.heap.size M wq5:=(by rw[ML]; exact Sb (jH M L));have⟨om,sG,m64,xA,wP,xB,xC⟩:=jm s10.old nW mV nk tV qQ nX sj;have b13:=eF s10.old b10 H;clear ML;refine sN<|aK<|Wk<|sN<|Ws ?_;obtain⟨Z,Gb⟩:=m64.addr (by omega);have rF:Fx.Own wq5 B 61 56 (bO Z m.s.nn m.s.nc) m.s.nn (Js m):=m64.fH (K_ (fun q=>Value.slice q m.s.nn m.s.nc) Gb);refine qY (T:=59) (T':=59) (a := .tmp 7) (v := .tmp 118) (m:=54) (z:=rv .i64 (fun _=>0)) (y:=rv .i64 ((cZ (m.R d) v.o v.dst v.aS).1)) (u := .agg (aA 54 (rv .i64 ((cZ (m.R d) v.o v.dst v.aS).1)))) 19 20 (List.replicate 22 (0,2,[],[])) #[(pt p),(pt p),(pt p),(pf p 18),.slice m.s.na (m.s.nn) (m.s.nc),au (d:Int),(pf Z (56*d)),(pf Z (56*d+2)),.agg (aA 54 (rv .i64 (m.R d))),(pt I),au v.o,(pf I 10),au v.dst,(pf I 11),au v.aS,.tuple #[.agg (aA 54 (rv .i64 ((cZ (m.R d) v.o v.dst v.aS).1))),au ((cZ (m.R d) v.o v.dst v.aS).2)],.tuple #[.agg (aA 54 (rv .i64 ((cZ (m.R d) v.o v.dst v.aS).1))),au ((cZ (m.R d) v.o v.dst v.aS).2)],.agg (aA 54 (rv .i64 ((cZ (m.R d) v.o v.dst v.aS).1))),au ((cZ (m.R d) v.o v.dst v.aS).2),undef,undef,au ((cZ (m.R d) v.o v.dst v.aS).2)] (by kernel_rfl) (by kernel_rfl) (by kernel_rfl) (by kernel_rfl) (by kernel_rfl) (by kernel_rfl) rfl (by kernel_rfl) rfl rfl (by kernel_rfl) (fun Y=>(show ev _ (.tmp 7)=(pt Y)from by kernel_rfl)) (fun Y=>(show ev _ (.tmp 118) = .agg (aA 54 (rv .i64 ((cZ (m.R d) v.o v.dst v.aS).1)))from by kernel_rfl)) (bJ _ _) (fun _ _=>rfl) (by kernel_rfl) (fun Y => ?_) ?_
   ·refine⟨?_,?_,?_,?_,?_,?_,?_,?_,?_,?_,?_,?_,?_,?_,?_,?_,?_,?_,?_,?_,?_,?_,trivial⟩
    ·exact .inr (.inr pR)
    ·exact .inr (.inr pR)
    ·exact .inr (.inr pR)
    ·exact .inr (.inr pR)
    ·exact .inr (.inr (sw (.slice m.s.na (m.s.nn) (m.s.nc)) fun l f=>bA (x:=mE m) rfl (show ev _ (.tmp 105)=(pf p 18)from by kernel_rfl) (by kernel_rfl) (sG.aI.below f (by have:=sG.lt; omega)) (i:=18) (by omega) (by omega) rfl))
    ·exact .inr (.inr (sw (au d) fun l f=>fE rfl ((bX (by kernel_rfl)).trans (K_ (Value.int .i64) V))))
    ·exact .inr (.inr (sw (pf Z (56*d)) fun l f=>dS rfl ((show ev _ (.tmp 106) = .slice m.s.na (m.s.nn) (m.s.nc)from by kernel_rfl).trans (K_ (fun q=>Value.slice q (m.s.nn) (m.s.nc)) Gb)) (show ev _ (.tmp 107)=au (d:Int)from by kernel_rfl) Tryz.underlying50 (s:=56) (by kernel_rfl) (by omega) (by omega) (by omega)))
    ·exact .inr (.inr pR)
    ·exact .inr (.inr (sw (.agg (aA 54 (rv .i64 (m.R d)))) fun l f=>eG (x:=Js m) (y:=rv .i64 (m.R d)) rfl (show ev _ (.tmp 109)=(pf Z (56*d+2))from by kernel_rfl) (by kernel_rfl) (by kernel_rfl) (rF.aI.below f (by have:=rF.lt; omega)) (i:=56*d+2) (by omega) (by omega) (fun jq hjq=>(Fx.iX (k:=d) (j:=2+jq) (by omega) (by omega)).trans ((fun jq _=>IJ _ _ _ jq) jq hjq))))
    ·exact .inr (.inr pR)
    ·exact .inr (.inr (sw (au v.o) fun l f=>bA (x:=bQ v) rfl (show ev _ (.tmp 111)=(pt I)from by kernel_rfl) (by kernel_rfl) (om.aI.below f (by have:=om.lt; omega)) (i:=0) (by omega) (by omega) rfl))
    ·exact .inr (.inr pR)
    ·exact .inr (.inr (sw (au v.dst) fun l f=>bA (x:=bQ v) rfl (show ev _ (.tmp 113)=(pf I 10)from by kernel_rfl) (by kernel_rfl) (om.aI.below f (by have:=om.lt; omega)) (i:=10) (by omega) (by omega) rfl))
    ·exact .inr (.inr pR)
    ·exact .inr (.inr (sw (au v.aS) fun l f=>bA (x:=bQ v) rfl (show ev _ (.tmp 115)=(pf I 11)from by kernel_rfl) (by kernel_rfl) (om.aI.below f (by have:=om.lt; omega)) (i:=11) (by omega) (by omega) rfl))
    ·exact .inr (.inr (Fx.Ik (v := .tuple #[.agg (aA 54 (rv .i64 ((cZ (m.R d) v.o v.dst v.aS).1))),au ((cZ (m.R d) v.o v.dst v.aS).2)]) (by kernel_rfl) (by kernel_rfl) (Fx.qbC (fun l f=>rC (args := [.agg (aA 54 (rv .i64 (m.R d))),au v.o,au v.dst,au v.aS]) rfl (Fx.Q9 (show ev _ (.tmp 110) = .agg (aA 54 (rv .i64 (m.R d)))from by kernel_rfl) (show ev _ (.tmp 112)=au v.o from by kernel_rfl) (show ev _ (.tmp 114)=au v.dst from by kernel_rfl) (show ev _ (.tmp 116)=au v.aS from by kernel_rfl)) Tryz.func81 rfl rfl) (fun l f=>(XF (m.R d) v.o v.dst v.aS _).mono fun e v2 h=>⟨h.1,h.2⟩))))
    ·exact .inr (.inr pR)
    ·exact .inr (.inr pR)
    ·exact .inr (.inr pR)
    ·exact .inl rfl
    ·exact .inr (.inl rfl)
    exact .inr (.inr pR)
   rintro Y w8 f1 hf1 su sH hb6;have amL:I≠Y:=t_ (n_ (om.lt) su);have acp:p≠Y:=t_ (n_ (sG.lt) su);have amM:m.tb≠Y:=t_ (n_ (wP.lt) su);have amN:Z≠Y:=t_ (n_ (rF.lt) su);have⟨wQ,uo,yG,vk,xR,ze⟩:=ru hb6 sG xA wP xB xC rF;have b14:=eF hb6 b13 H;have su:w.heap.size<=Y:=m_ b13.size su;have AL:=sH.lt;have q1:f1 0=(pt p):=(by rw[hf1]; kernel_rfl);have q2:f1 4=au 0:=(by rw[hf1]; kernel_rfl);have q3:f1 6=au (d:Int):=(by rw[hf1]; exact(bX (by kernel_rfl)).trans (K_ (Value.int .i64) V));have q4:f1 7=(pt Y):=(by rw[hf1]; kernel_rfl);have q5:f1 8=au ((cZ (m.R d) v.o v.dst v.aS).2):=(by rw[hf1]; kernel_rfl);clear hf1;refine sN<|Ws<|ay<|aX q5 ?_;by_cases XQ:((cZ (m.R d) v.o v.dst v.aS).2)=0
   ·refine Lv aF (jM XQ)<|aC<|aK<|Wk<|sN ?_;refine jV [0,1,2,3,5,4,6,7,8,9] [0,0,0,0,4,0,4,0,0,3] [(9,4,[4]),(9,6,[6])] fun BG fO mU => ?_;have⟨wR,vo,uK,xD,zf,wS,zG⟩:=jm fO wQ uo yG vk xR ze sH;have b15:=eF fO b14 H;refine bU q1<|aY (pt p)<|aY (pt p)<|aY (pf p 18)<|bU q3<|Rs (.slice m.s.na (m.s.nn) (m.s.nc)) (aN wR.aI 18) ?_;refine Rs (.agg (aA 54 (rv .i64 ((cZ (m.R d) v.o v.dst v.aS).1)))) (fI zG.aI 0 (ha:=q4)) ?_;refine Rp (pf Z (56*d)) (fun _=>dh 56 (hx:=(rfl.trans (K_ (fun q=>Value.slice q (m.s.nn) (m.s.nc)) Gb))))<|aY (pf Z (56*d+2))<|gF<|zS wS (56*d+2) fun w9 zh s13 z3 => ?_;have kg:=gI s13 wS.JH;have⟨zi,zk,zV,Dx,BM⟩:=rz kg wR vo uK xD zf;have b16:=s13.below b15 (m_ H b15.size) wS.blk.1;have Bp:Fx.Own w9 B 61 56 (bO Z m.s.nn m.s.nc) m.s.nn (flat 56 (fun O=>lW (m.id O) (m.par O) (aH m.R d ((cZ (m.R d) v.o v.dst v.aS).1) O))):=zh.congr (fun pq hp=>(Fx.Br (k:=d) (j:=2) (by omega) (by omega) pq hp).trans (bK (fun i hi j hj=>BX (r:=(cZ (m.R d) v.o v.dst v.aS).1) (q:=d) (id:=m.id) (par:=m.par) (R:=m.R) i hi j hj) pq hp));refine Ln<|Rn<|bR<|sN<|ay<|av (au 0)<|aC<|Wr<|aJ (au 0) ?_;have P:aL v=a:=(by unfold aL; omega);have eto : ¬ (v.dst<1\/6<v.dst\/m.core.inn (v.dst-1).toNat=false):=fun h=>h.elim c83 (fun h=>h.elim c87 (fun h=>by rw[show(v.dst-1).toNat=J by omega]at h; rw[show m.core.inn J=true from c98]at h; cases h))
    have eW:xY m.core v=cZ (m.R d) v.o v.dst v.aS:=(by unfold xY; rw[ekN]; rfl);have zm:Fx.Own w9 B 61 56 (.slice m.s.na (m.s.nn) (m.s.nc)) m.s.nn (flat 56 (fun O=>lW (m.id O) (m.par O) (aH m.R d ((cZ (m.R d) v.o v.dst v.aS).1) O))):=Bp.fH (K_ (fun q=>Value.slice q m.s.nn m.s.nc) Gb.symm);have A:dR m.core v=0:=(by unfold dR; rw[b_ F,b_ G,b_ K,b_ N,d_ U]; unfold oI; rw[b_ (show ¬ m.core.node v.node<0 from c80),b_ eto,eW]; exact XQ);refine⟨oV A.symm,b16,fun _=>⟨{ m with R:=aH m.R d (cZ (m.R d) v.o v.dst v.aS).1 },by symm; unfold iJ; rw[b_ F,b_ G,b_ K,b_ N,d_ U]; unfold Fe; rw[ekN,eW]; rfl,?_⟩⟩;exact { c:=zi,n:=zm,g:=zk,tc:=zV,t:=Dx,r:=BM,pB:=TQ,tB:=DC,bn:=bn,bg:=bg,bt:=bt,br:=S.br }
   refine Lv aG (nC XQ)<|aC<|aO<|ay<|aX q5<|av (au ((cZ (m.R d) v.o v.dst v.aS).2))<|aC<|Wr<|sR<|bL<|sR<|aJ (au ((cZ (m.R d) v.o v.dst v.aS).2)) ?_;have P:aL v=a:=(by unfold aL; omega);have eto : ¬ (v.dst<1\/6<v.dst\/m.core.inn (v.dst-1).toNat=false):=fun h=>h.elim c83 (fun h=>h.elim c87 (fun h=>by rw[show(v.dst-1).toNat=J by omega]at h; rw[show m.core.inn J=true from c98]at h; cases h))
   have eW:xY m.core v=cZ (m.R d) v.o v.dst v.aS:=(by unfold xY; rw[ekN]; rfl);have A:dR m.core v=(cZ (m.R d) v.o v.dst v.aS).2:=(by unfold dR; rw[b_ F,b_ G,b_ K,b_ N,d_ U]; unfold oI; rw[b_ (show ¬ m.core.node v.node<0 from c80),b_ eto,eW]);exact⟨oV A.symm,b14,fun E=>by rw[A]at E; exact L_ E XQ⟩
  rw[S_]at c98;refine Qv aF (fun l f=>aN (mV.aI.dr f) J ((lN _ (by omega) (zX _ (by omega))).trans (K_ Value.bool c98)))<|aU aG<|aU aG<|Qn ?_;rintro _ ⟨L,rfl⟩;obtain⟨wq6,acu⟩ : ∃ l,l=World.drewN M L:=⟨_,rfl⟩;rw[<- acu];have Dw:Stp M.heap.size M wq6:=by rw[acu]; exact Sb (jH M L)
  have b17:=eF Dw.old b10 H;clear acu;refine sN<|aO<|ay<|av (au 10)<|aC<|Wr<|sR<|bL<|sR<|aJ (au 10) ?_;have P:aL v=a:=by unfold aL; omega
  have A:dR m.core v=10:=by unfold dR; rw[b_ F,b_ G,b_ K,b_ N,d_ U]; unfold oI; rw[b_ (show ¬ m.core.node v.node<0 from c80)]; exact d_ (.inr (.inr (by rw[show(v.dst-1).toNat=J by omega]; exact c98)))
  exact⟨oV A.symm,b17,fun E=>by rw[A]at E; cases E⟩
 refine Lv aF (fF U)<|av aF<|aC<|aK<|ay ?_;by_cases Ul:v.kind=6
 ·refine Lv aG (dX Ul)<|av aG<|aC<|aO ?_;have aa:=C.c;have ac:=C.n;have ab:=C.g;have ae:=C.tc;have af:=C.t;have ad:=C.r;obtain⟨J,hb9,eb9⟩:=GQ hmay Ul;refine jV [0,1,4,5,6,2,3,7,8] [0,0,4,0,0,0,0,0,3] [(8,2,[2])] fun QW lJ AB => ?_;have⟨rR,nN,nO,oF,nP,oG,ql⟩:=jm lJ W aa ac ab ae af ad;have b18:=eF lJ X H;refine aY (pt p)<|aY (pf I 10)<|aY (pt p)<|aY (pt p)<|aY (pt p)<|Rs (au v.dst) (aN rR.aI 10) ?_;refine Rp (au J) (fun _=>fV)<|Rp (pf p J) (fun _=>ji 6 1)<|gF<|iM nN J aG fun tT qJ s16 z4 => ?_;have rE:=gI s16 nN.ty;have⟨rT,wm,sK,wo,zY⟩:=rz rE nO oF nP oG ql;have b19:=s16.below b18 (m_ H b18.size) (by omega);refine Ln<|Rn<|bR<|sN<|ay<|av (au 0)<|aC<|Wr<|aJ (au 0) ?_;have P:aL v=a:=by unfold aL; omega
  have A:dR m.core v=0:=by unfold dR; rw[b_ F,b_ G,b_ K,b_ N,b_ U]
  refine⟨oV A.symm,b19,fun _=>⟨{ m with s := { m.s with inn:=aH m.s.inn J true } },by symm; unfold iJ; rw[b_ F,b_ G,b_ K,b_ N,b_ U,d_ Ul]; rw[show(v.dst-1).toNat=J by omega]; rfl,?_⟩⟩;exact { c:=qJ.to (XP m hb9),n:=rT,g:=wm,tc:=sK,t:=wo,r:=zY,pB:=TQ,tB:=DC,bn:=bn,bg:=bg,bt:=bt,br:=S.br }
 refine Lv aF (fF Ul)<|av aF<|aC<|aK<|ay<|Lv aG aeG<|av aG<|aC<|aO ?_;have aa:=C.c;have ac:=C.n;have ab:=C.g;have ae:=C.tc;have af:=C.t;have ad:=C.r;refine jV [0,1,4,5,6,2,3,7,8] [0,0,4,0,0,0,0,0,3] [(8,2,[2])] fun wt4 qw Gy => ?_;have⟨uQ,rU,oH,wu,wz,qK,zZ⟩:=jm qw W aa ac ab ae af ad;have b20:=eF qw X H;refine aY (pt p)<|aY (pt I)<|aY (pt p)<|aY (pt p)<|aY (pf p 6)<|Rs (au v.o) (aN uQ.aI 0) ?_;refine Rp (au a) (fun _=>fV)<|Rp (pf p (a+6)) (fun _=>ji 6 1)<|gF<|iM rU (a+6) aG fun F3 EO Jt z5 => ?_;have xQ:=gI Jt rU.ty;have⟨xW,BP,BQ,Aa,xX⟩:=rz xQ oH wu wz qK zZ;have Ml:=Jt.below b20 (m_ H b20.size) (by omega);refine Ln<|Rn<|bR<|sN<|ay<|av (au 0)<|aC<|Wr<|aJ (au 0) ?_;have P:aL v=a:=by unfold aL; omega
 have A:dR m.core v=0:=by unfold dR; rw[b_ F,b_ G,b_ K,b_ N,b_ U]
 refine⟨oV A.symm,Ml,fun _=>⟨{ m with s := { m.s with left:=aH m.s.left a true } },by symm; unfold iJ; rw[b_ F,b_ G,b_ K,b_ N,b_ U,b_ Ul]; rw[P]; rfl,?_⟩⟩;exact { c:=EO.to (Uk m ha rfl),n:=xW,g:=BP,tc:=BQ,t:=Aa,r:=xX,pB:=TQ,tB:=DC,bn:=bn,bg:=bg,bt:=bt,br:=S.br }
namespace Rt
structure acv(L:gy)(T:Nat):Prop where
 nn:L.nn<=33
 gn:L.gn<=T
 rn : ∀ i,i<6->L.rn i<=T
 tn : ∀ x,L.node x=bC L.t L.tn x
 dx : ∀ x,∃ D,D<=1000/\bC L.t L.tn (bF L.t L.tn D x)<0
 may : ∀ k,k<L.nn->may (L.R k)=true
 kn:Ga L.known
open Classical in
noncomputable def bH(L:gy)(v:EvM):Int :=
 if bM v=false then 1 else if jS L.known v=true then 14 else if dG L.known v=false then 13 else if L.inn (aL v)=false\/L.left (aL v)=true then 10 else dR L v
def GR(L:gy)(v:EvM):gy := { L with known:=aH L.known (aL v) (L.known (aL v)+1) }
open Classical in
noncomputable def bP(L:gy)(v:EvM):gy:=if bH L v=0 then GR (iJ L v) v else L
theorem pE(L:gy)(v:EvM):(iJ L v).known=L.known:=by
 unfold iJ;split; · unfold qj; rfl
 split; · unfold Fb; rfl
 split; · unfold lQ qm; rfl
 split; · unfold kr qm; rfl
 split; · unfold Fe; rfl
 split <;> rfl
end Rt
set_option maxRecDepth 20000 in
set_option maxHeartbeats 2000000 in
theorem Oq(m:lu)(B p T:Nat)(v:EvM)(w:World)(L:vw w B p m)(z:fK v)(I:acv m.core T)(hT:T<=900000) :
 Calls Tryz.prog 25 #[(pt p),.agg (aA 14 (bQ v))] w fun e w' => ∃ p' m',e = .returned (.tuple #[(pt p'),au (bH m.core v)])/\m'.core=bP m.core v/\vw w' B p' m'/\Below w.heap.size w w':=by
 have O:=L.c;have lpp:p<w.heap.size:=O.lt;have hpB:=L.pB;refine Kent Tryz.func25 73 ?_;refine ay<|qP fun g1 w1 lK U s1 z1 => ?_;have⟨F,d,Y⟩:=jZ s1.old L O (Below.refl w.heap.size w);have uh:=gY lK;have ZJ:=cu lK O.lt;have vS:=U.lt;refine av (.pointer none)<|av (au 0)<|aC<|Ws<|ay<|Lv (.agg (aA 14 (bQ v))) (fI U.aI 0) ?_;by_cases l:(bM v)=true
 ·refine dL (GA v _ z) aG (by rw[l]) ?_;intro w2 hb1;have⟨m4,m5,m6,Z⟩:=nV hb1 F d U Y;refine av aF<|aC<|aK<|Wk<|sN<|Ws<|Ws ?_;refine mK<|aU (pt p)<|aU (pt p)<|aU (pt p)<|aU (pf p 12)<|Qv (.agg (aA 6 (rv .u64 m.s.known))) (fun W A=>fI (m5.cb A) 12 (fun j S=>lN _ (by omega) (jW _ S (by omega))))<|Qv (.agg (aA 14 (bQ v))) (fun W A=>fI (m6.cb A) 0) ?_;by_cases u:(jS m.s.known v)=true
  ·refine za (fun _ _=>Ti m.s.known v _ z) aG (by rw[u])<|Qn ?_;intro WX sU;have⟨m7,b3⟩:=fq sU m4 Z;refine sN<|aO<|ay<|av (pt p)<|av (pt p)<|av (au 14)<|aC<|Wr<|sR<|aJ (.tuple #[(pt p),au 14]) ?_;have b:bH m.core v=14:=(by unfold bH; rw[b_ (by rw[l]; decide)]; exact d_ u);have q:bP m.core v=m.core:=(by unfold bP; rw[b_ (by rw[b]; decide)]);exact⟨p,m,by rw[b],q.symm,m7,b3⟩
  rw[S_]at u;refine za (fun _ _=>Ti m.s.known v _ z) aF (by rw[u])<|Qn ?_;intro Zu wN;have⟨m10,m11,m12,b4⟩:=nV wN m4 m5 m6 Z;refine sN<|aK<|Wk<|sN<|Ws<|Ws ?_;refine mK<|aU (pt p)<|aU (pt p)<|aU (pt p)<|aU (pf p 12)<|Qv (.agg (aA 6 (rv .u64 m.s.known))) (fun W A=>fI (m11.cb A) 12 (fun j S=>lN _ (by omega) (jW _ S (by omega))))<|Qv (.agg (aA 14 (bQ v))) (fun W A=>fI (m12.cb A) 0) ?_;by_cases x:(dG m.s.known v)=true
  ·refine za (fun _ _=>NZ m.s.known v _ z I.kn) aG (by rw[x])<|aU aF<|Qn ?_;intro N wO;have⟨K,M,m15,G⟩:=nV wO m10 m11 m12 b4;refine sN<|aK<|Wk<|sN<|Ws ?_;obtain⟨a,P,ho⟩:=fu (iL l);refine Wl<|av (pt g1)<|Lv (au v.o) (aN m15.aI 0)<|Lv (au a) fV<|av (au a)<|aC<|Ws<|ay<|av (pt p)<|av (au a)<|av (pt p)<|av (pt p)<|av (pt p)<|Lv (pf p a) (ji 6 1) ?_;by_cases C:(m.s.inn a)=true
   ·refine Lv aG (aN M.aI a ((lN _ (by omega) (zX _ (by omega))).trans (K_ Value.bool C)))<|av aF<|av aF<|av (pt p)<|av (au a)<|av (pt p)<|av (pt p)<|av (pf p 6)<|Lv (pf p (a+6)) (ji 6 1) ?_;by_cases D:(m.s.left a)=true
    ·refine Lv aG (aN M.aI (a+6) ((lN _ (by omega) (AP _ (by omega) (by omega))).trans (K_ Value.bool D)))<|av aG<|aC<|aO<|ay<|av (pt p)<|av (pt p)<|av (au 10)<|aC<|Wr<|sR<|aJ (.tuple #[(pt p),au 10]) ?_;have y:aL v=a:=(by unfold aL; omega);have b:bH m.core v=10:=(by unfold bH; rw[b_ (by rw[l]; decide),b_ (by rw[show jS m.core.known v=false from u]; decide),b_ (by rw[show dG m.core.known v=true from x]; decide),y]; exact d_ (.inr D));have q:bP m.core v=m.core:=(by unfold bP; rw[b_ (by rw[b]; decide)]);exact⟨p,m,by rw[b],q.symm,K,G⟩
    rw[S_]at D;refine Lv aF (aN M.aI (a+6) ((lN _ (by omega) (AP _ (by omega) (by omega))).trans (K_ Value.bool D)))<|av aF<|aC<|aK<|Wk<|sN<|ay<|av (pt p)<|lX (abH m p _ K.ldg (by have:=I.nn; have e:m.core.nn=m.s.nn:=rfl; omega) K.bt) ?_;rintro e w3 ⟨f,F,J,R,hL2,Q⟩;refine⟨(pt f),J,?_⟩;clear J;have⟨m18,b6⟩:=fq Q m15 G;have E:acv F.core T:=(by rw[R]; exact I);refine av (pt f)<|aC<|Ws ?_;have amP:=hL2;refine Wl<|av (pt f)<|Lv (.agg (aA 14 (bQ v))) (fI m18.aI 0)<|lX (acr F N.heap.size f a v _ amP Q.size P ho (by have h9:F.s.nn<=33:=E.nn; omega) (m_ E.gn hT) (fun i hi=>m_ (E.rn i hi) hT) E.tn E.dx z l E.may) ?_;rintro e X ⟨J,hbd,hL3⟩;refine⟨au (dR m.core v),by rw[<- R]; exact J,?_⟩;clear J;rw[R]at hL3;have b8:Below N.heap.size N X:=Q.trans hbd;have b7:Below w.heap.size w X:=b6.trans (hbd.mono (m_ (z_ _) G.size));have m19:vw X B p m:=K.up b8;refine av (au (dR m.core v))<|aC<|Ws<|ay<|av (au (dR m.core v)) ?_;by_cases H:(dR m.core v)=0
    ·refine Lv aF (jM H)<|aC<|aK<|Wk<|sN<|Ws ?_;obtain⟨d,hc3,k⟩:=hL3 H;have hMc:=k.c;have hMn:=k.n;have hMg:=k.g;have hMt:=k.tc;have amR:=k.t;have hMr:=k.r;have ek3:d.s.known=m.s.known:=(by show d.core.known=_; rw[hc3,pE]; rfl);have hk3:=I.kn a P;have hk3:0<=d.s.known a/\d.s.known a<1099511627776:=(by rw[ek3]; exact hk3);have lp2:=k.pB;have sw1:=G.size;refine jV [0,1,2,3,4,5,8,9,10,6,7,11,12] [0,0,0,0,0,0,4,0,0,0,0,0,3] [(12,6,[6])] fun qp dQ iA => ?_;have⟨V,m21,m22,m23,m24,nT,b9⟩:=jm dQ hMc hMn hMg hMt amR hMr b7;refine aY (pt f)<|aY (au a)<|aY (pt f)<|aY (pt f)<|aY (pf f 12)<|Rp (pf f (a+12)) (fun _=>ji 6 1)<|aY (pt f)<|aY (pt f)<|aY (pf f 12)<|Rs (aD (d.s.known a)) (aN V.aI (a+12) (lN _ (by omega) (jW _ (by omega) (by omega)))) ?_;refine Rp (aD (d.s.known a+1)) (fun _=>fC)<|Rp (pf f (a+12)) (fun _=>ji 6 1)<|gF<|iM V (a+12) (aD (d.s.known a+1)) fun w5 mY s8 z2 => ?_;have gK:=gI s8 V.ty;have⟨pY,oN,qx,oZ,lV⟩:=rz gK m21 m22 m23 m24 nT;have b10:=s8.below b9 b9.size (by omega);refine Ln<|bS<|ay<|av (pt f)<|av (pt f)<|av (au 0)<|aC<|Wr<|aJ (.tuple #[(pt f),au 0]) ?_;have y:aL v=a:=(by unfold aL; omega);have b:bH m.core v=0:=by unfold bH; rw[b_ (by rw[l]; decide),b_ (by rw[show jS m.core.known v=false from u]; decide),b_ (by rw[show dG m.core.known v=true from x]; decide),y]; rw[b_ (show ¬ (m.core.inn a=false\/m.core.left a=true)from fun h=>h.elim (fun h=>by rw[show m.core.inn a=true from C]at h; cases h) (fun h=>by rw[show m.core.left a=false from D]at h; cases h))]; exact H
     have hfin:vw w5 N.heap.size f { d with s := { d.s with known:=aH d.s.known a (d.s.known a+1) } } := { c:=mY.to (Qh d P rfl _),n:=pY,g:=oN,tc:=qx,t:=oZ,r:=lV,pB:=k.pB,tB:=k.tB,bn:=k.bn,bg:=k.bg,bt:=k.bt,br:=k.br };refine⟨f,{ d with s := { d.s with known:=aH d.s.known a (d.s.known a+1) } },by rw[b],?_,hfin.mono (by have:=L.pB; have:=lpp; omega),b10⟩;unfold bP; rw[d_ b]; unfold GR; rw[y,pE,<- hc3,show m.core.known=d.s.known from ek3.symm]; rfl
    refine Lv aG (nC H)<|aC<|aO<|ay<|av (pt p)<|av (au (dR m.core v))<|av (pt p)<|av (au (dR m.core v))<|aC<|Wr<|sR<|aJ (.tuple #[(pt p),au (dR m.core v)]) ?_;have y:aL v=a:=(by unfold aL; omega);have b:bH m.core v=dR m.core v:=by unfold bH; rw[b_ (by rw[l]; decide),b_ (by rw[show jS m.core.known v=false from u]; decide),b_ (by rw[show dG m.core.known v=true from x]; decide),y]; rw[b_ (show ¬ (m.core.inn a=false\/m.core.left a=true)from fun h=>h.elim (fun h=>by rw[show m.core.inn a=true from C]at h; cases h) (fun h=>by rw[show m.core.left a=false from D]at h; cases h))]
    have q:bP m.core v=m.core:=(by unfold bP; rw[b_ (by rw[b]; exact H)]);exact⟨p,m,by rw[b],q.symm,m19,b7⟩
   rw[S_]at C;refine Lv aF (aN M.aI a ((lN _ (by omega) (zX _ (by omega))).trans (K_ Value.bool C)))<|av aG<|av aG<|dD<|dD<|dD<|dD<|dD<|dD<|dD<|av aG<|aC<|aO<|ay<|av (pt p)<|av (pt p)<|av (au 10)<|aC<|Wr<|sR<|aJ (.tuple #[(pt p),au 10]) ?_;have y:aL v=a:=(by unfold aL; omega);have b:bH m.core v=10:=(by unfold bH; rw[b_ (by rw[l]; decide),b_ (by rw[show jS m.core.known v=false from u]; decide),b_ (by rw[show dG m.core.known v=true from x]; decide),y]; exact d_ (.inl C));have q:bP m.core v=m.core:=(by unfold bP; rw[b_ (by rw[b]; decide)]);exact⟨p,m,by rw[b],q.symm,K,G⟩
  rw[S_]at x;refine za (fun _ _=>NZ m.s.known v _ z I.kn) aF (by rw[x])<|aU aG<|Qn ?_;intro wb4 AJ;have⟨m32,b11⟩:=fq AJ m10 b4;refine sN<|aO<|ay<|av (pt p)<|av (pt p)<|av (au 13)<|aC<|Wr<|sR<|aJ (.tuple #[(pt p),au 13]) ?_;have b:bH m.core v=13:=by unfold bH; rw[b_ (by rw[l]; decide),b_ (by rw[show jS m.core.known v=false from u]; decide)]; exact d_ x
  have q:bP m.core v=m.core:=by unfold bP; rw[b_ (by rw[b]; decide)]
  exact⟨p,m,by rw[b],q.symm,m32,b11⟩
 rw[S_]at l;refine dL (GA v _ z) aF (by rw[l]) ?_;intro w6 hb2;have⟨qb,b12⟩:=fq hb2 F Y;refine av aG<|aC<|aO<|ay<|av (pt p)<|av (pt p)<|av (au 1)<|aC<|Wr<|sR<|aJ (.tuple #[(pt p),au 1]) ?_;have b:bH m.core v=1:=by unfold bH; exact d_ l
 have q:bP m.core v=m.core:=by unfold bP; rw[b_ (by rw[b]; decide)]
 exact⟨p,m,by rw[b],q.symm,qb,b12⟩
end Go.Proofs.YtahbiajdgealnaaGreatDoor
