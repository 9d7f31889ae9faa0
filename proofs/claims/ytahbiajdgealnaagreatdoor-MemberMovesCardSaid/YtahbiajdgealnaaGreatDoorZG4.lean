/-
  What the proof of the law rests on, part 4: walks of functions, and plain laws; each says its conditions itself.
-/
import Derived.Laws.StructEq
import Derived.Test.YtahbiajdgealnaaGreatDoorZG3
set_option maxHeartbeats 1600000
set_option linter.unusedVariables false
set_option linter.unusedSimpArgs false
namespace Go.Proofs.YtahbiajdgealnaaGreatDoor
open Go.RowKit Rt
open Fx (dO fV bB dG dX fC Lv sN Ln Ws Qv Wl Rp Wr Sb Wk rC sR Rs Rn Rd Rk Wb Wx Wo Wt qE Qn xY yu EB qP gX yJ vw wm tO yt Cm Bp rv aA aP aZ ev cO Stp aW flat dD aY jg aR down jZ bM bD cells_one iA bE wo jL gY bH dM bP bR bY bZ gJ gL pY iw)
namespace Rt
def Cv(t:Nat->Nat->Int)(n k:Nat):Nat->Nat->Int:=fun i=>if i<=k then(if i<n then t i else fun _=>0)else t (i-1)
def pJ(t:Nat->Nat->Int)(k:Nat)(id par:Int):Nat->Nat->Int:=fun i=>if i<k then t i else if i=k then(fun j=>if j=0 then id else par)else t (i-1)
theorem uG{w:World}{B tb tn tc:Nat}{ta:Option Addr}{t:Nat->Nat->Int}(b:aP w tb 1 (fun _ => .slice ta tn tc) 123)(a:Fx.Own w B 128 2 (.slice ta tn tc) tn (rv .u64 (lu t)))(j:tn<=1000):FH w tb ta tn tc t where
 tc:=b.aI
 t:=fun k h=>by
  obtain⟨g,d,e,_,_,_,c⟩:=a.form (by omega);simp only[Value.slice.injEq,true_and]at e;refine⟨g,0,e.1,fun i f => ?_⟩;have:=c (2*k+i) (by omega);rw[G_]at this;rw[G_,this];show some (Value.int .u64 (t ((2*k+i) / 2) ((2*k+i) % 2)))=some (Value.int .u64 (t k i));rw[show(2*k+i) / 2=k by omega,show(2*k+i) % 2=i by omega]
 bt:=by omega
theorem yK(t:Nat->Nat->Int)(n:Nat) : ∀ j,j<(n+1)*2->gY (rv .u64 (lu t)) (n*2) (aZ (fun j=>rv .u64 (fun _=>0) (j % 2)) (0*2) 2 (rv .u64 (fun _=>0))) j=rv .u64 (lu (Cv t n n)) j:=fun j a=>by
 unfold gY;by_cases h:j<n*2
 ·rw[d_ h];show Value.int .u64 (t (j / 2) (j % 2))=Value.int .u64 (Cv t n n (j / 2) (j % 2));unfold Cv; rw[d_ (by omega),d_ (by omega)]
 ·rw[b_ h];unfold aZ; rw[d_ (by omega)];show Value.int .u64 0=Value.int .u64 (Cv t n n (j / 2) (j % 2));unfold Cv; rw[d_ (by omega),b_ (by omega)]
theorem Af{t:Nat->Nat->Int}{n k j p:Nat}(a:p=2*j)(h:j<k)(b:k<=n):rv .u64 (lu (Cv t n k)) p=aC (t j 0):=by
 subst a;show Value.int .u64 (Cv t n k (2*j / 2) (2*j % 2))=_;unfold Cv; rw[d_ (by omega),d_ (by omega),show 2*j / 2=j by omega,show 2*j % 2=0 by omega]
theorem UN{t:Nat->Nat->Int}{n k j i:Nat}(h:j<k)(a:k<=n)(hi:i<2):rv .u64 (lu (Cv t n k)) (2*j+i)=rv .u64 (t j) i:=by
 show Value.int .u64 (Cv t n k ((2*j+i) / 2) ((2*j+i) % 2))=Value.int .u64 (t j i);unfold Cv; rw[d_ (by omega),d_ (by omega),show(2*j+i) / 2=j by omega,show(2*j+i) % 2=i by omega]
theorem zx{t:Nat->Nat->Int}{n k j:Nat}(e:k=j+1)(_hk:k<=n) : ∀ p,p<(n+1)*2->aZ (rv .u64 (lu (Cv t n k))) (2*k) 2 (rv .u64 (t j)) p=rv .u64 (lu (Cv t n j)) p:=fun p b=>by
 unfold aZ;by_cases h:2*k<=p/\p<2*k+2
 ·rw[d_ h];show Value.int .u64 (t j (p-2*k))=Value.int .u64 (Cv t n j (p / 2) (p % 2));unfold Cv; rw[b_ (by omega),show p / 2-1=j by omega,show p-2*k=p % 2 by omega]
 ·rw[b_ h];show Value.int .u64 (Cv t n k (p / 2) (p % 2))=Value.int .u64 (Cv t n j (p / 2) (p % 2));unfold Cv;by_cases a:p / 2<=j
  ·rw[d_ (by omega),d_ a]
  ·rw[b_ (by omega),b_ a]
theorem uj{t:Nat->Nat->Int}{n k:Nat}{id par:Int}(_hk:k<=n) : ∀ p,p<(n+1)*2->aZ (rv .u64 (lu (Cv t n k))) (2*k) 2 (aZ (aZ (rv .u64 (fun _=>0)) 0 1 (fun _=>aC id)) 1 1 (fun _=>aC par)) p=rv .u64 (lu (pJ t k id par)) p:=fun p c=>by
 by_cases h:2*k<=p/\p<2*k+2
 ·rw[aZ,d_ h];show _=Value.int .u64 (pJ t k id par (p / 2) (p % 2));unfold pJ; rw[b_ (by omega),d_ (by omega)];by_cases b:p=2*k
  ·subst b; rw[show 2*k-2*k=0 by omega,d_ (by omega)]; rfl
  ·rw[show p-2*k=1 by omega,b_ (by omega)]; rfl
 ·rw[aZ,b_ h];show Value.int .u64 (Cv t n k (p / 2) (p % 2))=Value.int .u64 (pJ t k id par (p / 2) (p % 2));unfold Cv pJ;by_cases a:p / 2<k
  ·rw[d_ (by omega),d_ (by omega),d_ a]
  ·rw[b_ (by omega),b_ a,b_ (by omega)]
def DI(t:Nat->Nat->Int)(tn:Nat)(x:Int):Prop := ∀ i,i<4->0<=bG t tn (bI t tn i x)
theorem KX{t:Nat->Nat->Int}{tn K:Nat}{x:Int}(h : ∀ i,i<K->0<=bG t tn (bI t tn i x))(a:4<=K):DI t tn x:=fun i b=>h i (by omega)
theorem EM{t:Nat->Nat->Int}{tn K:Nat}{x:Int}(h:bG t tn (bI t tn K x)<0)(a:K<4) : ¬ DI t tn x:=fun b=>by have:=b K a; omega
open Classical in
noncomputable def jF(t:Nat->Nat->Int)(tn:Nat)(id par:Int):Int:=if id=0 then 1 else if 0<=bG t tn id then 14 else if par≠0/\bG t tn par<0 then 9 else if 32<=tn\/DI t tn par then 6 else 0
theorem O9{t:Nat->Nat->Int}{n k j:Nat}{id:Int}(e:k=j+1)(h : ∀ i,k<=i->i<n->id<t i 0)(c:id<t j 0) : ∀ i,j<=i->i<n->id<t i 0:=fun i d b=>by
 by_cases a:i=j
 ·subst a; exact c
 ·exact h i (by omega) b
end Rt
set_option maxRecDepth 10000 in
theorem ahb(B:Nat)(tb:Nat)(ta:Option Addr)(tn tc:Nat)(t:Nat->Nat->Int)(id par:Int)(D:Nat)(w:World)(P:aP w tb 1 (fun _ => .slice ta tn tc) 123)(X:Fx.Own w B 128 2 (.slice ta tn tc) tn (rv .u64 (lu t)))(hne:(Value.slice ta tn tc).ownBlock≠some tb)(hB:B<=w.heap.size)(Q:tn<=1000)(hD:bG t tn (bI t tn D par)<0)(hD2:D<=1000) :
 Calls Tryz.prog 107 #[(pt tb),aC id,aC par] w fun e w'=>e = .returned (au (jF t tn id par))/\jZ (fun k=>k=tb\/(Value.slice ta tn tc).ownBlock=some k) w w'/\((jF t tn id par≠0/\aP w' tb 1 (fun _ => .slice ta tn tc) 123/\Fx.Own w' B 128 2 (.slice ta tn tc) tn (rv .u64 (lu t)))\/(jF t tn id par=0 /\ ∃ g cap,aP w' tb 1 (fun _=>bO g (tn+1) cap) 123/\Fx.Own w' B 128 2 (bO g (tn+1) cap) (tn+1) (rv .u64 (lu (pJ t (down (fun i=>decide (id<t i 0)) tn) id par)))/\(Value.slice (some ⟨g,0,none⟩) (tn+1) cap).ownBlock≠some tb)):=by
 refine Kent Tryz.func107 89 ?_;refine ay<|av (au 0)<|aD<|Ws<|ay<|av (aC id) ?_;by_cases q:id=0
 ·refine Lv aG (eX q)<|aD<|aL<|ay<|av (au 1)<|aD<|Wr<|sR<|aJ (au 1) ?_;have c:jF t tn id par=1:=by unfold jF; rw[d_ q]
  exact⟨pF c.symm,(vw (fun k=>k=tb\/(Value.slice ta tn tc).ownBlock=some k) w),.inl ⟨by rw[c]; decide,P,X⟩⟩
 refine Lv aF (fT q)<|aD<|aK<|Wk<|sN<|Ws<|ay<|av (pt tb)<|av (aC id) ?_;by_cases p:(decide (0<=bG t tn id))=true
 ·refine dQ (O8 tb ta tn tc t id _ (uG P X Q)) aG (by rw[p]) ?_;intro w1 hb1;have s1:=Sb hb1;have⟨m1,m2⟩:=fF hb1 P X;have b1:=(vw (fun k=>k=tb\/(Value.slice ta tn tc).ownBlock=some k) w).then s1 (.inr (vw (fun k=>k=tb\/(Value.slice ta tn tc).ownBlock=some k) w).size);refine aD<|aL<|ay<|av (au 14)<|aD<|Wr<|sR<|aJ (au 14) ?_;have c:jF t tn id par=14:=by unfold jF; rw[b_ q,d_ (h_ p)]
  exact⟨pF c.symm,b1,.inl ⟨by rw[c]; decide,m1,m2⟩⟩
 rw[U_]at p;refine dQ (O8 tb ta tn tc t id _ (uG P X Q)) aF (by rw[p]) ?_;intro w2 hb2;have s2:=Sb hb2;have⟨E,L⟩:=fF hb2 P X;have F:=(vw (fun k=>k=tb\/(Value.slice ta tn tc).ownBlock=some k) w).then s2 (.inr (vw (fun k=>k=tb\/(Value.slice ta tn tc).ownBlock=some k) w).size);refine aD<|aK<|Wk<|sN<|Ws<|ay<|av (aC par) ?_;by_cases G:par=0
 ·refine Lv aF (ko G)<|av aF<|dw<|dw<|dw<|dw<|av aF<|aD<|aK<|Wk<|sN<|Ws<|ay<|av (pt tb)<|av (pt tb)<|av (pt tb)<|Lv (.slice ta (tn) (tc)) (aM E.aI 0)<|av (au tn) ?_;by_cases T:32<=(tn:Int)
  ·refine Lv aG (kM T)<|av aG<|dw<|dw<|dw<|dw<|dw<|av aG<|aD<|aL<|ay<|av (au 6)<|aD<|Wr<|sR<|aJ (au 6) ?_;have c:jF t tn id par=6:=(by unfold jF; rw[b_ q,b_ (j_ p),b_ (fun h=>h.1 G),d_ (.inl (by omega))]);exact⟨pF c.symm,F,.inl ⟨by rw[c]; decide,E,L⟩⟩
  refine Lv aF (kg T)<|av aF<|av (pt tb)<|av (aC par)<|lU (Jp tb ta tn tc t par D _ (uG E L Q) hD hD2) ?_;rintro e w3 ⟨K,vv,Y,hown,sO,W,hb3⟩;obtain⟨a1,n,rfl⟩:=hown.val;refine⟨.slice a1 K n,Y,?_⟩;clear Y hown;have s3:=Sb hb3;have⟨m5,m6⟩:=fF hb3 E L;have b3:=F.then s3 (.inr F.size);refine av (au K) ?_;by_cases U:4<=(K:Int)
  ·refine Lv aG (kM U)<|av aG<|aD<|aL<|ay<|av (au 6)<|aD<|Wr<|sR<|aJ (au 6) ?_;have c:jF t tn id par=6:=(by unfold jF; rw[b_ q,b_ (j_ p),b_ (fun h=>h.1 G),d_ (.inr (KX sO (by omega)))]);exact⟨pF c.symm,b3,.inl ⟨by rw[c]; decide,m5,m6⟩⟩
  refine Lv aF (kg U)<|av aF<|aD<|aK<|Wk<|sN<|ay<|av (pt tb)<|av (pt tb)<|av (pt tb)<|Lv (.slice ta (tn) (tc)) (aM m5.aI 0)<|av (au tn)<|av (au tn)<|aD<|ay<|av (pt tb)<|av (pt tb)<|av (pt tb)<|av (pt tb)<|Lv (.slice ta (tn) (tc)) (aM m5.aI 0)<|av (.agg (aA 2 (rv .u64 (fun _=>0))))<|xY (vs := [(0,.agg (aA 2 (rv .u64 (fun _=>0))))]) (s:=2) (zc:=rv .u64 (fun _=>0)) (y:=aZ (fun j=>(rv .u64 (fun _=>0)) (j % 2)) (0*2) 2 (rv .u64 (fun _=>0))) (by rfl) rfl rfl Tryz.underlying121 (by kernel_rfl) (by rfl) (by rfl) (by kernel_rfl) (by rw[aR (off:=0*2) (s:=2) (y:=rv .u64 (fun _=>0)) rfl (bD _ _) (by rfl)]; rfl) rfl fun g1 w4 lN m7 s4 z1 => ?_;have⟨m8,m9⟩:=fF s4.old m5 m6;have b4:=b3.then s4 (.inr b3.size);have KW:=cu lN m5.lt;have ahc:(.slice ta tn tc:Value).ownBlock≠some g1:=by rw[lN]; exact m6.jo (A_ _)
  have uM:=m7.lt;refine yu (B:=B) (s:=2) (bytes:=16) (k:=tn) (m:=1) (v := .slice ta tn tc) (by rfl) rfl rfl rfl Tryz.underlying121 (by kernel_rfl) (by kernel_rfl) rfl rfl m9 m7.aI (fun j Z=>by rcases j with _|_|j <;> first|rfl|omega) (by omega) (by omega) (by omega) (m_ hB b4.size) fun d n w5 ho1 hg1 sH hlt1 => ?_
  have m11:aP w5 tb 1 (fun _ => .slice ta tn tc) 123:=m8.grown hg1 hne;have ahd:tb≠d:=fun e=>sH.elim (fun x=>hne (by rw[x,e])) (fun x=>by have:=m8.lt; omega);have m10:Fx.Own w5 B 128 2 (bO d (tn+1) n) (tn+1) (rv .u64 (lu (Cv t tn tn))):=ho1.congr (yK t tn);have b5:jZ (fun k=>k=tb\/(Value.slice ta tn tc).ownBlock=some k) w w5:=Fx.jZ.grow b4 hg1 (fun k e => .inl (.inr e));have ade:(fun k=>k=tb\/(Value.slice ta tn tc).ownBlock=some k) d\/w.heap.size<=d:=sH.elim (fun e => .inl (.inr e)) (fun e => .inr (by rw[e]; exact b4.size));refine av (pt tb)<|av (pt tb)<|jh m11 0 (bO d (tn+1) n) fun w6 m12 s5 z2 => ?_;have m13:aP w6 tb 1 (fun _=>bO d (tn+1) n) 123:=dM m12;have m14:=m10.X6 s5 (by omega);have b6:=b5.then s5 (.inl (.inl rfl));refine aD<|Ws<|Wb<|Wo (fun f M => ∃ k:Nat,k<=tn/\(∀ i,k<=i->i<tn->id<t i 0)/\f 0=(pt tb)/\f 1=aC id/\f 2=aC par/\f 7=au (k:Int)/\aP M tb 1 (fun _=>bO d (tn+1) n) 123/\Fx.Own M B 128 2 (bO d (tn+1) n) (tn+1) (rv .u64 (lu (Cv t tn k)))/\jZ (fun k=>k=tb\/(Value.slice ta tn tc).ownBlock=some k) w M) (fun f _=>(intOf (f 7)).toNat) ⟨tn,by omega,(fun i r N=>M_ r (by omega)),(by rfl),Fx.ic,Fx.ic,Fx.ic,m13,m14,b6⟩ ?_;rintro f1 w7 ⟨k,hk,J,r,N,h3,A,R,m16,b7⟩;refine Ws<|ay<|aT A ?_;by_cases V:0<(k:Int)
  ·obtain⟨j,H⟩ : ∃ j,k=j+1:=⟨k-1,by omega⟩;refine Lv aG (mK V)<|av aG<|aT r<|av (pt tb)<|av (pt tb)<|Lv (bO d (tn+1) n) (aM R.aI 0)<|aT A<|Lv (au j) fZ<|Lv (pf d (2*j)) (dh 2)<|av (pf d (2*j))<|Lv (aC (t j 0)) (aM m16.aI (2*j) (Af (by omega) (by omega) (by omega)))<|aT N ?_;by_cases u:id<(t j 0)
   ·refine Lv aG (mK u)<|av aG<|aD<|aL<|Wk<|sN<|Wb<|Ws ?_;refine Wt 14 (by kernel_rfl) (by kernel_rfl) fun rG dZ iJ => ?_;have s6:Stp w7.heap.size w7 rG:=Sb dZ;have⟨m17,m18⟩:=fF dZ R m16;have b8:=b7.then s6 (.inr b7.size);refine qP (pt tb) (SQ r)<|Fp (pt tb)<|Fp (pt tb)<|qP (bO d (tn+1) n) (aM m17.aI 0)<|qP (au k) (SQ A)<|qP (pt tb) (SQ r)<|Fp (pt tb)<|Fp (pt tb)<|qP (bO d (tn+1) n) (aM m17.aI 0)<|qP (au k) (SQ A)<|qP (au j) fZ<|qP (pf d (2*j)) (dh 2)<|qP (.agg (aA 2 (rv .u64 (t j)))) (fJ m18.aI (2*j) (fun i hi=>UN (by omega) (by omega) hi))<|qP (pf d (2*k)) (dh 2)<|Fx.St.nil ?_;refine Ay m18 (2*k) fun w8 m19 s7 z3 => ?_;have m20:=m17.cZ s7 (by omega);have b9:=b8.then s7 ade;have m21:Fx.Own w8 B 128 2 (bO d (tn+1) n) (tn+1) (rv .u64 (lu (Cv t tn j))):=m19.congr (zx H (by omega));refine aD<|Wl<|aT A<|Lv (au j) fZ<|av (au j)<|Ln<|bR<|gL ⟨j,by omega,(O9 H J u),r,(N.trans Fx.ic),(h3.trans Fx.ic),Fx.ic,m20,m21,b9⟩ ?_;show(intOf (au j)).toNat<_;simp only[A,intOf]; omega
   refine Lv aF (mM u)<|av aF<|aD<|aK<|Wx<|bY<|gJ<|bZ<|sN<|ay<|aT r<|av (pt tb)<|av (pt tb)<|Lv (bO d (tn+1) n) (aM R.aI 0)<|aT A<|aT N<|aT h3<|av (.agg (aA 2 (aZ (aZ (rv .u64 (fun _=>0)) 0 1 (fun _=>aC id)) 1 1 (fun _=>aC par))))<|Lv (pf d (2*k)) (dh 2)<|Ay m16 (2*k) (h1:=(fun j Z=>by rcases j with _|_|j <;> first|rfl|omega)) fun w9 m22 s8 z4 => ?_
   have m23:=R.cZ s8 (by omega);have b10:=b7.then s8 ade;have m24:Fx.Own w9 B 128 2 (bO d (tn+1) n) (tn+1) (rv .u64 (lu (pJ t k id par))):=m22.congr (uj (by omega));refine aD<|ay<|av (au 0)<|aD<|Wr<|aJ (au 0) ?_;have c:jF t tn id par=0:=(by unfold jF; rw[b_ q,b_ (j_ p),b_ (fun h=>h.1 G),b_ (fun h=>h.elim (fun h=>by omega) (EM W (by omega)))]);have I:k=down (fun i=>decide (id<t i 0)) tn:=Fx.pR hk (fun i a b=>f_ (J i a b)) (.inr (fun j e=>by have x:j=_:=Nat.succ.inj (e.symm.trans H); subst x; exact g_ u));exact⟨pF c.symm,b10,.inr ⟨c,d,n,m23,by rw[<- I]; exact m24,fun e=>ahd (C_ e).symm⟩⟩
  refine Lv aF (mM V)<|av aF<|dw<|dw<|dw<|dw<|dw<|dw<|dw<|dw<|dw<|dw<|dw<|av aF<|aD<|aK<|Wx<|bY<|gJ<|bZ<|sN<|ay<|aT r<|av (pt tb)<|av (pt tb)<|Lv (bO d (tn+1) n) (aM R.aI 0)<|aT A<|aT N<|aT h3<|av (.agg (aA 2 (aZ (aZ (rv .u64 (fun _=>0)) 0 1 (fun _=>aC id)) 1 1 (fun _=>aC par))))<|Lv (pf d (2*k)) (dh 2)<|Ay m16 (2*k) (h1:=(fun j Z=>by rcases j with _|_|j <;> first|rfl|omega)) fun sI nP s9 z5 => ?_
  have oG:=R.cZ s9 (by omega);have b11:=b7.then s9 ade;have nY:Fx.Own sI B 128 2 (bO d (tn+1) n) (tn+1) (rv .u64 (lu (pJ t k id par))):=nP.congr (uj (by omega));refine aD<|ay<|av (au 0)<|aD<|Wr<|aJ (au 0) ?_;have c:jF t tn id par=0:=by unfold jF; rw[b_ q,b_ (j_ p),b_ (fun h=>h.1 G),b_ (fun h=>h.elim (fun h=>by omega) (EM W (by omega)))]
  have I:k=down (fun i=>decide (id<t i 0)) tn:=Fx.pR hk (fun i a b=>f_ (J i a b)) (.inl (by omega));exact⟨pF c.symm,b11,.inr ⟨c,d,n,oG,by rw[<- I]; exact nY,fun e=>ahd (C_ e).symm⟩⟩
 refine Lv aG (nN G)<|av aG<|av (pt tb)<|av (aC par) ?_;by_cases z:(decide (0<=bG t tn par))=true
 ·refine dQ (O8 tb ta tn tc t par _ (uG E L Q)) aG (by rw[z]) ?_;intro xU hb4;have s10:=Sb hb4;have⟨nZ,oH⟩:=fF hb4 E L;have b12:=F.then s10 (.inr F.size);refine av aF<|av aF<|aD<|aK<|Wk<|sN<|Ws<|ay<|av (pt tb)<|av (pt tb)<|av (pt tb)<|Lv (.slice ta (tn) (tc)) (aM nZ.aI 0)<|av (au tn) ?_;by_cases T:32<=(tn:Int)
  ·refine Lv aG (kM T)<|av aG<|dw<|dw<|dw<|dw<|dw<|av aG<|aD<|aL<|ay<|av (au 6)<|aD<|Wr<|sR<|aJ (au 6) ?_;have c:jF t tn id par=6:=(by unfold jF; rw[b_ q,b_ (j_ p),b_ (fun h=>by have:=h_ z; omega),d_ (.inl (by omega))]);exact⟨pF c.symm,b12,.inl ⟨by rw[c]; decide,nZ,oH⟩⟩
  refine Lv aF (kg T)<|av aF<|av (pt tb)<|av (aC par)<|lU (Jp tb ta tn tc t par D _ (uG nZ oH Q) hD hD2) ?_;rintro e Dy ⟨K,vv,Y,hown,sO,W,hb5⟩;obtain⟨a1,n,rfl⟩:=hown.val;refine⟨.slice a1 K n,Y,?_⟩;clear Y hown;have s11:=Sb hb5;have⟨pG,nA⟩:=fF hb5 nZ oH;have b13:=b12.then s11 (.inr b12.size);refine av (au K) ?_;by_cases U:4<=(K:Int)
  ·refine Lv aG (kM U)<|av aG<|aD<|aL<|ay<|av (au 6)<|aD<|Wr<|sR<|aJ (au 6) ?_;have c:jF t tn id par=6:=(by unfold jF; rw[b_ q,b_ (j_ p),b_ (fun h=>by have:=h_ z; omega),d_ (.inr (KX sO (by omega)))]);exact⟨pF c.symm,b13,.inl ⟨by rw[c]; decide,pG,nA⟩⟩
  refine Lv aF (kg U)<|av aF<|aD<|aK<|Wk<|sN<|ay<|av (pt tb)<|av (pt tb)<|av (pt tb)<|Lv (.slice ta (tn) (tc)) (aM pG.aI 0)<|av (au tn)<|av (au tn)<|aD<|ay<|av (pt tb)<|av (pt tb)<|av (pt tb)<|av (pt tb)<|Lv (.slice ta (tn) (tc)) (aM pG.aI 0)<|av (.agg (aA 2 (rv .u64 (fun _=>0))))<|xY (vs := [(0,.agg (aA 2 (rv .u64 (fun _=>0))))]) (s:=2) (zc:=rv .u64 (fun _=>0)) (y:=aZ (fun j=>(rv .u64 (fun _=>0)) (j % 2)) (0*2) 2 (rv .u64 (fun _=>0))) (by rfl) rfl rfl Tryz.underlying121 (by kernel_rfl) (by rfl) (by rfl) (by kernel_rfl) (by rw[aR (off:=0*2) (s:=2) (y:=rv .u64 (fun _=>0)) rfl (bD _ _) (by rfl)]; rfl) rfl fun g3 EI zF m32 s12 z6 => ?_;have⟨qg,oO⟩:=fF s12.old pG nA;have b14:=b13.then s12 (.inr b13.size);have Aj:=iT zF b13.size;have amg:=cu zF pG.lt;have amh:(.slice ta tn tc:Value).ownBlock≠some g3:=by rw[zF]; exact nA.jo (A_ _)
  have J6:=m32.lt;refine yu (B:=B) (s:=2) (bytes:=16) (k:=tn) (m:=1) (v := .slice ta tn tc) (by rfl) rfl rfl rfl Tryz.underlying121 (by kernel_rfl) (by kernel_rfl) rfl rfl oO m32.aI (fun j Z=>by rcases j with _|_|j <;> first|rfl|omega) (by omega) (by omega) (by omega) (m_ hB b14.size) fun l o MG ho2 hg2 Nq hlt2 => ?_
  have qH:aP MG tb 1 (fun _ => .slice ta tn tc) 123:=qg.grown hg2 hne;have ahe:tb≠l:=fun e=>Nq.elim (fun x=>hne (by rw[x,e])) (fun x=>by have:=qg.lt; omega);have qh:Fx.Own MG B 128 2 (bO l (tn+1) o) (tn+1) (rv .u64 (lu (Cv t tn tn))):=ho2.congr (yK t tn);have b15:jZ (fun k=>k=tb\/(Value.slice ta tn tc).ownBlock=some k) w MG:=Fx.jZ.grow b14 hg2 (fun k e => .inl (.inr e));have adf:(fun k=>k=tb\/(Value.slice ta tn tc).ownBlock=some k) l\/w.heap.size<=l:=Nq.elim (fun e => .inl (.inr e)) (fun e => .inr (by rw[e]; exact b14.size));refine av (pt tb)<|av (pt tb)<|jh qH 0 (bO l (tn+1) o) fun KJ nS s13 z7 => ?_;have rU:aP KJ tb 1 (fun _=>bO l (tn+1) o) 123:=dM nS;have pV:=qh.X6 s13 (by omega);have b16:=b15.then s13 (.inl (.inl rfl));refine aD<|Ws<|Wb<|Wo (fun f M => ∃ k:Nat,k<=tn/\(∀ i,k<=i->i<tn->id<t i 0)/\f 0=(pt tb)/\f 1=aC id/\f 2=aC par/\f 7=au (k:Int)/\aP M tb 1 (fun _=>bO l (tn+1) o) 123/\Fx.Own M B 128 2 (bO l (tn+1) o) (tn+1) (rv .u64 (lu (Cv t tn k)))/\jZ (fun k=>k=tb\/(Value.slice ta tn tc).ownBlock=some k) w M) (fun f _=>(intOf (f 7)).toNat) ⟨tn,by omega,(fun i r N=>M_ r (by omega)),(by rfl),Fx.ic,Fx.ic,Fx.ic,rU,pV,b16⟩ ?_;rintro f2 w16 ⟨k,hk,J,O,h6,h7,C,S,nJ,b17⟩;refine Ws<|ay<|aT C ?_;by_cases V:0<(k:Int)
  ·obtain⟨j,H⟩ : ∃ j,k=j+1:=⟨k-1,by omega⟩;refine Lv aG (mK V)<|av aG<|aT O<|av (pt tb)<|av (pt tb)<|Lv (bO l (tn+1) o) (aM S.aI 0)<|aT C<|Lv (au j) fZ<|Lv (pf l (2*j)) (dh 2)<|av (pf l (2*j))<|Lv (aC (t j 0)) (aM nJ.aI (2*j) (Af (by omega) (by omega) (by omega)))<|aT h6 ?_;by_cases u:id<(t j 0)
   ·refine Lv aG (mK u)<|av aG<|aD<|aL<|Wk<|sN<|Wb<|Ws ?_;refine Wt 14 (by kernel_rfl) (by kernel_rfl) fun Dx gI nX => ?_;have Ej:Stp w16.heap.size w16 Dx:=Sb gI;have⟨mJ,nC⟩:=fF gI S nJ;have b18:=b17.then Ej (.inr b17.size);refine qP (pt tb) (SQ O)<|Fp (pt tb)<|Fp (pt tb)<|qP (bO l (tn+1) o) (aM mJ.aI 0)<|qP (au k) (SQ C)<|qP (pt tb) (SQ O)<|Fp (pt tb)<|Fp (pt tb)<|qP (bO l (tn+1) o) (aM mJ.aI 0)<|qP (au k) (SQ C)<|qP (au j) fZ<|qP (pf l (2*j)) (dh 2)<|qP (.agg (aA 2 (rv .u64 (t j)))) (fJ nC.aI (2*j) (fun i hi=>UN (by omega) (by omega) hi))<|qP (pf l (2*k)) (dh 2)<|Fx.St.nil ?_;refine Ay nC (2*k) fun TR sK s15 z8 => ?_;have rJ:=mJ.cZ s15 (by omega);have b19:=b18.then s15 adf;have og:Fx.Own TR B 128 2 (bO l (tn+1) o) (tn+1) (rv .u64 (lu (Cv t tn j))):=sK.congr (zx H (by omega));refine aD<|Wl<|aT C<|Lv (au j) fZ<|av (au j)<|Ln<|bR<|gL ⟨j,by omega,(O9 H J u),O,(h6.trans Fx.ic),(h7.trans Fx.ic),Fx.ic,rJ,og,b19⟩ ?_;show(intOf (au j)).toNat<_;simp only[C,intOf]; omega
   refine Lv aF (mM u)<|av aF<|aD<|aK<|Wx<|bY<|gJ<|bZ<|sN<|ay<|aT O<|av (pt tb)<|av (pt tb)<|Lv (bO l (tn+1) o) (aM S.aI 0)<|aT C<|aT h6<|aT h7<|av (.agg (aA 2 (aZ (aZ (rv .u64 (fun _=>0)) 0 1 (fun _=>aC id)) 1 1 (fun _=>aC par))))<|Lv (pf l (2*k)) (dh 2)<|Ay nJ (2*k) (h1:=(fun j Z=>by rcases j with _|_|j <;> first|rfl|omega)) fun R9 qV s16 z9 => ?_
   have wT:=S.cZ s16 (by omega);have b20:=b17.then s16 adf;have tV:Fx.Own R9 B 128 2 (bO l (tn+1) o) (tn+1) (rv .u64 (lu (pJ t k id par))):=qV.congr (uj (by omega));refine aD<|ay<|av (au 0)<|aD<|Wr<|aJ (au 0) ?_;have c:jF t tn id par=0:=(by unfold jF; rw[b_ q,b_ (j_ p),b_ (fun h=>by have:=h_ z; omega),b_ (fun h=>h.elim (fun h=>by omega) (EM W (by omega)))]);have I:k=down (fun i=>decide (id<t i 0)) tn:=Fx.pR hk (fun i a b=>f_ (J i a b)) (.inr (fun j e=>by have x:j=_:=Nat.succ.inj (e.symm.trans H); subst x; exact g_ u));exact⟨pF c.symm,b20,.inr ⟨c,l,o,wT,by rw[<- I]; exact tV,fun e=>ahe (C_ e).symm⟩⟩
  refine Lv aF (mM V)<|av aF<|dw<|dw<|dw<|dw<|dw<|dw<|dw<|dw<|dw<|dw<|dw<|av aF<|aD<|aK<|Wx<|bY<|gJ<|bZ<|sN<|ay<|aT O<|av (pt tb)<|av (pt tb)<|Lv (bO l (tn+1) o) (aM S.aI 0)<|aT C<|aT h6<|aT h7<|av (.agg (aA 2 (aZ (aZ (rv .u64 (fun _=>0)) 0 1 (fun _=>aC id)) 1 1 (fun _=>aC par))))<|Lv (pf l (2*k)) (dh 2)<|Ay nJ (2*k) (h1:=(fun j Z=>by rcases j with _|_|j <;> first|rfl|omega)) fun QF rW J5 z10 => ?_
  have wu:=S.cZ J5 (by omega);have KH:=b17.then J5 adf;have uX:Fx.Own QF B 128 2 (bO l (tn+1) o) (tn+1) (rv .u64 (lu (pJ t k id par))):=rW.congr (uj (by omega));refine aD<|ay<|av (au 0)<|aD<|Wr<|aJ (au 0) ?_;have c:jF t tn id par=0:=by unfold jF; rw[b_ q,b_ (j_ p),b_ (fun h=>by have:=h_ z; omega),b_ (fun h=>h.elim (fun h=>by omega) (EM W (by omega)))]
  have I:k=down (fun i=>decide (id<t i 0)) tn:=Fx.pR hk (fun i a b=>f_ (J i a b)) (.inl (by omega));exact⟨pF c.symm,KH,.inr ⟨c,l,o,wu,by rw[<- I]; exact uX,fun e=>ahe (C_ e).symm⟩⟩
 rw[U_]at z;refine dQ (O8 tb ta tn tc t par _ (uG E L Q)) aF (by rw[z]) ?_;intro TU hb6;have MI:=Sb hb6;have⟨uN,vL⟩:=fF hb6 E L;have MF:=F.then MI (.inr F.size);refine av aG<|av aG<|aD<|aL<|ay<|av (au 9)<|aD<|Wr<|sR<|aJ (au 9) ?_;have c:jF t tn id par=9:=by unfold jF; rw[b_ q,b_ (j_ p),d_ ⟨G,by have:=j_ z; omega⟩]
 exact⟨pF c.symm,MF,.inl ⟨by rw[c]; decide,uN,vL⟩⟩
namespace Rt
def ji(o a:Int):Int:=if 1<=o/\o<=6/\1<=a/\a<1099511627776 then 1099511627776*o+a else 0
end Rt
theorem ami(o a:Int)(w:World) :
 Calls Tryz.prog 50 #[au o,aC a] w fun e w'=>e = .returned (aC (ji o a))/\w'=w:=by
 refine Kent Tryz.func50 24 ?_;refine ay<|av (aC 0)<|aD<|Ws<|ay<|av (au o) ?_;by_cases f:o<1
 ·refine Lv aG (gN f)<|av aG<|dw<|dw<|av aG<|av aG<|dw<|dw<|av aG<|av aG<|dw<|dw<|av aG<|aD<|aL<|ay<|av (aC 0)<|aD<|Wr<|sR<|aJ (aC 0) ?_;exact⟨L_ (fun q=>Ending.returned (Value.int .u64 q)) (Eq.symm (by unfold ji; rw[b_ (by omega)])),rfl⟩
 refine Lv aF (gP f)<|av aF<|av (au o) ?_;by_cases g:6<o
 ·refine Lv aG (mK g)<|av aG<|av aG<|dw<|dw<|av aG<|av aG<|dw<|dw<|av aG<|aD<|aL<|ay<|av (aC 0)<|aD<|Wr<|sR<|aJ (aC 0) ?_;exact⟨L_ (fun q=>Ending.returned (Value.int .u64 q)) (Eq.symm (by unfold ji; rw[b_ (by omega)])),rfl⟩
 refine Lv aF (mM g)<|av aF<|av aF<|av (aC a) ?_;by_cases c:a<1
 ·refine Lv aG (gN c)<|av aG<|av aG<|dw<|dw<|av aG<|aD<|aL<|ay<|av (aC 0)<|aD<|Wr<|sR<|aJ (aC 0) ?_;exact⟨L_ (fun q=>Ending.returned (Value.int .u64 q)) (Eq.symm (by unfold ji; rw[b_ (by omega)])),rfl⟩
 refine Lv aF (gP c)<|av aF<|av aF<|av (aC a) ?_;by_cases d:1099511627776<=a
 ·refine Lv aG (kM d)<|av aG<|aD<|aL<|ay<|av (aC 0)<|aD<|Wr<|sR<|aJ (aC 0) ?_;exact⟨L_ (fun q=>Ending.returned (Value.int .u64 q)) (Eq.symm (by unfold ji; rw[b_ (by omega)])),rfl⟩
 refine Lv aF (kg d)<|av aF<|aD<|aK<|Wk<|sN<|ay<|av (au o)<|Lv (aC o) (dG rfl rfl (by kernel_rfl) Tryz.underlying28 (jL (by omega) rfl))<|Lv (aC (1099511627776*o)) (Fx.Kj (b:=40) rfl rfl rfl (by decide) (jL (by omega) (by omega)))<|av (aC a)<|Lv (aC (1099511627776*o+a)) eU<|av (aC (1099511627776*o+a))<|aD<|Wr<|aJ (aC (1099511627776*o+a)) ?_;exact⟨L_ (fun q=>Ending.returned (Value.int .u64 q)) (Eq.symm (by unfold ji; rw[d_ (by omega)])),rfl⟩
theorem aaU(a:Option Addr)(n cap:Nat)(w:World) :
 Calls Tryz.prog 10 #[.slice a (n) (cap)] w fun e w'=>e = .returned (.bool (decide ((n:Int)<=60)))/\w'=w:=by
 refine Kent Tryz.func10 6 ?_;refine ay<|av aF<|aD<|ay<|av (.slice a (n) (cap))<|av (au n) ?_;by_cases b:(n:Int)<=60
 ·refine Lv aG (nM b)<|av aG<|aD<|Wr<|aJ aG ?_;exact⟨iB (Eq.symm (f_ b)),rfl⟩
 refine Lv aF (nV b)<|av aF<|aD<|Wr<|aJ aF ?_;exact⟨iB (Eq.symm (g_ b)),rfl⟩
section
theorem app0{s:Nat}{x y:Nat->Value}(j:Nat):gY x (0*s) y j=y j:=by unfold gY; rw[Nat.zero_mul,b_ (z_ _)]; rfl
theorem qj(id par:Int)(R:Nat->Int)(j:Nat):(jQ id par R j).oneCell'=true:=by unfold jQ; split <;> (try split) <;> rfl
theorem UO(id par:Int)(R:Nat->Int){q p:Nat}(h:q=p+2):jQ id par R q=au (R p):=by subst h; unfold jQ; rw[b_ (by omega),b_ (by omega),Nat.add_sub_cancel]
theorem uH(x:Nat->Int)(j:Nat):(jw x j).oneCell'=true:=by unfold jw; split <;> (try split) <;> rfl
theorem Yz(m:lV)(j:Nat):(J8 m j).oneCell'=true:=qj _ _ _ _
theorem YA(m:lV)(j:Nat):(Jm m j).oneCell'=true:=uH _ _
theorem Jq(m:vk)(j:Nat):(kK m j).oneCell'=true:=by unfold kK; repeat (first|rfl|split)
def tY(m:lV)(i:Nat):Value := .slice (m.ra i) (m.rn i) (m.rc i)
def xw(w:World)(B k:Nat)(m:lV):Prop :=
 (∀ i,i<k->Fx.Own w B 28 1 (tY m i) (m.rn i) (rv .u64 (m.rq i))) /\ ∀ i j,i<k->j<k->i≠j -> ∀ g,(tY m i).ownBlock=some g->(tY m j).ownBlock≠some g
section
variable {w w':World} {B k:Nat} {m:lV}
theorem xw.up(h:xw w B k m)(a:Below w.heap.size w w'):xw w' B k m:=⟨fun i b=>(h.1 i b).up a,h.2⟩
instance:Rt.Tr w w' (xw w B k m) (xw w' B k m):=⟨fun b h=>h.up b⟩
theorem xw.kV{a:List TypeId}(h:xw w B k m)(c:iA a w w')(d:a.contains 28=false):xw w' B k m:=⟨fun i b=>(h.1 i b).kV c d,h.2⟩
instance {a:List TypeId}:Rt.Tc a w w' (xw w B k m) (xw w' B k m) (!(a.contains 28)):=⟨fun b h e=>h.kV b (by simpa using e)⟩
theorem xw.zero(w:World)(B:Nat)(m:lV):xw w B 0 m:=⟨fun _ h=>M_ h (z_ _),fun _ _ h=>M_ h (z_ _)⟩
theorem xw.fresh(h:xw w B k m){v:Value}(c:v = .slice none 0 0\/v.ownBlock=(Value.slice none 0 0).ownBlock\/v.ownBlock=some w.heap.size) : ∀ i,i<k -> ∀ g,(tY m i).ownBlock=some g->v.ownBlock≠some g:=fun i b g a e=>by
 have d:=((h.1 i b).ge a).2
 rcases c with rfl|e2|e2
 ·cases e
 ·rw[e]at e2; cases e2
 ·rw[e]at e2; have:=C_ e2; omega
theorem xw.snoc{a:lV}(h:xw w B k m)(c : ∀ i,i<k->tY a i=tY m i/\a.rn i=m.rn i/\a.rq i=m.rq i)(s:Fx.Own w B 28 1 (tY a k) (a.rn k) (rv .u64 (a.rq k)))(l : ∀ i,i<k -> ∀ g,(tY m i).ownBlock=some g->(tY a k).ownBlock≠some g):xw w B (k+1) a:=by
 refine⟨fun i t => ?_,fun i j t u n g b => ?_⟩
 ·by_cases e:i=k
  ·subst e; exact s
  obtain⟨p,q,r⟩:=c i (by omega);rw[p,q,r]; exact h.1 i (by omega)
 by_cases o:i=k
 ·subst o;by_cases d:j=i
  ·exact M_ d.symm n
  intro f;rw[(c j (by omega)).1]at f;exact l j (by omega) g f b
 rw[(c i (by omega)).1]at b;by_cases d:j=k
 ·subst d; exact l i (by omega) g b
 rw[(c j (by omega)).1]; exact h.2 i j (by omega) (by omega) n g b
end
structure wF(w:World)(B p:Nat)(m:lV):Prop where
 c:aP w p 27 (mX m) 71
 n:Fx.Own w B 61 56 (.slice m.s.na m.s.nn m.s.nc) m.s.nn (J8 m)
 g:Fx.Own w B 66 5 (.slice m.s.ga m.s.gn m.s.gc) m.s.gn (Jm m)
 tc:aP w m.tb 1 (fun _ => .slice m.ta m.tn m.tc) 123
 t:Fx.Own w B 128 2 (.slice m.ta m.tn m.tc) m.tn (QU m.t)
 r:xw w B 6 m
 pB:B<=p
 tB:B<=m.tb
 bn:m.s.nn<=1000
 bg:m.s.gn<=1000000
 bt:m.tn<=1000
 br : ∀ i,i<6->m.rn i<=1000000
section
variable {w w':World} {B p:Nat} {m:lV}
theorem wF.ldg(h:wF w B p m):DF w p m where
 c:=h.c.aI
 an:=h.n.arr
 ag:=h.g.arr
 tc:=h.tc.aI
 at2:=h.t.arr
 ar:=fun i a=>(h.r.1 i a).arr
 bn:=by have:=h.bn; omega
 bg:=h.bg
 bt:=by have:=h.bt; omega
 br:=h.br
theorem wF.up(h:wF w B p m)(a:Below w.heap.size w w'):wF w' B p m := { h with c:=h.c.cZ (Sb a) (u_ h.c.lt),n:=h.n.up a,g:=h.g.up a,tc:=h.tc.cZ (Sb a) (u_ h.tc.lt),t:=h.t.up a,r:=h.r.up a }
instance:Rt.Tr w w' (wF w B p m) (wF w' B p m):=⟨fun b h=>h.up b⟩
def KY:List Nat := [71,61,66,123,128,28]
theorem wF.kV{e:List TypeId}(h:wF w B p m)(b:iA e w w')(i:(KY.all fun T => !e.contains T)=true):wF w' B p m:=by
 have a : ∀ d∈KY,e.contains d=false:=fun d f=>by
  have:=List.all_eq_true.1 i d f
  simpa using this
 exact { h with
  c:=h.c.kV b (a _ (by decide)),n:=h.n.kV b (a _ (by decide)),g:=h.g.kV b (a _ (by decide)),tc:=h.tc.kV b (a _ (by decide)),t:=h.t.kV b (a _ (by decide)),r:=h.r.kV b (a _ (by decide)) }
instance {a:List TypeId}:Rt.Tc a w w' (wF w B p m) (wF w' B p m) (KY.all fun T => !a.contains T):=⟨fun b h e=>h.kV b (by simpa using e)⟩
theorem wF.mono{b:Nat}(h:wF w B p m)(a:b<=B):wF w b p m := { h with n:=h.n.mono a,g:=h.g.mono a,t:=h.t.mono a,r:=⟨fun i c=>(h.r.1 i c).mono a,h.r.2⟩,pB:=m_ a h.pB,tB:=m_ a h.tB }
end
def KZ(m:lV)(na:Option Addr)(nc:Nat)(ga:Option Addr)(gc tb:Nat)(ta:Option Addr)(tc:Nat)(ra:Nat->Option Addr)(rc:Nat->Nat)(k:Nat):lV :=
 { m with s := { m.s with na:=na,nc:=nc,ga:=ga,gc:=gc },tb:=tb,ta:=ta,tc:=tc,ra:=fun i=>if i<k then ra i else none,rn:=fun i=>if i<k then m.rn i else 0,rc:=fun i=>if i<k then rc i else 0 }
def aH{a:Type}(f:Nat->a)(k:Nat)(v:a):Nat->a:=fun i=>if i=k then v else f i
section
variable {m:lV} {na:Option Addr} {nc:Nat} {ga:Option Addr} {gc tb:Nat} {ta:Option Addr} {tc:Nat} {ra:Nat->Option Addr} {rc:Nat->Nat} {k:Nat}
theorem YB{q:Nat}(h:q=k+21):mX (KZ m na nc ga gc tb ta tc ra rc k) q = .slice none 0 0:=by
 subst h;rw[xu (p:=k) _ rfl];show Value.slice (if k<k then ra k else none) (if k<k then m.rn k else 0) (if k<k then rc k else 0)=_;rw[b_ (Nat.lt_irrefl _),b_ (Nat.lt_irrefl _),b_ (Nat.lt_irrefl _)]
theorem zI{i:Nat}(h:i<k):tY (KZ m na nc ga gc tb ta tc ra rc k) i = .slice (ra i) (m.rn i) (rc i):=by
 show Value.slice (if i<k then ra i else none) (if i<k then m.rn i else 0) (if i<k then rc i else 0)=_;rw[d_ h,d_ h,d_ h]
theorem UQ{a:Option Addr}{c q:Nat}(f:q=k+21):dD (mX (KZ m na nc ga gc tb ta tc ra rc k)) q (.slice a (m.rn k) c)=mX (KZ m na nc ga gc tb ta tc (aH ra k a) (aH rc k c) (k+1)):=by
 subst f
 funext p
 unfold dD;by_cases e:p=k+21
 ·subst e; rw[d_ rfl];rw[xu (p:=k) _ rfl];show _=Value.slice (if k<k+1 then aH ra k a k else none) (if k<k+1 then m.rn k else 0) (if k<k+1 then aH rc k c k else 0);simp[aH]
 rw[b_ e];unfold mX;by_cases h:p<20
 ·rw[d_ h,d_ h]; rfl
 rw[b_ h,b_ h];by_cases b:p=20
 ·rw[d_ b,d_ b]; rfl
 rw[b_ b,b_ b];show Value.slice (if p-21<k then ra (p-21)else none) (if p-21<k then m.rn (p-21)else 0) (if p-21<k then rc (p-21)else 0)=Value.slice (if p-21<k+1 then aH ra k a (p-21)else none) (if p-21<k+1 then m.rn (p-21)else 0) (if p-21<k+1 then aH rc k c (p-21)else 0);by_cases d:p-21<k
 ·simp[aH,d,show p-21<k+1 by omega,show ¬ p-21=k by omega]
 simp[d,show ¬ p-21<k+1 by omega]
theorem YC{w:World}{B:Nat}{a:Option Addr}{c:Nat}(h:xw w B k (KZ m na nc ga gc tb ta tc ra rc k))(e:Fx.Own w B 28 1 (.slice a (m.rn k) c) (m.rn k) (rv .u64 (m.rq k)))
 (f : ∀ i,i<k -> ∀ g,(tY (KZ m na nc ga gc tb ta tc ra rc k) i).ownBlock=some g->(Value.slice a (m.rn k) c).ownBlock≠some g):xw w B (k+1) (KZ m na nc ga gc tb ta tc (aH ra k a) (aH rc k c) (k+1)):=by
 have b:tY (KZ m na nc ga gc tb ta tc (aH ra k a) (aH rc k c) (k+1)) k = .slice a (m.rn k) c:=by
  rw[zI (by omega)]; unfold aH; rw[d_ rfl,d_ rfl]
 refine h.snoc (fun i d=>⟨?_,?_,rfl⟩) ?_ ?_
 ·rw[zI (by omega),zI d]; unfold aH; rw[b_ (by omega),b_ (by omega)]
 ·show(if i<k+1 then m.rn i else 0)=(if i<k then m.rn i else 0);rw[d_ (by omega),d_ d]
 ·rw[b];show Fx.Own w B 28 1 _ (if k<k+1 then m.rn k else 0) _;rw[d_ (by omega)]; exact e
 rw[b]; exact f
end
def atM(m:lV)(na:Option Addr)(nc:Nat)(ga:Option Addr)(gc tb:Nat)(ta:Option Addr)(tc:Nat)(ra:Nat->Option Addr)(rc:Nat->Nat):lV :=
 { m with s := { m.s with na:=na,nc:=nc,ga:=ga,gc:=gc },tb:=tb,ta:=ta,tc:=tc,ra:=ra,rc:=rc }
section
variable {m:lV} {na:Option Addr} {nc:Nat} {ga:Option Addr} {gc tb:Nat} {ta:Option Addr} {tc:Nat} {ra:Nat->Option Addr} {rc:Nat->Nat}
theorem ahf : ∀ j,j<27->mX (KZ m na nc ga gc tb ta tc ra rc 6) j=mX (atM m na nc ga gc tb ta tc ra rc) j:=fun j b=>by
 unfold mX;by_cases h:j<20
 ·rw[d_ h,d_ h]; rfl
 ·rw[b_ h,b_ h];by_cases a:j=20
  ·rw[d_ a,d_ a]; rfl
  ·rw[b_ a,b_ a];show Value.slice (if j-21<6 then ra (j-21)else none) (if j-21<6 then m.rn (j-21)else 0) (if j-21<6 then rc (j-21)else 0)=Value.slice (ra (j-21)) (m.rn (j-21)) (rc (j-21));rw[d_ (by omega),d_ (by omega),d_ (by omega)]
theorem YD{w:World}{B:Nat}(h:xw w B 6 (KZ m na nc ga gc tb ta tc ra rc 6)):xw w B 6 (atM m na nc ga gc tb ta tc ra rc):=by
 refine⟨fun i a => ?_,fun i j a b d g c => ?_⟩
 ·have:=h.1 i a;rw[zI a]at this;have e:(KZ m na nc ga gc tb ta tc ra rc 6).rn i=m.rn i:=by show(if i<6 then m.rn i else 0)=_; rw[d_ a]
  rw[e]at this;exact this
 have:=h.2 i j a b d g;rw[zI a,zI b]at this;exact this c
end
end
set_option maxRecDepth 20000 in
set_option maxHeartbeats 1000000 in
theorem adg(m:lV)(p:Nat)(w:World)(h:DF w p m)(bn1:m.s.nn<=1000)(bt1:m.tn<=1000) :
 Calls Tryz.prog 53 #[(pt p)] w fun e w' => ∃ p' m',e = .returned (pt p')/\m'.core=m.core/\wF w' w.heap.size p' m'/\Below w.heap.size w w':=by
 have N:=h.c;have lp:=N.lt (by omega);have bn:=h.bn;have bg:=h.bg;have bt:=h.bt;have han:=h.an;have hag:=h.ag;have hat:=h.at2;have htc:=h.tc;have R7:m.tb<w.heap.size:=htc.lt (by omega);refine Kent Tryz.func53 79 ?_;refine ay<|av (.pointer none)<|aD<|ay<|av (pt p)<|av (pt p)<|av (pt p)<|Lv (.agg (aA 20 (kK m.s))) (fJ N 0 (fun j hj=>(show mX _ (0+j)=kK _ j by rw[G_]; exact mF _ hj rfl)))<|av (.agg (aA 1 (fun _ => .slice none 0 0)))<|rE fun b w1 lN m1 s1 z1 => ?_;have⟨m2,m3,b1⟩:=jr s1.old N htc (Below.refl w.heap.size w);have tN:=iy lN;have nI:p≠b:=by rw[lN]; exact u_ (N.lt (by omega))
 have UR:m.tb≠b:=by rw[lN]; exact u_ (htc.lt (by omega))
 have uM:=m1.lt;refine av (.agg (aA 27 (aZ (aZ (fun o=>if o<12 then .bool false else if o<18 then aC 0 else if o<20 then .slice none 0 0 else if o<21 then .pointer none else .slice none 0 0) 0 20 (kK m.s)) 20 1 (fun _=>(pt b)))))<|EB (m:=27) (y:=aZ (aZ (fun o=>if o<12 then .bool false else if o<18 then aC 0 else if o<20 then .slice none 0 0 else if o<21 then .pointer none else .slice none 0 0) 0 20 (kK m.s)) 20 1 (fun _=>(pt b))) (by rfl) rfl rfl (bD _ _) rfl fun a w2 V m4 s2 z2 => ?_;have⟨m5,m6,m7,b2⟩:=nO s2.old m2 m3 m1 b1;have qW:=iT V b1.size;have Pb:p≠a:=by rw[V]; exact u_ (m2.lt (by omega))
 have aaV:m.tb≠a:=by rw[V]; exact u_ (m3.lt (by omega))
 have Pf:=cu V m1.lt;have zY:=m4.lt;refine av (pt a)<|aD<|ay<|av (pt a)<|Fx.L.OJ (s:=56) (by rfl) rfl Tryz.underlying50 (by kernel_rfl) rfl fun g3 w3 zF hO1 s3 => ?_;have P:Fx.Own w3 w.heap.size 61 56 (bO g3 0 0) 0 (J8 m):=hO1 _ _ (by rw[zF]; exact b2.size);have⟨m9,m10,m11,m12,S⟩:=tQ s3.old m5 m6 m7 m4 b2;refine av (pt p)<|av (pt p)<|av (pt p)<|av (pf p 18)<|Lv (.slice m.s.na (m.s.nn) (m.s.nc)) (aM m9 18)<|Fx.L.I9 (B:=w.heap.size) (s:=56) (bytes:=448) (k:=0) (m:=m.s.nn) (v:=bO g3 0 0) (x:=J8 m) (by rfl) rfl rfl rfl Tryz.underlying50 (by kernel_rfl) (by kernel_rfl) rfl rfl P (han.up S rfl) (fun j _=>Yz m j) (by omega) (by omega) S.size fun vv1 w4 ho1 X sH => ?_;rw[G_]at ho1;obtain⟨C,E,rfl⟩:=ho1.val;have gD:=yJ X P;have m14:=m9.grown X (P.not (by omega));have m15:=m10.grown X (P.not (by omega));have⟨m16,m17⟩:=Bt gD m11 m12;have m13:Fx.Own w4 w.heap.size 61 56 (.slice C (m.s.nn) (E)) m.s.nn (J8 m):=(ho1.congr (fun j _=>app0 j));have b4:Below w.heap.size w w4:=yt S X S.size (fun q l=>(P.ge l).1);refine av (pt a)<|av (pt a)<|av (pf a 18)<|jh m17 18 (.slice C (m.s.nn) (E)) fun w5 m18 s4 z3 => ?_;have m19:=m14.cZ s4 (by omega);have m20:=m15.cZ s4 (by omega);have jv:=gX s4 m17.ty;have⟨m21,m22⟩:=Bt jv m16 m13;have b5:=s4.below b4 b4.size (by omega);refine aD<|ay<|av (pt a)<|Fx.L.OJ (s:=5) (by rfl) rfl Tryz.underlying51 (by kernel_rfl) rfl fun g4 w6 GQ hO2 s5 => ?_;have O:Fx.Own w6 w.heap.size 66 5 (bO g4 0 0) 0 (Jm m):=hO2 _ _ (by rw[GQ]; exact b5.size);have⟨m24,nP,oG,nY,nZ,T⟩:=tT s5.old m19 m20 m21 m22 m18 b5;refine av (pt p)<|av (pt p)<|av (pt p)<|av (pf p 19)<|Lv (.slice m.s.ga (m.s.gn) (m.s.gc)) (aM m24 19)<|Fx.L.I9 (B:=w.heap.size) (s:=5) (bytes:=40) (k:=0) (m:=m.s.gn) (v:=bO g4 0 0) (x:=Jm m) (by rfl) rfl rfl rfl Tryz.underlying51 (by kernel_rfl) (by kernel_rfl) rfl rfl O (hag.up T rfl) (fun j _=>YA m j) (by omega) (by omega) T.size fun vv2 w7 ho2 Y Nq => ?_;rw[G_]at ho2;obtain⟨D,F,rfl⟩:=ho2.val;have qc:=yJ Y O;have pG:=m24.grown Y (O.not (by omega));have nA:=nP.grown Y (O.not (by omega));have⟨m32,qg,oO⟩:=Ec qc oG nY nZ;have oH:Fx.Own w7 w.heap.size 66 5 (.slice D (m.s.gn) (F)) m.s.gn (Jm m):=(ho2.congr (fun j _=>app0 j));have b7:Below w.heap.size w w7:=yt T Y T.size (fun q l=>(O.ge l).1);refine av (pt a)<|av (pt a)<|av (pf a 19)<|jh oO 19 (.slice D (m.s.gn) (F)) fun w8 qh s6 z4 => ?_;have qH:=pG.cZ s6 (by omega);have nS:=nA.cZ s6 (by omega);have yQ:=gX s6 oO.ty;have⟨rU,pV,sJ⟩:=Ec yQ m32 qg oH;have b8:=s6.below b7 b7.size (by omega);refine aD<|Ws ?_;refine Bp [0,1,2,4,5,6,11,12,13,3,7,8,9,10,14,15,16,17,18,19,20,21] [0,0,0,1,0,0,0,4,0,0,4,0,0,0,4,0,0,4,2,0,0,3] (iA [128]) wm Fx.iA.trans (fO := [(21,3,[3]),(18,7,[10,9,8,7]),(21,7,[7]),(18,10,[10]),(21,10,[10]),(18,14,[17,16,15,14]),(21,14,[14]),(18,17,[17]),(21,17,[17]),(19,18,[18]),(20,18,[18]),(21,18,[18])]) (by kernel_rfl) (by kernel_rfl) (by kernel_rfl) (by kernel_rfl) (by kernel_rfl) fun I dZ iJ => ?_;have⟨nJ,mJ,nC,sK,rJ,og,U⟩:=jM dZ qH nS rU pV sJ qh b8;refine bf (pt a)<|bf (pt a)<|bf (pf a 20)<|bf (pt a)<|bf (pt a)<|bf (pf a 20)<|bf (pt p)<|bf (pt p)<|bf (pf p 20)<|Rd (v:=(pt b)) (by rfl) (by rfl) (wm _) (fun v1 hv1=>bB (x:=dD (dD (aZ (aZ (fun o=>if o<12 then .bool false else if o<18 then aC 0 else if o<20 then .slice none 0 0 else if o<21 then .pointer none else .slice none 0 0) 0 20 (kK m.s)) 20 1 (fun _=>(pt b))) 18 (.slice C (m.s.nn) (E))) 19 (.slice D (m.s.gn) (F))) rfl rfl (by kernel_rfl) (og.kV hv1 (by decide)).aI (i:=20) (by omega) (by omega) (Fx.Bn (by omega) (Fx.Bn (by omega) (Fx.qD (j:=0) (by omega) (by omega) rfl)))) ?_;refine Rs (pt b) (aM og.aI 20 (Fx.Bn (by omega) (Fx.Bn (by omega) (Fx.qD (j:=0) (by omega) (by omega) rfl)))) ?_;refine bf (pt b)<|bf (pt b)<|Rs (.slice none 0 0) (aM nC.aI 0) ?_;refine Rs (pt m.tb) (aM nJ 20) ?_;refine bf (pt m.tb)<|bf (pt m.tb)<|Rs (.slice m.ta (m.tn) (m.tc)) (aM mJ 0) ?_;refine Dw<|Fx.L.I9 (B:=w.heap.size) (s:=2) (bytes:=16) (k:=0) (m:=m.tn) (v := .slice none 0 0) (x:=QU m.t) (by rfl) rfl rfl rfl Tryz.underlying121 (by kernel_rfl) (by kernel_rfl) rfl rfl (tO I w.heap.size 128 2 (QU m.t)) (hat.up U rfl) (fun _ _=>rfl) (by omega) (by omega) U.size fun vv3 w9 ho3 A awl => ?_;rw[G_]at ho3
 obtain⟨u,z,rfl⟩:=ho3.val;have zU:=yJ A (tO I w.heap.size 128 2 (QU m.t));have hq1:Below I.heap.size I w9:=⟨A.os,A.tape,A.output,A.size,fun q l=>A.block q l (fun e=>by cases e)⟩
 have wT:=nJ.cZ (Sb hq1) (u_ (nJ.lt (by omega)));have hq2:Below I.heap.size I w9:=⟨A.os,A.tape,A.output,A.size,fun q l=>A.block q l (fun e=>by cases e)⟩
 have tV:=mJ.cZ (Sb hq2) (u_ (mJ.lt (by omega)));have⟨rW,wu,uX,uN⟩:=Kn zU nC sK rJ og;have qV:Fx.Own w9 w.heap.size 128 2 (.slice u (m.tn) (z)) m.tn (QU m.t):=(ho3.congr (fun j _=>app0 j));have b10:Below w.heap.size w w9:=yt U A U.size (fun q l=>((tO I w.heap.size 128 2 (QU m.t)).ge l).1);refine Ln ⟨zU,?_⟩;refine bf (pt b)<|bf (pt b)<|gQ<|jh rW 0 (.slice u (m.tn) (z)) fun sI vL s8 z5 => ?_;have wz:aP sI b 1 (fun _ => .slice u (m.tn) (z)) 123:=dM vL;have uw:=wT.cZ s8 (by omega);have uy:=tV.cZ s8 (by omega);have zV:=gX s8 rW.ty;have⟨uz,wU,qI,vM⟩:=Kn zV wu uX uN qV;have b11:=s8.below b10 b10.size (by omega);refine Ln<|bT<|Ws<|ay<|av (au 0)<|aD<|Wb ?_;have oh:aP sI a 27 (mX (KZ m C E D F b u z (fun _=>none) (fun _=>0) 0)) 71:=qI.congr (fun j hj=>by rcases j with _|_|_|_|_|_|_|_|_|_|_|_|_|_|_|_|_|_|_|_|_|_|_|_|_|_|_|j <;> first|rfl|omega)
 have tX:=xw.zero sI w.heap.size (KZ m C E D F b u z (fun _=>none) (fun _=>0) 0);refine Wo (fun f H => ∃ k:Nat,∃ ra:Nat->Option Addr,∃ rc:Nat->Nat,k<=6/\f 0=(pt p)/\f 3=(pt a)/\f 4=au (k:Int)/\jg H p 0 27 (mX m)/\Fx.Own H w.heap.size 61 56 (.slice C (m.s.nn) (E)) m.s.nn (J8 m)/\Fx.Own H w.heap.size 66 5 (.slice D (m.s.gn) (F)) m.s.gn (Jm m)/\Fx.Own H w.heap.size 128 2 (.slice u (m.tn) (z)) m.tn (QU m.t)/\aP H b 1 (fun _ => .slice u (m.tn) (z)) 123/\aP H a 27 (mX (KZ m C E D F b u z ra rc k)) 71/\xw H w.heap.size k (KZ m C E D F b u z ra rc k)/\Below w.heap.size w H) (fun f _=>(6-(intOf (f 4)).toNat)) ⟨0,(fun _=>none),(fun _=>0),by omega,(by rfl),(by rfl),Fx.ic,uw,uz,wU,vM,wz,oh,tX,b11⟩ ?_;rintro f1 xU ⟨k,ra,rc,hk,h1,W,J,m64,wV,wB,wW,wX,sM,uY,b12⟩;refine Ws<|ay<|aT J ?_;by_cases c57:(k:Int)<6
 ·refine Lv aG (gN c57)<|aD<|aL<|Wk<|sN<|Ws<|Wb ?_;have brk:=h.br k (by omega);have uD:=N.below b12 lp;refine Bp [0,1,2,3,4,5,6,8,9,10,11,12,15,16,7,13,14,17,18] [0,0,0,0,0,0,0,4,0,0,0,0,0,4,2,0,0,0,3] (iA [28]) wm Fx.iA.trans (fO := [(14,7,[7]),(18,7,[7]),(14,13,[13]),(18,13,[13]),(17,14,[14]),(18,14,[14])]) (by kernel_rfl) (by kernel_rfl) (by kernel_rfl) (by kernel_rfl) (by kernel_rfl) fun G gI nX => ?_;have⟨wC,uZ,yx,wD,yA,yB,yC,wY,R⟩:=Br gI m64 wV wB wW wX sM uY uD b12;refine bW W<|bW J<|bW W<|bW J<|bf (pt a)<|bf (pf a 21)<|Rp (pf a (k+21)) (fun _=>iY 6 1)<|bW h1<|bW J<|bf (pt p)<|bf (pf p 21)<|Rp (pf p (k+21)) (fun _=>iY 6 1)<|bf (pt a)<|bf (pf a 21)<|Rs (.slice none 0 0) (aM yB.aI (k+21) (YB (by omega))) ?_;refine Rs (.slice (m.ra k) (m.rn k) (m.rc k)) (aM wC (k+21) (xu _ (by omega))) ?_;refine Dw<|Fx.L.I9 (B:=w.heap.size) (s:=1) (bytes:=8) (k:=0) (m:=(m.rn k)) (v := .slice none 0 0) (x:=rv .u64 (m.rq k)) (by rfl) rfl rfl rfl Tryz.underlying63 (by kernel_rfl) (by kernel_rfl) rfl rfl (tO G w.heap.size 28 1 (rv .u64 (m.rq k))) ((h.ar k (by omega)).up R rfl) (fun _ _=>rfl) (by omega) (by omega) R.size fun vv4 Q ho4 d aml => ?_;rw[G_]at ho4;obtain⟨K,M,rfl⟩:=ho4.val;have BH:=yJ d (tO G w.heap.size 28 1 (rv .u64 (m.rq k)));have hq3:Below G.heap.size G Q:=⟨d.os,d.tape,d.output,d.size,fun q l=>d.block q l (fun e=>by cases e)⟩
  have vg:=wC.cZ (Sb hq3) (u_ (wC.lt (by omega)));have⟨vN,yR,xV,AA,zW⟩:=rF BH uZ yx wD yA yB;have hq4:Below G.heap.size G Q:=⟨d.os,d.tape,d.output,d.size,fun q l=>d.block q l (fun e=>by cases e)⟩
  have zX:=yC.up hq4;have hq5:Below G.heap.size G Q:=⟨d.os,d.tape,d.output,d.size,fun q l=>d.block q l (fun e=>by cases e)⟩
  have yS:=wY.cZ (Sb hq5) (u_ (wY.lt (by omega)));have wE:Fx.Own Q w.heap.size 28 1 (.slice K (m.rn k) (M)) (m.rn k) (rv .u64 (m.rq k)):=(ho4.congr (fun j _=>app0 j));have b14:Below w.heap.size w Q:=yt R d R.size (fun q l=>((tO G w.heap.size 28 1 (rv .u64 (m.rq k))).ge l).1);have hf1:=yC.fresh aml;refine Ln ⟨BH,?_⟩;refine Rp (pf a (k+21)) (fun _=>iY 6 1)<|gQ<|jh zW (k+21) (.slice K (m.rn k) (M)) fun EI zD Z z6 => ?_;have Al:=vg.cZ Z (by omega);have FI:=gX Z zW.ty;have⟨Dz,Cc,Ao,Bg,yE⟩:=rF FI vN yR xV AA zX;have DJ:=yS.cZ Z (by omega);have Ce:=jT FI wE;have b15:=Z.below b14 b14.size (by omega);refine Ln<|Rn<|bR<|sN<|Wl<|aT J<|Lv (au ((k:Int)+1)) eU<|av (au ((k:Int)+1))<|Ln ?_;have DK:aP EI a 27 (mX (KZ m C E D F b u z (aH ra k K) (aH rc k M) (k+1))) 71:=zD.to (UQ (by omega));have Eo:xw EI w.heap.size (k+1) (KZ m C E D F b u z (aH ra k K) (aH rc k M) (k+1)):=YC yE Ce hf1
  skip
  refine gL ⟨k+1,(aH ra k K),(aH rc k M),by omega,h1,W,Fx.ic,Al,Dz,Cc,Ao,Bg,DK,Eo,b15⟩ ?_;show(6-(intOf (au ((k:Int)+1))).toNat)<_;simp only[J,intOf]; omega
 refine Lv aF (gP c57)<|aD<|aK<|Wx<|bY<|gJ<|bZ<|sN<|ay<|aT W<|av (pt a)<|aD<|Wr<|aJ (pt a) ?_;have ek:k=6:=by omega
 subst ek;exact⟨a,atM m C E D F b u z ra rc,rfl,rfl,{ c:=sM.congr ahf,n:=wV,g:=wB,tc:=wX,t:=wW,r:=YD uY,pB:=qW,tB:=tN,bn:=bn1,bg:=bg,bt:=bt1,br:=h.br },b12⟩
namespace Rt
def oq(id:Nat->Int)(o:Int):Nat->Nat
 | 0=>0
 | n+1=>oq id o n+if id n / 1099511627776=o then 1 else 0
theorem UU{id:Nat->Int}{o:Int}{c k:Nat}(h:c=oq id o k)(e:id k / 1099511627776=o):c+1=oq id o (k+1):=by unfold oq; rw[d_ e,h]
theorem YE{id:Nat->Int}{o:Int}{c k:Nat}(h:c=oq id o k)(e : ¬ id k / 1099511627776=o):c=oq id o (k+1):=by unfold oq; rw[b_ e,h]; rfl
noncomputable def kP(L:fI)(v:EvM):Int:=if 5<=oq L.id v.o L.nn\/140737488355328<v.aU then 6 else jF L.t L.tn (ji v.o v.seq) v.node
def sU(f:Nat->Int)(n:Nat)(x:Int):Nat:=down (fun i=>decide (x<f i)) n
def qL(L:fI)(v:EvM):fI :=
 { L with nn:=L.nn+1,id:=cO L.id (sU L.id L.nn (ji v.o v.seq)) (ji v.o v.seq),par:=cO L.par (sU L.id L.nn (ji v.o v.seq)) v.node,
          R:=cO L.R (sU L.id L.nn (ji v.o v.seq)) (upd (fun _=>0) (v.o-1).toNat v.aU),
          tn:=L.tn+1,t:=pJ L.t (down (fun i=>decide (ji v.o v.seq<L.t i 0)) L.tn) (ji v.o v.seq) v.node }
theorem UW{id par:Int}(j:Nat):aZ (aZ (fun c=>if c<2 then aC 0 else au 0) 0 1 (fun _=>aC id)) 1 1 (fun _=>aC par) j=jQ id par (fun _=>0) j:=by
 unfold aZ jQ;by_cases a:j=0
 ·subst a; rfl
 by_cases b:j=1
 ·subst b; rfl
 rw[b_ (by omega),b_ (by omega),b_ a,b_ b]; show(if j<2 then _ else _)=_; rw[b_ (by omega)]
theorem Pg{id par:Int}{R:Nat->Int}{a q:Nat}{x:Int}(d:q=a+2):dD (jQ id par R) q (au x)=jQ id par (upd R a x):=by
 subst d
 funext p
 unfold dD jQ upd;by_cases h:p=a+2
 ·subst h; rw[d_ rfl,b_ (by omega),b_ (by omega),d_ (by omega)]
 rw[b_ h];by_cases b:p=0
 ·rw[d_ b,d_ b]
 by_cases c:p=1
 ·rw[b_ b,d_ c,b_ b,d_ c]
 rw[b_ b,b_ c,b_ b,b_ c,b_ (by omega)]
theorem Ph{id par:Nat->Int}{R:Nat->Nat->Int}{k:Nat}{a b:Int}{c:Nat->Int}:Fx.Jb (fun d=>jQ (id d) (par d) (R d)) k (jQ a b c)=fun d=>jQ (cO id k a d) (cO par k b d) (cO R k c d):=by
 funext i
 unfold Fx.Jb cO;by_cases h:i<k
 ·simp only[d_ h]
 by_cases e:i=k
 ·simp only[b_ h,d_ e]
 simp only[b_ h,b_ e]
theorem H9(m:lV)(a:Option Addr)(n c:Nat):dD (mX m) 18 (.slice a n c)=mX { m with s := { m.s with na:=a,nn:=n,nc:=c } }:=by
 funext p
 unfold dD mX;by_cases h:p=18
 ·subst h; rfl
 rw[b_ h];by_cases e:p<20
 ·rw[d_ e,d_ e]; unfold kK;by_cases b:p<6
  ·rw[d_ b,d_ b]
  by_cases d:p<12
  ·rw[b_ b,d_ d,b_ b,d_ d]
  by_cases f:p<18
  ·rw[b_ b,b_ d,d_ f,b_ b,b_ d,d_ f]
  rw[b_ b,b_ d,b_ f,b_ h,b_ b,b_ d,b_ f,b_ h]
 rw[b_ e,b_ e]
theorem uI{s:Nat}{z y:Nat->Value}(hy : ∀ j,(y j).oneCell'=true) : ∀ j,j<1*s->(aZ z (0*s) s y j).oneCell'=true:=fun j a=>by
 unfold aZ; rw[d_ (by omega)]; exact hy _
theorem UY{f:Nat->Int}{n k j:Nat}{x:Int}(e:k=j+1)(h : ∀ i,k<=i->i<n->x<f i)(c:x<f j) : ∀ i,j<=i->i<n->x<f i:=fun i d b=>by
 by_cases a:i=j
 ·subst a; exact c
 ·exact h i (by omega) b
end Rt
theorem Rt.K3{t:Nat->Nat->Int}{tn:Nat}{id par:Int}(h:jF t tn id par=0):tn+1<=33:=by
 unfold jF at h;split at h; · cases h
 split at h; · cases h
 split at h; · cases h
 split at h; · cases h
 rename_i h4
 rcases Nat.lt_or_ge tn 32 with h5|h5
 ·omega
 exact M_ (Or.inl h5) h4
set_option maxRecDepth 20000 in
set_option maxHeartbeats 2000000 in
theorem YF(m:lV)(B p a D:Nat)(v:EvM)(w:World)(C:wF w B p m)(u:B<=w.heap.size)(ha:a<6)(ho:v.o=(a:Int)+1)(bnn:m.s.nn<=900)(hD:bG m.t m.tn (bI m.t m.tn D v.node)<0)(hD2:D<=1000) :
 Calls Tryz.prog 78 #[(pt p),.agg (aA 14 (bV v))] w fun e w'=>e = .returned (au (kP m.core v))/\Below B w w'/\(kP m.core v=0 -> ∃ m',m'.core=qL m.core v/\wF w' B p m'):=by
 have UZ:=C.c;have hLn:=C.n;have hLg:=C.g;have Sc:=C.tc;have U0:=C.t;have hLr:=C.r;have U1:=C.pB;have Ep:=C.tB;have bn:=C.bn;have bg:=C.bg;have bt:=C.bt;refine Kent Tryz.func78 132 ?_;refine ay<|rE fun I w1 lN m1 s1 z1 => ?_;have⟨m2,m3,m4,m5,m6,m7⟩:=tT s1.old UZ hLn hLg Sc U0 hLr;have b1:=eP s1.old (Below.refl B w) u;have⟨nI,xX⟩:=vH lN UZ.lt Sc.lt;refine av (au 0)<|aD<|ay<|av (au 0)<|aD<|Ws<|ay<|av (au 0)<|aD<|Wb<|Wo (fun f z => ∃ k:Nat,∃ G:Nat,k<=m.s.nn/\G<=k/\G=oq m.id v.o k/\f 0=(pt p)/\f 3=(pt I)/\f 5=au (G:Int)/\f 6=au (k:Int)/\aP z p 27 (mX m) 71/\Fx.Own z B 61 56 (.slice m.s.na (m.s.nn) (m.s.nc)) m.s.nn (J8 m)/\Fx.Own z B 66 5 (.slice m.s.ga (m.s.gn) (m.s.gc)) m.s.gn (Jm m)/\aP z m.tb 1 (fun _ => .slice m.ta m.tn m.tc) 123/\Fx.Own z B 128 2 (.slice m.ta (m.tn) (m.tc)) m.tn (QU m.t)/\xw z B 6 m/\aP z I 14 (bV v) 32/\Below B w z) (fun f _=>(m.s.nn-(intOf (f 6)).toNat)) ⟨0,0,by omega,by omega,rfl,(by rfl),(by rfl),Fx.ic,Fx.ic,m2,m3,m4,m5,m6,m7,m1,b1⟩ ?_;rintro f1 O ⟨k,G,hk,hcl,aa,J,K,h3,Y,m8,m9,m10,m11,m12,m13,W,b2⟩;refine Ws<|ay<|aT Y<|aT J<|av (pt p)<|av (pt p)<|av (pf p 18)<|Lv (.slice m.s.na (m.s.nn) (m.s.nc)) (aM m8.aI 18)<|av (au m.s.nn) ?_;by_cases c18:(k:Int)<(m.s.nn:Int)
 ·refine Lv aG (gN c18)<|aD<|aL<|Wk<|sN<|Ws<|Wb<|Ws ?_;refine yN<|eB J<|aX (pt p)<|aX (pt p)<|aX (pf p 18)<|Qv (.slice m.s.na (m.s.nn) (m.s.nc)) (fun F E=>aM (m8.aI.dr E) 18)<|eB Y ?_;obtain⟨DL,eq1⟩:=m9.addr (by omega);have m15:=m9.eH (L_ (fun q=>Value.slice q m.s.nn m.s.nc) eq1);refine Qv (pf DL (56*k)) (fun F E=>dh 56 (hx:=(rfl.trans (L_ (fun q=>Value.slice q (m.s.nn) (m.s.nc)) eq1))))<|aX (pf DL (56*k))<|Qv (aC (m.id k)) (fun F E=>aM (m15.aI.dr E) (56*k) (Fx.gy (k:=k) (j:=0) (by omega) (by omega) rfl))<|Qv (aC ((m.id k) / 1099511627776)) (fun F E=>Fx.aat (b:=40) (q:=1099511627776) rfl rfl rfl (by decide) (by decide))<|Qv (pt I) (fun F E=>iZ K 0)<|Qv (au v.o) (fun F E=>aM (W.aI.dr E) 0)<|Qv (aC v.o) (fun F E=>dG rfl rfl (by kernel_rfl) Tryz.underlying28 (jL (by omega) rfl)) ?_;by_cases c34:((m.id k) / 1099511627776)=v.o
  ·refine Qv aG (fun F E=>eX c34)<|Qn ?_;rintro _ ⟨qd,rfl⟩;obtain⟨Em,sV⟩ : ∃ F,F=World.drewN O qd:=⟨_,rfl⟩;rw[<- sV];have s2:Stp O.heap.size O Em:=(by rw[sV]; exact Sb (jS O qd));have⟨m16,m17,m18,m19,m20,m21,m22⟩:=jM s2.old m8 m10 m11 m12 m13 W m15;have b3:=eP s2.old b2 u;clear sV;refine sN<|aL<|Wl<|aT h3<|Lv (au ((G:Int)+1)) eU<|av (au ((G:Int)+1))<|Ln<|bR<|sN<|Wl<|aT Y<|Lv (au ((k:Int)+1)) eU<|av (au ((k:Int)+1))<|Ln ?_;have m23:=m22.eH (L_ (fun q=>Value.slice q m.s.nn m.s.nc) eq1.symm);refine gL ⟨k+1,G+1,by omega,by omega,(UU aa c34),J,K,Fx.ic,Fx.ic,m16,m23,m17,m18,m19,m20,m21,b3⟩ ?_;show(m.s.nn-(intOf (au ((k:Int)+1))).toNat)<_;simp only[Y,intOf]; omega
  refine Qv aF (fun F E=>fT c34)<|Qn ?_;rintro _ ⟨qd,rfl⟩;obtain⟨wq2,xA⟩ : ∃ F,F=World.drewN O qd:=⟨_,rfl⟩;rw[<- xA];have s3:Stp O.heap.size O wq2:=by rw[xA]; exact Sb (jS O qd)
  have⟨m24,nP,oG,nY,nZ,oH,pG⟩:=jM s3.old m8 m10 m11 m12 m13 W m15;have b4:=eP s3.old b2 u;clear xA;refine sN<|aK<|Wk<|bR<|sN<|Wl<|aT Y<|Lv (au ((k:Int)+1)) eU<|av (au ((k:Int)+1))<|Ln ?_;have nA:=pG.eH (L_ (fun q=>Value.slice q m.s.nn m.s.nc) eq1.symm);refine gL ⟨k+1,G,by omega,by omega,(YE aa c34),J,K,(h3.trans Fx.ic),Fx.ic,m24,nA,nP,oG,nY,nZ,oH,b4⟩ ?_;show(m.s.nn-(intOf (au ((k:Int)+1))).toNat)<_;simp only[Y,intOf]; omega
 refine Lv aF (gP c18)<|aD<|aK<|Wx<|bY<|gJ<|bZ<|sN<|Ws<|ay<|aT h3 ?_;by_cases c38:5<=(G:Int)
 ·refine Lv aG (kM c38)<|av aG<|dw<|dw<|dw<|av aG<|aD<|aL<|ay<|av (au 6)<|aD<|Wr<|sR<|aJ (au 6) ?_;have N:k=m.s.nn:=by omega
  subst N;have H:kP m.core v=6:=d_ (.inl (by rw[show oq m.core.id v.o m.core.nn=G from aa.symm]; omega));exact⟨pF H.symm,b2,fun U=>by rw[H]at U; cases U⟩
 refine Lv aF (kg c38)<|av aF<|Lv (pf I 11) (iZ K 11)<|Lv (au v.aU) (aM W.aI 11) ?_;by_cases TH:140737488355328<v.aU
 ·refine Lv aG (mK TH)<|av aG<|aD<|aL<|ay<|av (au 6)<|aD<|Wr<|sR<|aJ (au 6) ?_;have N:k=m.s.nn:=by omega
  subst N;have H:kP m.core v=6:=d_ (.inr (by omega));exact⟨pF H.symm,b2,fun U=>by rw[H]at U; cases U⟩
 refine Lv aF (mM TH)<|av aF<|aD<|aK<|Wk<|sN<|ay<|Lv (pt I) (iZ K 0)<|Lv (au v.o) (aM W.aI 0)<|Lv (pf I 1) (iZ K 1)<|Lv (aC v.seq) (aM W.aI 1)<|mO (ami v.o v.seq _) _ rfl<|av (aC (ji v.o v.seq))<|aD<|Ws ?_;refine kJ [0,1,2,4,5,3,6,7,8] [0,0,0,4,0,0,4,3,0] [(7,3,[3]),(7,6,[6]),(8,7,[7])] fun rG dZ iJ => ?_;have⟨m32,qg,oO,qh,qH,nS,rU⟩:=jM dZ m8 m9 m10 m11 m12 m13 W;have b5:=eP dZ b2 u;refine bW J<|bf (pt p)<|bf (pf p 20)<|bf (aC (ji v.o v.seq))<|Rp (pf I 9) (fun _=>iZ K 9)<|Rs (pt m.tb) (aM m32.aI 20) ?_;refine Rs (aC v.node) (aM rU.aI 9) ?_;refine gQ<|dQ (ahb B m.tb m.ta m.tn m.tc m.t (ji v.o v.seq) v.node D _ qh qH (fun e=>Fx.Ty.ne (qH.ty e) qh.ty (by decide) rfl) (m_ u b5.size) bt hD hD2) _ rfl ?_;rintro X ⟨ahi,hcs1⟩;have hc1:iA [123,128] rG X:=Fx.iA.SN ahi (by rintro k (rfl|e) <;> first|exact⟨_,qh.ty,by decide⟩|exact⟨_,qH.ty e,by decide⟩)
 have pV:aP X p 27 (mX m) 71:=m32.kV hc1 (by decide);have sJ:Fx.Own X B 61 56 (.slice m.s.na (m.s.nn) (m.s.nc)) m.s.nn (J8 m):=qg.kV hc1 (by decide);have nJ:Fx.Own X B 66 5 (.slice m.s.ga (m.s.gn) (m.s.gc)) m.s.gn (Jm m):=oO.kV hc1 (by decide);have mJ:xw X B 6 m:=nS.kV hc1 (by decide);have nC:aP X I 14 (bV v) 32:=rU.kV hc1 (by decide);have b6:Below B w X:=Fx.jZ.below b5 ahi (by rintro k (rfl|e) <;> first|exact Ep|exact(qH.ge e).1) (m_ u b5.size)
 rcases hcs1 with ⟨Q,hT1,hO1⟩|⟨Q,g9,YG,hT1,hO1,hne1⟩
 ·refine Ln<|bf (au (jF m.t m.tn (ji v.o v.seq) v.node))<|bT<|Ws<|ay<|av (au (jF m.t m.tn (ji v.o v.seq) v.node))<|Lv aG (nN Q)<|aD<|aL<|ay<|av (au (jF m.t m.tn (ji v.o v.seq) v.node))<|av (au (jF m.t m.tn (ji v.o v.seq) v.node))<|aD<|Wr<|sR<|aJ (au (jF m.t m.tn (ji v.o v.seq) v.node)) ?_;have N:k=m.s.nn:=by omega
  subst N;have H:kP m.core v=jF m.t m.tn (ji v.o v.seq) v.node:=b_ (fun h=>h.elim (fun h=>by rw[show oq m.core.id v.o m.core.nn=G from aa.symm]at h; omega) (fun h=>by omega));exact⟨pF H.symm,b6,fun U=>M_ (H.symm.trans U) Q⟩
 refine Ln<|bf (au (jF m.t m.tn (ji v.o v.seq) v.node))<|bT<|Ws<|ay<|av (au (jF m.t m.tn (ji v.o v.seq) v.node))<|Lv aF (ko Q)<|aD<|aK<|Wk<|sN<|ay<|av (aC (ji v.o v.seq))<|Lv (pf I 9) (iZ K 9)<|Lv (aC v.node) (aM nC.aI 9)<|av (.agg (aA 56 (aZ (aZ (fun L=>if L<2 then aC 0 else au 0) 0 1 (fun _=>aC (ji v.o v.seq))) 1 1 (fun _=>aC v.node))))<|uW 56 (fun L=>if L<2 then aC 0 else au 0) fun M w4 yD sK s5 z2 => ?_;have⟨rJ,og,qV,wT,tV,rW,wu⟩:=jM s5.old pV sJ nJ mJ nC hT1 hO1;have b7:=eP s5.old b6 u;have qW:=iT yD b6.size;have amn:=cu yD pV.lt;have FJ:(.slice m.s.na (m.s.nn) (m.s.nc):Value).ownBlock≠some M:=by rw[yD]; exact sJ.jo (A_ _)
 have⟨amo,amq,adi⟩:=Ed yD nC.lt hT1.lt hO1.lt;have zY:=sK.lt;refine fq sK 0 (h1:=(bE (bE (fun jq _=>by show((fun L=>if L<2 then aC 0 else au 0:Nat->Value) jq).oneCell'=true; simp only[]; repeat (first|rfl|split)) (fun _ _=>rfl)) (fun _ _=>rfl))) fun w5 uX s6 z3 => ?_
 have uN:aP w5 M 56 (aZ (aZ (fun L=>if L<2 then aC 0 else au 0) 0 1 (fun _=>aC (ji v.o v.seq))) 1 1 (fun _=>aC v.node)) 61:=aW uX;have gD:=gX s6 sK.ty;have vL:=jT gD rJ;have wz:=og.cZ s6 FJ;have⟨uw,uy,uz,wU,qI⟩:=rF gD qV wT tV rW wu;have b8:=s6.below b7 (m_ u b7.size) (by omega);refine aD<|Ws ?_;have vM:aP w5 M 56 (jQ (ji v.o v.seq) v.node (fun _=>0)) 61:=uN.congr (fun j hj=>UW j);refine Wl<|Lv (pt I) (iZ K 0)<|Lv (au v.o) (aM uz.aI 0)<|Lv (au a) fZ<|Lv (pf I 11) (iZ K 11)<|Lv (au v.aU) (aM uz.aI 11)<|av (pf M 2)<|av (pf M 2)<|Lv (pf M (a+2)) (iY 6 1)<|jh vM (a+2) (au v.aU) fun w6 oh s7 z4 => ?_;have tX:aP w6 M 56 (jQ (ji v.o v.seq) v.node (upd (fun _=>0) a v.aU)) 61:=oh.to (Pg (by omega));have jv:=gX s7 vM.ty;have m64:=jT jv vL;have wV:=wz.cZ s7 FJ;have⟨wB,wW,wX,sM,uY⟩:=rF jv uw uy uz wU qI;have b9:=s7.below b8 (m_ u b8.size) (by omega);refine aD<|Ws ?_;have ek0:k=m.s.nn:=by omega
 obtain⟨cn0,ahk,hc38⟩ : ∃ cn0,cn0=oq m.id v.o m.s.nn /\ ¬ (5:Int)<=(cn0:Int):=⟨G,by rw[<- ek0]; exact aa,c38⟩;clear aa hcl ek0;refine Wl<|aT J<|av (pt p)<|av (pt p)<|av (pf p 18)<|Lv (.slice m.s.na (m.s.nn) (m.s.nc)) (aM m64.aI 18)<|av (au m.s.nn)<|av (au m.s.nn)<|aD<|Ws ?_;refine Bp [0,1,2,3,4,5,6,7,8,9,10,11,12] [0,0,0,0,0,1,4,2,2,0,0,0,3] (iA [61]) wm Fx.iA.trans (fO := [(12,5,[5]),(7,6,[6]),(8,6,[7,6]),(12,6,[6]),(8,7,[7]),(9,7,[7]),(10,7,[7]),(11,7,[7]),(12,7,[7]),(9,8,[8]),(10,8,[8]),(11,8,[8]),(12,8,[8])]) (by kernel_rfl) (by kernel_rfl) (by kernel_rfl) (by kernel_rfl) (by kernel_rfl) fun Dx gI nX => ?_;have⟨uD,wC,uZ,yx,wD,yA,yB,yC⟩:=kW gI m64 wV wB wW wX sM uY tX;have b10:=eP gI b9 u;refine bW J<|bW J<|bf (pt p)<|bf (pt p)<|bf (pf p 18)<|Rd (v := .slice m.s.na (m.s.nn) (m.s.nc)) (by rfl) (by rfl) (wm _) (fun F E=>bB (x:=mX m) rfl rfl (by kernel_rfl) (uD.kV E (by decide)).aI (i:=18) (by omega) (by omega) rfl) ?_;refine Rs (.agg (aA 56 (jQ (ji v.o v.seq) v.node (upd (fun _=>0) a v.aU)))) (fJ yC.aI 0) ?_;refine Dw<|xY (vs := [(0,.agg (aA 56 (jQ (ji v.o v.seq) v.node (upd (fun _=>0) a v.aU))))]) (s:=56) (zc:=fun L=>if L<2 then aC 0 else au 0) (y:=aZ (fun j=>(fun L=>if L<2 then aC 0 else au 0) (j % 56)) (0*56) 56 (jQ (ji v.o v.seq) v.node (upd (fun _=>0) a v.aU))) (by rfl) rfl rfl Tryz.underlying50 (by kernel_rfl) (by rfl) (by rfl) (by kernel_rfl) (by rw[aR (off:=0*56) (s:=56) (y:=jQ (ji v.o v.seq) v.node (upd (fun _=>0) a v.aU)) rfl (bD _ _) (by rfl)]; rfl) rfl fun g3 w7 zF wY s9 z5 => ?_;have⟨wE,vg,vN,yR,xV,AA,zW,zX⟩:=kW s9.old uD wC uZ yx wD yA yB yC;have b11:=eP s9.old b10 u;have Aj:=iT zF b10.size;have ams:=cu zF uD.lt;have amu:(.slice m.s.na (m.s.nn) (m.s.nc):Value).ownBlock≠some g3:=by rw[zF]; exact wC.jo (A_ _)
 have⟨amv,adj,Jr,adk⟩:=SX zF wD.lt yA.lt yB.lt yC.lt;have J6:=wY.lt;refine Ln ⟨Fx.iA.of_below s9.old,?_⟩;refine Dw<|yu (B:=B) (s:=56) (bytes:=448) (k:=m.s.nn) (m:=1) (v := .slice m.s.na (m.s.nn) (m.s.nc)) (x:=J8 m) (by rfl) rfl rfl rfl Tryz.underlying50 (by kernel_rfl) (by kernel_rfl) rfl rfl vg wY.aI (uI (qj _ _ _)) (by omega) (by omega) (by omega) (m_ u b11.size) fun l A w8 ho1 hg1 sH hlt1 => ?_;have qc:=yJ hg1 vg;have⟨zD,Al,Dz,Cc,Ao,Bg⟩:=SS qc wE vN yR xV AA zW;have yE:=zX.grown hg1 FJ;have amw:M≠l:=fun e=>sH.elim (fun e2=>FJ (by rw[e]; exact e2)) (fun e2=>by have:=zX.lt; omega);have yS:Fx.Own w8 B 61 56 (bO l (m.s.nn+1) A) (m.s.nn+1) (flat 56 (Fx.Kl (fun d=>jQ (m.id d) (m.par d) (m.R d)) (jQ (ji v.o v.seq) v.node (upd (fun _=>0) a v.aU)) m.s.nn m.s.nn)):=(ho1.congr (fun j hj=>(Fx.vE j hj).trans (bM (fun i V q _=>Fx.yK i V q) j hj)));have b12:Below B w w8:=yt b11 hg1 (m_ u b11.size) (fun q hq=>(vg.ge hq).1);refine Ln ⟨qc,?_⟩;refine bf (pt p)<|bf (pt p)<|bf (pf p 18)<|gQ<|jh zD 18 (bO l (m.s.nn+1) A) fun w9 DJ s10 z6 => ?_;have yQ:=gX s10 zD.ty;have⟨Ce,DK,Eo,uO,xB,uP,rM⟩:=SV yQ Al Dz Cc Ao Bg yE yS;have b13:=s10.below b12 (m_ u b12.size) (by omega);refine Ln<|bT<|Ws<|Wb<|Wo (fun f z => ∃ k:Nat,k<=m.s.nn/\(∀ i,k<=i->i<m.s.nn->(ji v.o v.seq)<m.id i)/\f 0=(pt p)/\f 7=aC (ji v.o v.seq)/\f 9=(pt M)/\f 10=au (k:Int)/\Fx.Own z B 66 5 (.slice m.s.ga (m.s.gn) (m.s.gc)) m.s.gn (Jm m)/\xw z B 6 m/\aP z I 14 (bV v) 32/\aP z m.tb 1 (fun _=>bO g9 (m.tn+1) YG) 123/\Fx.Own z B 128 2 (bO g9 (m.tn+1) YG) (m.tn+1) (rv .u64 (lu (pJ m.t (down (fun i=>decide ((ji v.o v.seq)<m.t i 0)) m.tn) (ji v.o v.seq) v.node)))/\aP z M 56 (jQ (ji v.o v.seq) v.node (upd (fun _=>0) a v.aU)) 61/\aP z p 27 (dD (mX m) 18 (bO l (m.s.nn+1) A)) 71/\Fx.Own z B 61 56 (bO l (m.s.nn+1) A) (m.s.nn+1) (flat 56 (Fx.Kl (fun d=>jQ (m.id d) (m.par d) (m.R d)) (jQ (ji v.o v.seq) v.node (upd (fun _=>0) a v.aU)) m.s.nn k))/\Below B w z) (fun f _=>(intOf (f 10)).toNat) ⟨m.s.nn,by omega,(fun i J K=>M_ J (by omega)),J,Fx.ic,(by rfl),Fx.ic,Ce,DK,Eo,uO,xB,uP,DJ,rM,b13⟩ ?_;rintro f2 sI ⟨k,hk,hgt,Z,h6,h7,P,oI,ou,pK,oJ,ql,qM,tZ,qm,b14⟩;refine Ws<|ay<|aT P ?_;by_cases c91:0<(k:Int)
 ·obtain⟨j,ej⟩ : ∃ j,k=j+1:=⟨k-1,by omega⟩;refine Lv aG (mK c91)<|av aG<|aT Z<|av (pt p)<|av (pt p)<|av (pf p 18)<|Lv (bO l (m.s.nn+1) A) (aM tZ.aI 18 (Fx.lQ (by omega)))<|aT P<|Lv (au j) fZ<|Lv (pf l (56*j)) (dh 56)<|av (pf l (56*j))<|Lv (aC (m.id j)) (aM qm.aI (56*j) (Fx.gy (k:=j) (j:=0) (by omega) (by omega) ((congrFun (Fx.Af (by omega) (by omega)) 0).trans rfl)))<|aT h6 ?_;by_cases YH:(ji v.o v.seq)<(m.id j)
  ·refine Lv aG (mK YH)<|av aG<|aD<|aL<|Wk<|sN<|Wb<|Ws ?_;refine kJ [0,1,2,3,5,6,7,8,9,11,12,4,10,13,14,15,16] [0,0,0,0,4,0,0,0,0,0,4,0,0,0,4,0,3] [(16,4,[4]),(16,10,[10]),(16,14,[14])] fun R8 lZ BA => ?_;have⟨sZ,xZ,uf,yc,AL,vR,tu,pO⟩:=kW lZ oI ou pK oJ ql qM tZ qm;have b15:=eP lZ b14 u;refine bW Z<|bf (pt p)<|bf (pt p)<|bf (pf p 18)<|bW P<|bW Z<|bf (pt p)<|bf (pt p)<|bf (pf p 18)<|bW P<|Rp (au j) (fun _=>fZ)<|Rs (bO l (m.s.nn+1) A) (aM tu.aI 18 (Fx.lQ (by omega))) ?_;refine Rs (bO l (m.s.nn+1) A) (aM tu.aI 18 (Fx.lQ (by omega))) ?_;refine Rp (pf l (56*j)) (fun _=>dh 56)<|Rs (.agg (aA 56 (jQ (m.id j) (m.par j) (m.R j)))) (fJ pO.aI (56*j) (fun jq hjq=>(Fx.jG (k:=j) (by omega) hjq).trans (congrFun (Fx.Af (by omega) (by omega)) jq))) ?_;refine Rp (pf l (56*k)) (fun _=>dh 56)<|gQ<|Ay pO (56*k) (h1:=(fun j _=>qj _ _ _ j)) fun xU xC s12 z7 => ?_;have zU:=gX s12 pO.Kk;have⟨xD,tC,AO,Er,Cw⟩:=rF zU sZ xZ uf yc AL;have zZ:=vR.cZ s12 (by omega);have Cx:=jT zU tu;have b16:=s12.below b15 (m_ u b15.size) pO.blk.1;have Es:Fx.Own xU B 61 56 (bO l (m.s.nn+1) A) (m.s.nn+1) (flat 56 (Fx.Kl (fun d=>jQ (m.id d) (m.par d) (m.R d)) (jQ (ji v.o v.seq) v.node (upd (fun _=>0) a v.aU)) m.s.nn j)):=xC.congr (fun T S=>(Fx.vF (k:=k) (by omega) T S).trans (bM (fun i V q _=>Fx.zx ej (by omega) i V q) T S));refine Ln<|bT<|Wl<|aT P<|Lv (au j) fZ<|av (au j)<|Ln<|bR<|gL ⟨j,by omega,(UY ej hgt YH),Z,(h6.trans Fx.ic),h7,Fx.ic,xD,tC,AO,Er,Cw,zZ,Cx,Es,b16⟩ ?_;show(intOf (au j)).toNat<_;simp only[P,intOf]; omega
  refine Lv aF (mM YH)<|av aF<|aD<|aK<|Wx<|bY<|gJ<|bZ<|sN<|Ws ?_;refine kJ [0,1,2,3,5,4,6,7,8] [0,0,0,0,4,0,4,0,3] [(8,4,[4]),(8,6,[6])] fun wt4 qU Hw => ?_;have⟨AP,yV,GR,Cy,CB,Et,Eu⟩:=jM qU oI ou oJ ql qM tZ qm;have b17:=eP qU b14 u;refine bW Z<|bf (pt p)<|bf (pt p)<|bf (pf p 18)<|bW P<|Rs (bO l (m.s.nn+1) A) (aM Et.aI 18 (Fx.lQ (by omega))) ?_;refine Rs (.agg (aA 56 (jQ (ji v.o v.seq) v.node (upd (fun _=>0) a v.aU)))) (fJ CB.aI 0 (ha:=h7)) ?_;refine Rp (pf l (56*k)) (fun _=>dh 56)<|gQ<|Ay Eu (56*k) (h1:=(fun j _=>qj _ _ _ j)) fun Dy AQ Ej z8 => ?_;have zV:=gX Ej Eu.Kk;have⟨CF,AU,CG,yg⟩:=Kn zV AP yV GR Cy;have yX:=CB.cZ Ej (by omega);have yh:=jT zV Et;have b18:=Ej.below b17 (m_ u b17.size) Eu.blk.1;have BI:Fx.Own Dy B 61 56 (bO l (m.s.nn+1) A) (m.s.nn+1) (flat 56 (Fx.Jb (fun d=>jQ (m.id d) (m.par d) (m.R d)) k (jQ (ji v.o v.seq) v.node (upd (fun _=>0) a v.aU)))):=AQ.congr (fun T S=>(Fx.vF (k:=k) (by omega) T S).trans (bM (fun i V q _=>Fx.uj (by omega) i V q) T S));refine Ln<|bT<|ay<|av (au 0)<|aD<|Wr<|aJ (au 0) ?_;have H:kP m.core v=jF m.t m.tn (ji v.o v.seq) v.node:=b_ (fun h=>h.elim (fun h=>by rw[show oq m.core.id v.o m.core.nn=cn0 from ahk.symm]at h; omega) (fun h=>by omega));have N:k=sU m.id m.s.nn (ji v.o v.seq):=Fx.pR hk (fun i a b=>f_ (hgt i a b)) (.inr (fun j2 e=>by rw[show j2=j by omega]; exact g_ YH));have K4:Fx.Own Dy B 61 56 (bO l (m.s.nn+1) A) (m.s.nn+1) (flat 56 fun d=>jQ (cO m.id k (ji v.o v.seq) d) (cO m.par k v.node d) (cO m.R k (upd (fun _=>0) a v.aU) d)):=by rw[<- Ph]; exact BI
  have eR:(upd (fun _=>0) a v.aU)=upd (fun _=>0) (v.o-1).toNat v.aU:=by rw[show(v.o-1).toNat=a by omega]
  have bn9:m.tn+1<=33:=K3 Q;refine⟨pF (Q.symm.trans H.symm),b18,fun _=>⟨{ m with s := { m.s with na:=some ⟨l,0,none⟩,nn:=m.s.nn+1,nc:=A },id:=cO m.id k (ji v.o v.seq),par:=cO m.par k v.node,R:=cO m.R k (upd (fun _=>0) a v.aU),ta:=some ⟨g9,0,none⟩,tn:=m.tn+1,tc:=YG,t:=pJ m.t (down (fun i=>decide ((ji v.o v.seq)<m.t i 0)) m.tn) (ji v.o v.seq) v.node },?_,?_⟩⟩
  ·unfold qL; rw[show sU m.core.id m.core.nn (ji v.o v.seq)=k from N.symm,<- eR]; rfl
  exact { c:=yh.to (H9 m _ _ _),n:=K4,g:=CF,tc:=CG,t:=yg,r:=AU,pB:=U1,tB:=Ep,bn:=(by have:=bnn; show m.s.nn+1<=1000; omega),bg:=bg,bt:=(by show m.tn+1<=1000; omega),br:=C.br }
 refine Lv aF (mM c91)<|av aF<|dw<|dw<|dw<|dw<|dw<|dw<|dw<|dw<|dw<|dw<|dw<|dw<|av aF<|aD<|aK<|Wx<|bY<|gJ<|bZ<|sN<|Ws ?_;refine kJ [0,1,2,3,5,4,6,7,8] [0,0,0,0,4,0,4,0,3] [(8,4,[4]),(8,6,[6])] fun wt5 Ak TN => ?_;have⟨K5,Js,Nr,QY,Ns,K6,Nt⟩:=jM Ak oI ou oJ ql qM tZ qm;have b19:=eP Ak b14 u;refine bW Z<|bf (pt p)<|bf (pt p)<|bf (pf p 18)<|bW P<|Rs (bO l (m.s.nn+1) A) (aM K6.aI 18 (Fx.lQ (by omega))) ?_;refine Rs (.agg (aA 56 (jQ (ji v.o v.seq) v.node (upd (fun _=>0) a v.aU)))) (fJ Ns.aI 0 (ha:=h7)) ?_;refine Rp (pf l (56*k)) (fun _=>dh 56)<|gQ<|Ay Nt (56*k) (h1:=(fun j _=>qj _ _ _ j)) fun EI Jt s16 z9 => ?_;have BH:=gX s16 Nt.Kk;have⟨U2,U3,K7,QZ⟩:=Kn BH K5 Js Nr QY;have adl:=Ns.cZ s16 (by omega);have U4:=jT BH K6;have b20:=s16.below b19 (m_ u b19.size) Nt.blk.1;have Q0:Fx.Own EI B 61 56 (bO l (m.s.nn+1) A) (m.s.nn+1) (flat 56 (Fx.Jb (fun d=>jQ (m.id d) (m.par d) (m.R d)) k (jQ (ji v.o v.seq) v.node (upd (fun _=>0) a v.aU)))):=Jt.congr (fun T S=>(Fx.vF (k:=k) (by omega) T S).trans (bM (fun i V q _=>Fx.uj (by omega) i V q) T S));refine Ln<|bT<|ay<|av (au 0)<|aD<|Wr<|aJ (au 0) ?_;have H:kP m.core v=jF m.t m.tn (ji v.o v.seq) v.node:=b_ (fun h=>h.elim (fun h=>by rw[show oq m.core.id v.o m.core.nn=cn0 from ahk.symm]at h; omega) (fun h=>by omega));have N:k=sU m.id m.s.nn (ji v.o v.seq):=Fx.pR hk (fun i a b=>f_ (hgt i a b)) (.inl (by omega));have YI:Fx.Own EI B 61 56 (bO l (m.s.nn+1) A) (m.s.nn+1) (flat 56 fun d=>jQ (cO m.id k (ji v.o v.seq) d) (cO m.par k v.node d) (cO m.R k (upd (fun _=>0) a v.aU) d)):=by rw[<- Ph]; exact Q0
 have eR:(upd (fun _=>0) a v.aU)=upd (fun _=>0) (v.o-1).toNat v.aU:=by rw[show(v.o-1).toNat=a by omega]
 have bn9:m.tn+1<=33:=K3 Q;refine⟨pF (Q.symm.trans H.symm),b20,fun _=>⟨{ m with s := { m.s with na:=some ⟨l,0,none⟩,nn:=m.s.nn+1,nc:=A },id:=cO m.id k (ji v.o v.seq),par:=cO m.par k v.node,R:=cO m.R k (upd (fun _=>0) a v.aU),ta:=some ⟨g9,0,none⟩,tn:=m.tn+1,tc:=YG,t:=pJ m.t (down (fun i=>decide ((ji v.o v.seq)<m.t i 0)) m.tn) (ji v.o v.seq) v.node },?_,?_⟩⟩
 ·unfold qL; rw[show sU m.core.id m.core.nn (ji v.o v.seq)=k from N.symm,<- eR]; rfl
 exact { c:=U4.to (H9 m _ _ _),n:=YI,g:=U2,tc:=K7,t:=QZ,r:=U3,pB:=U1,tB:=Ep,bn:=(by have:=bnn; show m.s.nn+1<=1000; omega),bg:=bg,bt:=(by show m.tn+1<=1000; omega),br:=C.br }
namespace Rt
theorem lW(x:Nat->Int)(n:Int)(is:Bool)(a:Int)(off:Nat) :
 ((bU x n is a off).1=zero/\(bU x n is a off).2≠0 /\ ¬ (may x=true/\1<=n/\n<=1125899906842624/\is=true/\a=0/\x off+n<=1125899906842624)) \/
 ((may x=true/\1<=n/\n<=1125899906842624/\is=true/\a=0/\x off+n<=1125899906842624)/\bU x n is a off=(upd x off (x off+n),0)):=by
 unfold bU;by_cases f:may x=true
 ·by_cases c:1<=n
  ·by_cases d:n<=1125899906842624
   ·rw[f,f_ c,f_ d];simp only[Bool.and_self,if_true]
    cases is
    ·left; exact⟨rfl,(by show(10:Int)≠0; decide),fun h=>by cases h.2.2.2.1⟩
    by_cases b:a=0
    ·by_cases e:x off+n<=1125899906842624
     ·right; exact⟨⟨trivial,c,d,rfl,b,e⟩,by rw[d_ rfl,d_ b,d_ e]⟩
     left; rw[d_ rfl,d_ b,b_ e]; exact⟨rfl,by decide,fun h=>e h.2.2.2.2.2⟩
    left; rw[d_ rfl,b_ b]; exact⟨rfl,b,fun h=>b h.2.2.2.2.1⟩
   left; rw[g_ d,I_,b_ (by decide)]; exact⟨rfl,by decide,fun h=>d h.2.2.1⟩
  left; rw[g_ c,I_,Bool.false_and,b_ (by decide)]; exact⟨rfl,by decide,fun h=>c h.2.1⟩
 left; rw[show may x=false by simpa using f,Bool.false_and,Bool.false_and,b_ (by decide)]; exact⟨rfl,by decide,fun h=>by cases h.1⟩
theorem Nu{x:Nat->Int}(h:QT x){off:Nat}{n:Int}(h1:1<=n)(c:x off+n<=1125899906842624)(a:off<54):QT (upd x off (x off+n)):=by
 intro p b;unfold upd;split
 ·have:=h off a; omega
 exact h p b
theorem rO{i:Int}(h:gG i=true) : ∃ a:Nat,a<6/\i=(a:Int)+1/\i.toNat-1=a:=by
 have:1<=i/\i<=6:=by unfold gG at h; simpa using h
 exact⟨(i-1).toNat,by omega,by omega,by omega⟩
structure Moved(x y:Nat->Int)(a b:Nat)(n:Int):Prop where
 may:may y=true
 l : ∀ k,k<6->L y k=L x k+(if k=b then n else 0)-(if k=a then n else 0)
 g:nE y=nE x
 u:mE y=mE x
theorem zJ{x:Nat->Int}{i j n:Int}(h:(cK x i j n).2=0) : ∃ a b:Nat,a<6/\b<6/\a≠b/\i=(a:Int)+1/\j=(b:Int)+1/\1<=n/\n<=1125899906842624/\n<=L x a/\Moved x (cK x i j n).1 a b n/\(cK x i j n).1=upd x (18+a*6+b) (x (18+a*6+b)+n):=by
 unfold cK at *
 rcases lW x n (gG i&&gG j) (mU x i j n) (jU i j)with ⟨_,f,_⟩|⟨⟨hm,h1,f,hr,he,hx⟩,heq⟩
 ·exact M_ h f
 rw[T_]at hr;obtain⟨a,g,l,D⟩:=rO hr.1;obtain⟨b,m,q,E⟩:=rO hr.2;have s:jU i j=18+a*6+b:=by unfold jU; rw[D,E]
 rw[s]at heq hx;rw[s];have B:a≠b:=by
  intro z;unfold mU at he;rw[d_ (by rw[l,q,z])]at he
  cases he
 have y:n<=L x a:=by
  unfold mU at he;rw[b_ (by omega)]at he;by_cases d:cB x i<n
  ·rw[f_ d]at he; cases he
  ·rw[l,jP hm a g]at d; omega
 obtain⟨e,t,w⟩:=(jX x).1 hm;have d:=acY x a b g m n;have c : ∀ p,p<18->upd x (18+a*6+b) (x (18+a*6+b)+n) p=x p:=fun p I=>gK _ _ _ _ (by omega);have o:nE (upd x (18+a*6+b) (x (18+a*6+b)+n))=nE x:=by unfold nE G; rw[c 0 (by omega),c 1 (by omega),c 2 (by omega),c 3 (by omega),c 4 (by omega),c 5 (by omega)]
 have A:(bU x n (gG i&&gG j) (mU x i j n) (18+a*6+b)).1=upd x (18+a*6+b) (x (18+a*6+b)+n):=by rw[heq]
 rw[A];refine⟨a,b,g,m,B,l,q,h1,f,y,⟨?_,d,o,?_⟩,rfl⟩
 ·rw[jX];refine⟨Nu e h1 hx (by omega),fun k r => ?_,by rw[o]; exact w⟩;obtain⟨H,u,v⟩:=t k r;refine⟨?_,?_,?_⟩
  ·rw[d k r];split
   ·split <;> omega
   split
   ·rename_i hka; subst hka; omega
   omega
  ·unfold F C at *; rw[c _ (by omega),c _ (by omega)]; exact u
  unfold R at *; rw[gK _ _ _ _ (by omega)]; exact v
 unfold mE C F; simp only[c _ (show 6+0<18 by omega),c _ (show 6+1<18 by omega),c _ (show 6+2<18 by omega),c _ (show 6+3<18 by omega),c _ (show 6+4<18 by omega),c _ (show 6+5<18 by omega),c _ (show 12+0<18 by omega),c _ (show 12+1<18 by omega),c _ (show 12+2<18 by omega),c _ (show 12+3<18 by omega),c _ (show 12+4<18 by omega),c _ (show 12+5<18 by omega)]
theorem FK(x:Nat->Int)(off:Nat)(c:off<18)(v:Int)(a b:Nat):R (upd x off v) a b=R x a b:=gK _ _ _ _ (by omega)
theorem U5(x:Nat->Int)(off:Nat)(a:off<18)(v:Int)(k:Nat):L (upd x off v) k=L x k+(G (upd x off v) k-G x k)+(F (upd x off v) k-F x k)-(C (upd x off v) k-C x k):=by
 unfold L;simp only[FK x off a v];omega
theorem ahl(x:Nat->Int)(a:Nat)(n:Int)(k:Nat):C (upd x (6+a) (x (6+a)+n)) k=C x k+(if k=a then n else 0):=by
 unfold C upd;by_cases h:k=a
 ·subst h; simp
 rw[b_ (by omega),b_ h]; omega
theorem ahm(x:Nat->Int)(a:Nat)(n:Int)(k:Nat):F (upd x (12+a) (x (12+a)+n)) k=F x k+(if k=a then n else 0):=by
 unfold F upd;by_cases h:k=a
 ·subst h; simp
 rw[b_ (by omega),b_ h]; omega
theorem ahn(x:Nat->Int)(a:Nat)(n:Int)(k:Nat):G (upd x a (x a+n)) k=G x k+(if k=a then n else 0):=by
 unfold G upd;by_cases h:k=a
 ·subst h; simp
 rw[b_ h,b_ h]; omega
theorem six(a:Nat)(ha:a<6)(n:Int):(if 0=a then n else 0)+(if 1=a then n else 0)+(if 2=a then n else 0)+(if 3=a then n else 0)+(if 4=a then n else 0)+(if 5=a then n else 0)=n:=by
 have:a=0\/a=1\/a=2\/a=3\/a=4\/a=5:=by omega
 rcases this with h|h|h|h|h|h <;> subst h <;> simp
theorem Ju{x:Nat->Int}{i n:Int}(h:(bJ x i n).2=0) : ∃ a:Nat,a<6/\i=(a:Int)+1/\1<=n/\n<=1125899906842624/\n<=L x a/\C x a+n<=1125899906842624/\may (bJ x i n).1=true /\
 (∀ k,k<6->L (bJ x i n).1 k=L x k-(if k=a then n else 0))/\nE (bJ x i n).1=nE x/\mE (bJ x i n).1=mE x+n/\(bJ x i n).1=upd x (6+a) (x (6+a)+n):=by
 unfold bJ at *
 rcases lW x n (gG i) (qX x i n) (6+(i.toNat-1))with ⟨_,j,_⟩|⟨⟨hm,h1,j,hr,he,hx⟩,heq⟩
 ·exact M_ h j
 obtain⟨a,l,o,p⟩:=rO hr;rw[p]at heq hx;rw[p];have t:n<=L x a:=by
  unfold qX at he;by_cases g:cB x i<n
  ·rw[f_ g]at he; cases he
  ·rw[o,jP hm a l]at g; omega
 obtain⟨e,q,s⟩:=(jX x).1 hm;have u:(bU x n (gG i) (qX x i n) (6+a)).1=upd x (6+a) (x (6+a)+n):=by rw[heq]
 rw[u];have b:=ahl x a n;have f : ∀ k,k<6->G (upd x (6+a) (x (6+a)+n)) k=G x k:=fun k d=>gK _ _ _ _ (by omega);have c : ∀ k,k<6->F (upd x (6+a) (x (6+a)+n)) k=F x k:=fun k d=>gK _ _ _ _ (by omega);have g : ∀ k,k<6->L (upd x (6+a) (x (6+a)+n)) k=L x k-(if k=a then n else 0):=by
  intro k d;rw[U5 x (6+a) (by omega),f k d,c k d,b k]; omega
 have m:nE (upd x (6+a) (x (6+a)+n))=nE x:=by unfold nE; rw[f 0 (by omega),f 1 (by omega),f 2 (by omega),f 3 (by omega),f 4 (by omega),f 5 (by omega)]
 refine⟨a,l,o,h1,j,t,hx,?_,g,m,?_,rfl⟩
 ·rw[jX];refine⟨Nu e h1 hx (by omega),fun k d => ?_,by rw[m]; exact s⟩;obtain⟨v,w,r⟩:=q k d;refine⟨?_,?_,?_⟩
  ·rw[g k d];split
   ·rename_i hka; subst hka; omega
   omega
  ·rw[c k d,b k]; split <;> omega
  rw[FK x (6+a) (by omega)]; exact r
 unfold mE;rw[c 0 (by omega),c 1 (by omega),c 2 (by omega),c 3 (by omega),c 4 (by omega),c 5 (by omega),b 0,b 1,b 2,b 3,b 4,b 5];have:=six a l n;omega
theorem Jv{x:Nat->Int}{i n:Int}(h:(bK x i n).2=0) : ∃ a:Nat,a<6/\i=(a:Int)+1/\1<=n/\n<=1125899906842624/\n<=C x a-F x a/\may (bK x i n).1=true /\
 (∀ k,k<6->L (bK x i n).1 k=L x k+(if k=a then n else 0))/\nE (bK x i n).1=nE x/\mE (bK x i n).1=mE x-n/\(bK x i n).1=upd x (12+a) (x (12+a)+n):=by
 unfold bK at *
 rcases lW x n (gG i) (qY x i n) (12+(i.toNat-1))with ⟨_,j,_⟩|⟨⟨hm,h1,j,hr,he,hx⟩,heq⟩
 ·exact M_ h j
 obtain⟨a,m,u,l⟩:=rO hr;rw[l]at heq hx;rw[l];have s:n<=C x a-F x a:=by
  unfold qY at he;rw[l]at he;by_cases g:C x a-F x a<n
  ·rw[f_ g]at he; cases he
  ·omega
 obtain⟨e,p,r⟩:=(jX x).1 hm;have t:(bU x n (gG i) (qY x i n) (12+a)).1=upd x (12+a) (x (12+a)+n):=by rw[heq]
 rw[t];have c:=ahm x a n;have f : ∀ k,k<6->G (upd x (12+a) (x (12+a)+n)) k=G x k:=fun k d=>gK _ _ _ _ (by omega);have b : ∀ k,k<6->C (upd x (12+a) (x (12+a)+n)) k=C x k:=fun k d=>gK _ _ _ _ (by omega);have g : ∀ k,k<6->L (upd x (12+a) (x (12+a)+n)) k=L x k+(if k=a then n else 0):=by
  intro k d;rw[U5 x (12+a) (by omega),f k d,c k,b k d]; omega
 have o:nE (upd x (12+a) (x (12+a)+n))=nE x:=by unfold nE; rw[f 0 (by omega),f 1 (by omega),f 2 (by omega),f 3 (by omega),f 4 (by omega),f 5 (by omega)]
 refine⟨a,m,u,h1,j,s,?_,g,o,?_,rfl⟩
 ·rw[jX];refine⟨Nu e h1 hx (by omega),fun k d => ?_,by rw[o]; exact r⟩;obtain⟨v,w,q⟩:=p k d;refine⟨?_,?_,?_⟩
  ·rw[g k d]; split <;> omega
  ·rw[c k,b k d];split
   ·rename_i hka; subst hka; omega
   omega
  rw[FK x (12+a) (by omega)]; exact q
 unfold mE;rw[b 0 (by omega),b 1 (by omega),b 2 (by omega),b 3 (by omega),b 4 (by omega),b 5 (by omega),c 0,c 1,c 2,c 3,c 4,c 5];have:=six a m n;omega
end Rt
section
namespace Rt
def dn(f:(Nat->Int)->(Nat->Int) × Int)(idx:Nat->Nat)(R:Nat->Nat->Int):Nat->(Nat->Nat->Int) × Int
 | 0=>(R,0)
 | j+1=>if(dn f idx R j).2=0 then(if(f ((dn f idx R j).1 (idx j))).2=0 then(aH (dn f idx R j).1 (idx j) (f ((dn f idx R j).1 (idx j))).1,0)else((dn f idx R j).1,(f ((dn f idx R j).1 (idx j))).2))else dn f idx R j
section
variable {f:(Nat->Int)->(Nat->Int) × Int} {idx:Nat->Nat} {R Rk:Nat->Nat->Int} {k q:Nat}
theorem FL(h:dn f idx R k=(Rk,0))(e:idx k=q)(a:(f (Rk q)).2=0):dn f idx R (k+1)=(aH Rk q (f (Rk q)).1,0):=by
 unfold dn; rw[h,d_ rfl,e,d_ a]
theorem Ia(h:dn f idx R k=(Rk,0))(e:idx k=q)(a : ¬ (f (Rk q)).2=0):(dn f idx R (k+1)).2=(f (Rk q)).2:=by
 unfold dn; rw[h,d_ rfl,e,b_ a]
theorem AV(a : ¬ (dn f idx R k).2=0) : ∀ n,k<=n->dn f idx R n=dn f idx R k
 | 0,h=>by obtain rfl:k=0:=by omega
           rfl
 | n+1,h=>by
   by_cases e:k=n+1
   ·rw[e]
   ·have:=AV a n (by omega);rw[dn,this,b_ a]
end
def lead(P:Nat->Bool):Nat->Nat
 | 0=>0
 | n+1=>if lead P n=n/\P n=true then n+1 else lead P n
theorem Jw(P:Nat->Bool) : ∀ n,lead P n<=n
 | 0=>A_ _
 | n+1=>by
   unfold lead; split
   ·exact A_ _
   ·have:=Jw P n; omega
theorem K8{P:Nat->Bool} : ∀ {n:Nat},(∀ i,i<n->P i=true)->lead P n=n
 | 0,_=>rfl
 | n+1,h=>by unfold lead; rw[d_ ⟨K8 fun i a=>h i (by omega),h n (by omega)⟩]
theorem Pj{P:Nat->Bool}{K:Nat}(h1 : ∀ i,i<K->P i=true)(a:P K=false) : ∀ {n:Nat},K<=n->lead P n=K
 | 0,h=>by unfold lead; omega
 | n+1,h=>by
   unfold lead;by_cases e:K=n+1
   ·rw[d_ ⟨K8 fun i d=>h1 i (by omega),h1 n (by omega)⟩]; exact e.symm
   ·rw[Pj h1 a (n:=n) (by omega),b_];rintro ⟨c,b⟩;subst c; rw[a]at b; cases b
def fG(t:Nat->Nat->Int)(tn:Nat)(x:Int):Nat:=lead (fun i=>decide (0<=bG t tn (bI t tn i x))) 1000
theorem vS{t:Nat->Nat->Int}{tn K D:Nat}{x:Int}(h1 : ∀ i,i<K->0<=bG t tn (bI t tn i x))(c:bG t tn (bI t tn K x)<0)(d:bG t tn (bI t tn D x)<0)(e:D<=1000):K=fG t tn x:=by
 have a:K<=1000:=by
  rcases Nat.lt_or_ge D K with h|h
  ·have:=h1 D h; omega
  ·omega
 exact(Pj (fun i b=>f_ (h1 i b)) (g_ (by omega)) a).symm
end Rt
def fI.node(L:fI)(x:Int):Int:=fU (fun i=>decide (L.id i=x)) L.nn
def fI.grant(L:fI)(o r:Int):Int:=fU (fun i=>decide (L.g i 0=o)&&decide (L.g i 1=r)) L.gn
def fI.lH(L:fI)(a:Nat)(r:Int):Int:=fU (fun i=>decide (L.rq a i=r)) (L.rn a)
namespace Rt
def oK(L:fI)(x:Int)(i:Nat):Nat:=(L.node (bI L.t L.tn i x)).toNat
def qC(v:EvM):Nat->Int:=fun j=>if j=0 then v.o else if j=1 then v.req else if j=2 then v.node else if j=3 then v.aU else 0
def FM(v:EvM)(x:Nat->Int):Bool:=decide (v.o<x 0) || (decide (x 0=v.o)&&decide (v.req<x 1))
def aO(v:EvM):Nat:=(v.o-1).toNat
def nG(L:fI)(v:EvM):(Nat->Nat->Int) × Int:=dn (fun x=>bJ x v.o v.aU) (oK L v.node) L.R (fG L.t L.tn v.node)
def iU(L:fI)(v:EvM):Int:=if 0<=L.lH (aO v) v.req then 14 else if fG L.t L.tn v.node=0 then 9 else(nG L v).2
def qN(L:fI)(a:Nat)(r:Int):fI := { L with rn:=aH L.rn a (L.rn a+1),rq:=aH L.rq a (aH (L.rq a) (L.rn a) r) }
def mG(L:fI)(v:EvM):fI :=
 qN { L with R:=(nG L v).1,gn:=L.gn+1,g:=cO L.g (down (fun i=>FM v (L.g i)) L.gn) (qC v) } (aO v) v.req
theorem CJ{n q:Nat}{id par:Nat->Int}{R:Nat->Nat->Int}{r:Nat->Int} : ∀ i,i<n -> ∀ j,j<56->Fx.qG (fun a=>jQ (id a) (par a) (R a)) q (aZ (jQ (id q) (par q) (R q)) 2 54 (rv .i64 r)) i j=jQ (id i) (par i) (aH R q r i) j:=fun i _ j d=>by
 unfold Fx.qG aH;by_cases h:i=q
 ·subst h;rw[d_ rfl,d_ rfl];unfold aZ jQ rv;by_cases b:j=0
  ·subst b; rfl
  ·by_cases c:j=1
   ·subst c; rfl
   ·rw[d_ (by omega),b_ b,b_ c]
 ·rw[b_ h,b_ h]
theorem YJ{g:Nat->Nat->Int}{k:Nat}{x:Nat->Int}:Fx.Jb (fun a=>jw (g a)) k (jw x)=fun a=>jw (cO g k x a):=by
 funext i
 unfold Fx.Jb cO;by_cases h:i<k
 ·simp only[d_ h]
 by_cases b:i=k
 ·simp only[b_ h,d_ b]
 simp only[b_ h,b_ b]
theorem Nv(m:lV)(a:Option Addr)(n c:Nat):dD (mX m) 19 (.slice a n c)=mX { m with s := { m.s with ga:=a,gn:=n,gc:=c } }:=by
 funext p
 unfold dD mX;by_cases h:p=19
 ·subst h; rfl
 rw[b_ h];by_cases e:p<20
 ·rw[d_ e,d_ e]; unfold kK;by_cases b:p<6
  ·rw[d_ b,d_ b]
  by_cases d:p<12
  ·rw[b_ b,d_ d,b_ b,d_ d]
  by_cases f:p<18
  ·rw[b_ b,b_ d,d_ f,b_ b,b_ d,d_ f]
  rw[b_ b,b_ d,b_ f,d_ (by omega),b_ b,b_ d,b_ f,d_ (by omega)]
 rw[b_ e,b_ e]
theorem K9(m:lV){i q:Nat}(f:q=i+21)(a:Option Addr)(n c:Nat):dD (mX m) q (.slice a n c)=mX { m with ra:=aH m.ra i a,rn:=aH m.rn i n,rc:=aH m.rc i c }:=by
 subst f
 funext p
 unfold dD mX;by_cases h:p=i+21
 ·subst h;rw[d_ rfl,b_ (by omega),b_ (by omega),Nat.add_sub_cancel];simp[aH]
 rw[b_ h];by_cases b:p<20
 ·rw[d_ b,d_ b]
 rw[b_ b,b_ b];by_cases d:p=20
 ·rw[d_ d,d_ d]
 rw[b_ d,b_ d];have e : ¬ p-21=i:=by omega
 simp[aH,e]
theorem xw.app{w w':World}{B a g cap:Nat}{r:Int}{m d:lV}(h:xw w B 6 m)(_ha:a<6)(h1:d.ra=aH m.ra a (some ⟨g,0,none⟩))(l:d.rn=aH m.rn a (m.rn a+1))(t:d.rc=aH m.rc a cap)(u:d.rq=aH m.rq a (aH (m.rq a) (m.rn a) r))
 (z:Fx.Own w' B 28 1 (bO g (m.rn a+1) cap) (m.rn a+1) (rv .u64 (aH (m.rq a) (m.rn a) r))) (A:w.grownBy w' (tY m a).ownBlock) (C:(tY m a).ownBlock=some g\/g=w.heap.size):xw w' B 6 d:=by
 have k : ∀ i,i≠a->tY d i=tY m i:=fun i c=>by unfold tY; rw[h1,l,t]; simp[aH,c]
 have n:tY d a=bO g (m.rn a+1) cap:=by unfold tY; rw[h1,l,t]; simp[aH]
 have y : ∀ i,i<6->i≠a -> ∀ q,(tY m i).ownBlock=some q->q≠g:=fun i c D q b e=>by
  subst e
  rcases C with f|f
  ·exact h.2 i a c _ha D q b f
  ·have:=((h.1 i c).ge b).2; omega
 refine⟨fun i c => ?_,fun i j c v p q b => ?_⟩
 ·by_cases e:i=a
  ·subst e; rw[n,l,u]; simp only[aH,if_true]; exact z
  rw[k i e,l,u];simp only[aH,b_ e];refine World.ownsRow.kept (h.1 i c) A ?_;by_cases x:(tY m i).ownBlock=none
  ·exact .inl x
  right;intro f
  cases b:(tY m i).ownBlock with
  | none=>exact x b
  | some q=>rw[b]at f; exact h.2 i a c _ha e q b f.symm
 by_cases e:i=a
 ·subst e;rw[n]at b;rw[k j (fun e=>p e.symm)];intro o;exact y j v (fun e=>p e.symm) q o (C_ b).symm
 rw[k i e]at b;by_cases s:j=a
 ·subst s; rw[n]; intro o; exact y i c e q b (C_ o).symm
 rw[k j s]; exact h.2 i j c v p q b
end Rt
end
def J9(a:World)(l:List (Nat × (Nat->Int)))(w':World):Prop:=(∀ p∈l,w'.heap[p.1]? = some (.cells (aS .i64 54 p.2) 59 (0,0)))/\Below a.heap.size a w'
theorem J9.up{b w w':World}{l:List (Nat × (Nat->Int))}(h:J9 b l w)(a:Below w.heap.size w w'):J9 b l w':=⟨fun p c=>SE (h.1 p c) a,J3 h.2 a⟩
instance {a w w':World} {l:List (Nat × (Nat->Int))}:Rt.Tr w w' (J9 a l w) (J9 a l w'):=⟨fun b h=>h.up b⟩
theorem J9.drew{a w:World}{l:List (Nat × (Nat->Int))}(h:J9 a l w):J9 a l w.drew:=⟨h.1,bN h.2 1⟩
theorem J9.drop{a w:World}{p:Nat × (Nat->Int)}{l:List (Nat × (Nat->Int))}(h:J9 a (p::l) w):J9 a l w:=⟨fun q b=>h.1 q (by simp[b]),h.2⟩
theorem J9.row{b w:World}{l:List (Nat × (Nat->Int))}(h:J9 b l w)(g:Nat)(x:Nat->Int)(a:(g,x)∈l):w.heap[g]? = some (.cells (aS .i64 54 x) 59 (0,0)):=h.1 (g,x) a
theorem J9.add{b w:World}{l:List (Nat × (Nat->Int))}(h:J9 b l w){g:Nat}{x:Nat->Int}(c:w.heap[g]? = some (.cells (aS .i64 54 x) 59 (0,0))):J9 b ((g,x)::l) w :=
 ⟨fun p a=>by
  rcases List.mem_cons.1 a with rfl|a
  ·exact c
  ·exact h.1 p a,h.2⟩
theorem J9.start(w:World)(x:Nat->Int):J9 w [(w.heap.size,x)] (w.alloc (.cells (aS .i64 54 x) 59)):=⟨fun p a=>by
 obtain rfl:p=(w.heap.size,x):=by simpa using a
 exact heap_alloc_new w _,(Below.refl _ _).alloc (A_ _) _⟩
namespace Rt
def vT(x:Nat->Int)(k:Nat):Nat->Int
 | 0=>G x k-C x k+F x k
 | j+1=>vT x k j+R x j k-R x k j
theorem adn(x:Nat->Int)(k:Nat):vT x k 6=L x k:=by simp only[vT,L]; omega
theorem Pk{x:Nat->Int}(h:QT x)(k:Nat)(d:k<6) : ∀ j:Nat,j<=6 -> -(1125899906842624*((j:Int)+1))<=vT x k j/\vT x k j<=1125899906842624*((j:Int)+2)
 | 0,_=>by
   have a:=h k (by omega); have b:=h (6+k) (by omega); have c:=h (12+k) (by omega);simp only[vT,G,C,F]; omega
 | j+1,hj=>by
   have:=Pk h k d j (by omega);have a:=h (18+j*6+k) (by omega); have b:=h (18+k*6+j) (by omega);simp only[vT,R]; omega
end Rt
theorem nL(n:Int)(w:World) :
 Calls Tryz.prog 113 #[au n] w fun e w'=>e = .returned (.bool (Az n))/\w'=w:=by
 refine Kent Tryz.func113 9 ?_;refine ay<|av aF<|aD<|ay<|av (au n) ?_;by_cases a:0<=n
 ·refine Lv aG (kM a)<|av aG<|av (au n) ?_;by_cases b:n<=1125899906842624
  ·refine Lv aG (nM b)<|av aG<|av aG<|aD<|Wr<|aJ aG ?_;exact⟨iB (by simp only[Az]; first|(symm; simp; omega)|(symm; simp; done)),rfl⟩
  refine Lv aF (nV b)<|av aF<|av aF<|aD<|Wr<|aJ aF ?_;exact⟨iB (by simp only[Az]; first|(symm; simp; omega)|(symm; simp; done)),rfl⟩
 refine Lv aF (kg a)<|av aF<|dw<|dw<|av aF<|av aF<|aD<|Wr<|aJ aF ?_;exact⟨iB (by simp only[Az]; first|(symm; simp; omega)|(symm; simp; done)),rfl⟩
theorem zK(n:Int)(w:World) :
 Calls Tryz.prog 83 #[au n] w fun e w'=>e = .returned (.bool (gG n))/\w'=w:=by
 refine Kent Tryz.func83 9 ?_;refine ay<|av aF<|aD<|ay<|av (au n) ?_;by_cases a:1<=n
 ·refine Lv aG (kM a)<|av aG<|av (au n) ?_;by_cases b:n<=6
  ·refine Lv aG (nM b)<|av aG<|av aG<|aD<|Wr<|aJ aG ?_;exact⟨iB (by simp only[gG]; first|(symm; simp; omega)|(symm; simp; done)),rfl⟩
  refine Lv aF (nV b)<|av aF<|av aF<|aD<|Wr<|aJ aF ?_;exact⟨iB (by simp only[gG]; first|(symm; simp; omega)|(symm; simp; done)),rfl⟩
 refine Lv aF (kg a)<|av aF<|dw<|dw<|av aF<|av aF<|aD<|Wr<|aJ aF ?_;exact⟨iB (by simp only[gG]; first|(symm; simp; omega)|(symm; simp; done)),rfl⟩
theorem Rt.Q5(x:Nat->Int)(k j:Nat):vT x k (j+1)=vT x k j+x (18+j*6+k)-x (18+k*6+j):=rfl
theorem Rt.Q6(x:Nat->Int)(k:Nat):vT x k 0=x k-x (6+k)+x (12+k):=rfl
theorem FN(x:Nat->Int)(k:Nat)(w:World)(E:k<6)(d:QT x) :
 Calls Tryz.prog 84 #[.agg (aA 54 (rv .i64 x)),au ((k:Int)+1)] w fun e w'=>e = .returned (au (L x k))/\Below w.heap.size w w':=by
 have B:=adn x k;have A:=fun j=>Pk d k E j;have S:vT x k 0=x k-x (k+6)+x (k+12):=by rw[Q6,Nat.add_comm 6 k,Nat.add_comm 12 k]
 have O:=d k (by omega);have P:=d (k+6) (by omega);have Q:=d (k+12) (by omega);refine Kent Tryz.func84 44 ?_;refine ay<|rE fun c l D h H X => ?_;have s:=bF H.old (Below.refl w.heap.size w);have U:=iy D;have W:=h.lt;refine av (au 0)<|aD<|ay<|av (au ((k:Int)+1))<|Lv (au k) fZ<|av (au k)<|aD<|Ws ?_;refine yN<|aX (au k)<|aX (pt c)<|Qv (pf c k) (fun b a=>iY 6 1)<|Qv (au (x k)) (fun b a=>aM (h.aI.dr a) k)<|aX (au k)<|aX (pf c 6)<|Qv (pf c (k+6)) (fun b a=>iY 6 1)<|Qv (au (x (k+6))) (fun b a=>aM (h.aI.dr a) (k+6))<|Qv (au ((x k)-(x (k+6)))) (fun b a=>fZ)<|aX (au k)<|aX (pf c 12)<|Qv (pf c (k+12)) (fun b a=>iY 6 1)<|Qv (au (x (k+12))) (fun b a=>aM (h.aI.dr a) (k+12))<|Qv (au (((x k)-(x (k+6)))+(x (k+12)))) (fun b a=>eU)<|aX (au (((x k)-(x (k+6)))+(x (k+12))))<|Qn ?_;rintro _ ⟨i,rfl⟩;obtain⟨K,n⟩ : ∃ b,b=World.drewN l i:=⟨_,rfl⟩;rw[<- n];have I:Stp l.heap.size l K:=by rw[n]; exact Sb (jS l i)
 have⟨F,t⟩:=fF I.old h s;clear n;refine sN<|Ws<|ay<|av (au 0)<|aD<|Wb<|Wo (fun f z => ∃ j:Nat,j<=6/\f 2=(pt c)/\f 5=au (k:Int)/\f 6=au (vT x k j)/\f 7=au (j:Int)/\aP z c 54 (rv .i64 x) 59/\Below w.heap.size w z) (fun f _=>(6-(intOf (f 7)).toNat)) ⟨0,by omega,(by rfl),Fx.ic,Fx.ic,Fx.ic,F,t⟩ ?_;rintro R m ⟨j,V,p,q,y,g,r,u⟩;have T:=A j (by omega);have N:vT x k (j+1)=vT x k j+x (6*j+k+18)-x (j+6*k+18):=by rw[Q5,show 18+j*6+k=6*j+k+18 by omega,show 18+k*6+j=j+6*k+18 by omega]
 have s:=d (6*j+k+18);have t:=d (j+6*k+18);refine Ws<|ay<|aT g ?_;by_cases v:(j:Int)<6
 ·refine Lv aG (gN v)<|aD<|aL<|Wk<|sN<|Ws<|Wb ?_;refine yN<|eB y<|eB g<|eB q<|Qv (pf c 18) (fun b a=>iZ p 18)<|Qv (pf c (6*j+18)) (fun b a=>iY 6 6)<|Qv (pf c (6*j+k+18)) (fun b a=>iY 6 1)<|Qv (au (x (6*j+k+18))) (fun b a=>aM (r.aI.dr a) (6*j+k+18))<|Qv (au ((vT x k j)+(x (6*j+k+18)))) (fun b a=>eU)<|eB q<|eB g<|Qv (pf c 18) (fun b a=>iZ p 18)<|Qv (pf c (6*k+18)) (fun b a=>iY 6 6)<|Qv (pf c (j+6*k+18)) (fun b a=>iY 6 1)<|Qv (au (x (j+6*k+18))) (fun b a=>aM (r.aI.dr a) (j+6*k+18))<|Qv (au (((vT x k j)+(x (6*j+k+18)))-(x (j+6*k+18)))) (fun b a=>fZ)<|aX (au (((vT x k j)+(x (6*j+k+18)))-(x (j+6*k+18))))<|Qn ?_;rintro _ ⟨i,rfl⟩;obtain⟨M,o⟩ : ∃ b,b=World.drewN m i:=⟨_,rfl⟩;rw[<- o];have J:Stp m.heap.size m M:=by rw[o]; exact Sb (jS m i)
  have⟨G,C⟩:=fF J.old r u;clear o;refine bR<|sN<|Wl<|aT g<|Lv (au ((j:Int)+1)) eU<|av (au ((j:Int)+1))<|Ln<|gL ⟨j+1,by omega,p,(q.trans Fx.ic),Fx.ic,Fx.ic,G,C⟩ ?_;show(6-(intOf (au ((j:Int)+1))).toNat)<_;simp only[g,intOf]; omega
 refine Lv aF (gP v)<|aD<|aK<|Wx<|bY<|gJ<|bZ<|sN<|ay<|aT y<|av (au (vT x k j))<|aD<|Wr<|aJ (au (vT x k j)) ?_;exact⟨pF (by rw[<- B]; exact L_ _ (by omega)),u⟩
namespace Rt
def U6(x:Nat->Int)(i:Nat):Prop:=Az (x i)=true/\Az (x (i+6))=true/\Az (x (i+12))=true/\x (i+12)<=x (i+6)/\x (7*i+18)=0
def FP(x:Nat->Int)(i j:Nat):Prop := ∀ q,q<j->Az (x (6*i+q+18))=true
def La(x:Nat->Int)(i:Nat):Prop := ∀ k,k<i->U6 x k/\FP x k 6
def Aa(x:Nat->Int):Nat->Int
 | 0=>0
 | i+1=>Aa x i+x i
theorem Q7(x:Nat->Int):La x 0:=fun _ h=>M_ h (by omega)
theorem Nw(x:Nat->Int)(i:Nat):FP x i 0:=fun _ h=>M_ h (by omega)
theorem Ny{x:Nat->Int}{i j:Nat}(h:FP x i j)(a:Az (x (6*i+j+18))=true):FP x i (j+1):=fun q b=>by
 by_cases e:q=j
 ·subst e; exact a
 ·exact h q (by omega)
theorem Q8{x:Nat->Int}{i:Nat}(h:La x i)(hr:U6 x i)(a:FP x i 6):La x (i+1):=fun k b=>by
 by_cases e:k=i
 ·subst e; exact⟨hr,a⟩
 ·exact h k (by omega)
theorem Lb{x:Nat->Int}(h:La x 6):QT x:=fun p d=>by
 by_cases a:p<6
 ·exact AJ (h p a).1.1
 ·by_cases b:p<12
  ·have:=AJ (h (p-6) (by omega)).1.2.1; rwa [show p-6+6=p by omega]at this
  ·by_cases c:p<18
   ·have:=AJ (h (p-12) (by omega)).1.2.2.1; rwa [show p-12+12=p by omega]at this
   ·have:=AJ ((h ((p-18) / 6) (by omega)).2 ((p-18) % 6) (by omega)); rwa [show 6*((p-18) / 6)+(p-18) % 6+18=p by omega]at this
theorem Pm{x:Nat->Int} : ∀ {i:Nat},La x i->0<=Aa x i/\Aa x i<=1125899906842624*(i:Int)
 | 0,_=>by simp[Aa]
 | i+1,h=>by
   have a:=Pm (i:=i) (fun k c=>h k (by omega));have b:=AJ (h i (by omega)).1.1;simp only[Aa]; omega
theorem Jy{x:Nat->Int}{p:Nat}(a:p<54)(h:Az (x p)=false):may x=false:=by
 cases hm:may x
 ·rfl
 have:=(jX x).1 hm |>.1 p a;unfold Az at h; simp at h; omega
theorem aho{x:Nat->Int}{i:Nat}(hi:i<6)(h:x (i+6)<x (i+12)):may x=false:=by
 cases hm:may x
 ·rfl
 have:=((jX x).1 hm |>.2.1 i hi).2.1;unfold F C at this; rw[Nat.add_comm 12 i,Nat.add_comm 6 i]at this; omega
theorem ahp{x:Nat->Int}{i:Nat}(hi:i<6)(h : ¬ x (7*i+18)=0):may x=false:=by
 cases hm:may x
 ·rfl
 have:=((jX x).1 hm |>.2.1 i hi).2.2;unfold R at this; rw[show 18+i*6+i=7*i+18 by omega]at this; exact M_ this h
theorem ado{x:Nat->Int}{i:Nat}(hi:i<6)(h:L x i<0):may x=false:=by
 cases hm:may x
 ·rfl
 have:=((jX x).1 hm |>.2.1 i hi).1;omega
theorem U7{x:Nat->Int}{m:Nat}(h : ∀ k,k<m->0<=L x k)(a:0<=L x m) : ∀ k,k<m+1->0<=L x k:=fun k b=>by
 by_cases e:k=m
 ·rw[e]; exact a
 ·exact h k (by omega)
theorem Pn{x:Nat->Int}(ha:La x 6)(b : ∀ k,k<6->0<=L x k):may x=decide (Aa x 6<=1125899906842624):=by
 have c:Aa x 6=nE x:=by simp only[Aa,nE,G]; omega
 rw[c,P_,jX,Q_];refine⟨fun h=>h.2.2,fun h=>⟨Lb ha,fun k a=>⟨b k a,?_,?_⟩,h⟩⟩
 ·have:=(ha k a).1.2.2.2.1; unfold F C; rwa [Nat.add_comm 12 k,Nat.add_comm 6 k]
 have:=(ha k a).1.2.2.2.2; unfold R; rwa [show 18+k*6+k=7*k+18 by omega]
end Rt
set_option maxRecDepth 10000 in
set_option maxHeartbeats 1000000 in
theorem U8(x:Nat->Int)(w:World) :
 Calls Tryz.prog 82 #[.agg (aA 54 (rv .i64 x))] w fun e w'=>e = .returned (.bool (may x))/\Below w.heap.size w w':=by
 refine Kent Tryz.func82 81 ?_;refine ay<|rE fun c w1 lN m1 s1 z1 => ?_;have b1:=bF s1.old (Below.refl w.heap.size w);refine av aF<|aD<|ay<|av (au 0)<|aD<|Ws<|ay<|av (au 0)<|aD<|Wb<|Wo (fun f q => ∃ i:Nat,i<=6/\La x i/\f 1=(pt c)/\f 3=au (Aa x i)/\f 4=au (i:Int)/\aP q c 54 (rv .i64 x) 59/\Below w.heap.size w q) (fun f _=>(6-(intOf (f 4)).toNat)) ⟨0,by omega,Q7 x,(by rfl),Fx.ic,Fx.ic,m1,b1⟩ ?_;rintro f1 d ⟨i,hi,B,n,h2,l,o,r⟩;have hG:=Pm B;have HG:Aa x (i+1)=Aa x i+x i:=rfl;refine Ws<|ay<|aT l ?_;by_cases Z:(i:Int)<6
 ·refine Lv aG (gN Z)<|aD<|aL<|Wk<|sN<|Ws<|Wb<|Ws<|Ws ?_;refine yN<|eB l<|Qv (pt c) (fun a b=>iZ n 0)<|Qv (pf c i) (fun a b=>iY 6 1)<|Qv (au (x i)) (fun a b=>aM (o.aI.dr b) i) ?_;by_cases s:(Az (x i))=true
  ·refine qA (fun _ _=>nL (x i) _) aG (by rw[s])<|aX aF<|aX aF<|eB l<|Qv (pf c 6) (fun a b=>iZ n 6)<|Qv (pf c (i+6)) (fun a b=>iY 6 1)<|Qv (au (x (i+6))) (fun a b=>aM (o.aI.dr b) (i+6)) ?_;by_cases v:(Az (x (i+6)))=true
   ·refine qA (fun _ _=>nL (x (i+6)) _) aG (by rw[v])<|aX aF<|aX aF<|aX aF<|eB l<|Qv (pf c 12) (fun a b=>iZ n 12)<|Qv (pf c (i+12)) (fun a b=>iY 6 1)<|Qv (au (x (i+12))) (fun a b=>aM (o.aI.dr b) (i+12)) ?_;by_cases y:(Az (x (i+12)))=true
    ·refine qA (fun _ _=>nL (x (i+12)) _) aG (by rw[y])<|aX aF<|aX aF<|aX aF<|eB l<|Qv (pf c 12) (fun a b=>iZ n 12)<|Qv (pf c (i+12)) (fun a b=>iY 6 1)<|Qv (au (x (i+12))) (fun a b=>aM (o.aI.dr b) (i+12))<|eB l<|Qv (pf c 6) (fun a b=>iZ n 6)<|Qv (pf c (i+6)) (fun a b=>iY 6 1)<|Qv (au (x (i+6))) (fun a b=>aM (o.aI.dr b) (i+6)) ?_;by_cases H:(x (i+6))<(x (i+12))
     ·refine Qv aG (fun a b=>mK H)<|aX aG<|aX aG<|aQ<|aQ<|aQ<|aQ<|aQ<|aQ<|aQ<|aX aG<|Qn ?_;rintro _ ⟨g,rfl⟩;obtain⟨Em,K⟩ : ∃ a,a=World.drewN d g:=⟨_,rfl⟩;rw[<- K];have s2:Stp d.heap.size d Em:=(by rw[K]; exact Sb (jS d g));have b3:=bF s2.old r;clear K;refine sN (aL (ay (av aF (aD (Wr (sR (bP (sR (pY (bP (sR (aJ aF (⟨iB (Eq.symm ?_),b3⟩)))))))))))));exact aho (i:=i) (by omega) H
     refine Qv aF (fun a b=>mM H)<|aX aF<|aX aF<|eB l<|eB l<|Qv (pf c 18) (fun a b=>iZ n 18)<|Qv (pf c (6*i+18)) (fun a b=>iY 6 6)<|Qv (pf c (7*i+18)) (fun a b=>iY 6 1)<|Qv (au (x (7*i+18))) (fun a b=>aM (o.aI.dr b) (7*i+18)) ?_;by_cases C:(x (7*i+18))=0
     ·refine Qv aF (fun a b=>ko C)<|aX aF<|Qn ?_;rintro _ ⟨g,rfl⟩;obtain⟨wq2,M⟩ : ∃ a,a=World.drewN d g:=⟨_,rfl⟩;rw[<- M];have s3:Stp d.heap.size d wq2:=(by rw[M]; exact Sb (jS d g));have⟨m4,b4⟩:=fF s3.old o r;clear M;refine sN<|aK<|Wk<|sN<|Ws ?_;have hR:U6 x i:=⟨s,v,y,by omega,C⟩;have b15:=AJ s;refine Wl<|aT h2<|aT l<|Lv (pt c) (iZ n 0)<|Lv (pf c i) (iY 6 1)<|Lv (au (x i)) (aM m4.aI i)<|Lv (au ((Aa x i)+(x i))) eU<|av (au ((Aa x i)+(x i)))<|aD<|ay<|av (au 0)<|aD<|Wb<|Wo (fun f q => ∃ j:Nat,j<=6/\FP x i j/\f 1=(pt c)/\f 3=au (Aa x (i+1))/\f 4=au (i:Int)/\f 5=au (j:Int)/\aP q c 54 (rv .i64 x) 59/\Below w.heap.size w q) (fun f _=>(6-(intOf (f 5)).toNat)) ⟨0,by omega,Nw x i,n,Fx.ic,(l.trans Fx.ic),Fx.ic,m4,b4⟩ ?_;rintro f2 w3 ⟨j,hj,T,R,h5,S,E,U,G⟩;refine Ws<|ay<|aT E ?_;by_cases X:(j:Int)<6
      ·refine Lv aG (gN X)<|aD<|aL<|Wk<|sN<|Ws<|Wb<|ay<|aT S<|aT E<|Lv (pf c 18) (iZ R 18)<|Lv (pf c (6*i+18)) (iY 6 6)<|Lv (pf c (6*i+j+18)) (iY 6 1)<|Lv (au (x (6*i+j+18))) (aM U.aI (6*i+j+18)) ?_;by_cases z:(Az (x (6*i+j+18)))=true
       ·refine mO (nL (x (6*i+j+18)) _) aG (by rw[z])<|av aF<|aD<|aK<|Wk<|bR<|sN<|Wl<|aT E<|Lv (au ((j:Int)+1)) eU<|av (au ((j:Int)+1))<|Ln<|gL ⟨j+1,by omega,Ny T z,R,(h5.trans Fx.ic),(S.trans Fx.ic),Fx.ic,U,G⟩ ?_;show(6-(intOf (au ((j:Int)+1))).toNat)<_;simp only[E,intOf]; omega
       rw[U_]at z;refine mO (nL (x (6*i+j+18)) _) aF (by rw[z]) (av aG (aD (aL (ay (av aF (aD (Wr (bP (sR (pY (bP (bP (sR (pY (bP (sR (aJ aF (⟨iB (Eq.symm ?_),G⟩))))))))))))))))));exact Jy (p:=6*i+j+18) (by omega) z
      refine Lv aF (gP X)<|aD<|aK<|Wx<|bY<|gJ<|bZ<|bR<|sN<|Wl<|aT S<|Lv (au ((i:Int)+1)) eU<|av (au ((i:Int)+1))<|Ln ?_;have A:j=6:=(by omega);have hT6:FP x i 6:=(by rw[A]at T; exact T);refine gL ⟨i+1,by omega,Q8 B hR hT6,R,(h5.trans Fx.ic),Fx.ic,U,G⟩ ?_;show(6-(intOf (au ((i:Int)+1))).toNat)<_;simp only[l,intOf]; omega
     refine Qv aG (fun a b=>nN C)<|aX aG<|Qn ?_;rintro _ ⟨g,rfl⟩;obtain⟨wq3,N⟩ : ∃ a,a=World.drewN d g:=⟨_,rfl⟩;rw[<- N];have s4:Stp d.heap.size d wq3:=(by rw[N]; exact Sb (jS d g));have b6:=bF s4.old r;clear N;refine sN (aL (ay (av aF (aD (Wr (sR (bP (sR (pY (bP (sR (aJ aF (⟨iB (Eq.symm ?_),b6⟩)))))))))))));exact ahp (i:=i) (by omega) C
    rw[U_]at y;refine qA (fun _ _=>nL (x (i+12)) _) aF (by rw[y])<|aX aG<|aX aG<|aX aG<|aQ<|aQ<|aQ<|aQ<|aQ<|aQ<|aQ<|aQ<|aQ<|aX aG<|aX aG<|aQ<|aQ<|aQ<|aQ<|aQ<|aQ<|aQ<|aX aG<|Qn ?_;rintro _ ⟨g,rfl⟩;obtain⟨wq4,O⟩ : ∃ a,a=World.drewN d g:=⟨_,rfl⟩;rw[<- O];have s5:Stp d.heap.size d wq4:=(by rw[O]; exact Sb (jS d g));have b7:=bF s5.old r;clear O;refine sN (aL (ay (av aF (aD (Wr (sR (bP (sR (pY (bP (sR (aJ aF (⟨iB (Eq.symm ?_),b7⟩)))))))))))));exact Jy (p:=i+12) (by omega) y
   rw[U_]at v;refine qA (fun _ _=>nL (x (i+6)) _) aF (by rw[v])<|aX aG<|aX aG<|aX aG<|aQ<|aQ<|aQ<|aQ<|aQ<|aQ<|aX aG<|aX aG<|aQ<|aQ<|aQ<|aQ<|aQ<|aQ<|aQ<|aQ<|aQ<|aX aG<|aX aG<|aQ<|aQ ?_;refine aQ<|aQ<|aQ<|aQ<|aQ<|aX aG<|Qn ?_;rintro _ ⟨g,rfl⟩;obtain⟨wq5,P⟩ : ∃ a,a=World.drewN d g:=⟨_,rfl⟩;rw[<- P];have s6:Stp d.heap.size d wq5:=(by rw[P]; exact Sb (jS d g));have b8:=bF s6.old r;clear P;refine sN (aL (ay (av aF (aD (Wr (sR (bP (sR (pY (bP (sR (aJ aF (⟨iB (Eq.symm ?_),b8⟩)))))))))))));exact Jy (p:=i+6) (by omega) v
  rw[U_]at s;refine qA (fun _ _=>nL (x i) _) aF (by rw[s])<|aX aG<|aX aG<|aQ<|aQ<|aQ<|aQ<|aQ<|aQ<|aX aG<|aX aG<|aQ<|aQ<|aQ<|aQ<|aQ<|aQ<|aX aG<|aX aG<|aQ<|aQ<|aQ<|aQ<|aQ<|aQ ?_;refine aQ<|aQ<|aQ<|aX aG<|aX aG<|aQ<|aQ<|aQ<|aQ<|aQ<|aQ<|aQ<|aX aG<|Qn ?_;rintro _ ⟨g,rfl⟩;obtain⟨wq6,Q⟩ : ∃ a,a=World.drewN d g:=⟨_,rfl⟩;rw[<- Q];have s7:Stp d.heap.size d wq6:=by rw[Q]; exact Sb (jS d g)
  have b9:=bF s7.old r;clear Q;refine sN (aL (ay (av aF (aD (Wr (sR (bP (sR (pY (bP (sR (aJ aF (⟨iB (Eq.symm ?_),b9⟩)))))))))))));exact Jy (p:=i) (by omega) s
 refine Lv aF (gP Z)<|aD<|aK<|Wx<|bY<|gJ<|bZ<|sN<|Ws<|ay<|av (au 1)<|aD<|Wb ?_;have A:i=6:=by omega
 rw[A]at B;have HE:=Lb B;have V:La x 6:=B;refine Wo (fun f q => ∃ m:Nat,m<=6/\(∀ k,k<m->0<=L x k)/\f 1=(pt c)/\f 3=au (Aa x i)/\f 6=au ((m:Int)+1)/\aP q c 54 (rv .i64 x) 59/\Below w.heap.size w q) (fun f _=>(7-(intOf (f 6)).toNat)) ⟨0,by omega,(fun _ h=>M_ h (by omega)),n,(h2.trans Fx.ic),Fx.ic,o,r⟩ ?_;rintro f3 w4 ⟨m,hm,u,h8,h9,D,m10,F⟩;refine Ws<|ay<|aT D ?_;by_cases Y:((m:Int)+1)<=6
 ·refine Lv aG (nM Y)<|aD<|aL<|Wk<|sN<|Ws<|Wb<|ay<|Lv (.agg (aA 54 (rv .i64 x))) (fJ m10.aI 0 (ha:=h8))<|aT D<|dQ (FN x m _ (by omega) HE) _ rfl ?_;intro w5 hb1;have⟨m11,W⟩:=fF hb1 m10 F;by_cases I:(L x m)<0
  ·refine Lv aG (gN I) (aD (aL (ay (av aF (aD (Wr (bP (sR (pY (bP (sR (aJ aF (⟨iB (Eq.symm ?_),W⟩)))))))))))));exact ado (i:=m) (by omega) I
  refine Lv aF (gP I)<|aD<|aK<|Wk<|bR<|sN<|Wl<|aT D<|Lv (au ((m:Int)+2)) eU<|av (au ((m:Int)+2))<|Ln<|gL ⟨m+1,by omega,U7 u (by omega),h8,(h9.trans Fx.ic),Fx.ic,m11,W⟩ ?_;show(7-(intOf (au ((m:Int)+2))).toNat)<_;simp only[D,intOf]; omega
 refine Lv aF (nV Y)<|aD<|aK<|Wx<|bY<|gJ<|bZ<|sN<|ay<|aT h9 ?_;by_cases t:(Aa x i)<=1125899906842624
 ·refine Lv aG (nM t) (av aG (aD (Wr (aJ aG (⟨iB (Eq.symm ?_),F⟩)))));have J:m=6:=by omega
  rw[J]at u;rw[A]at t;rw[Pn V u]; exact f_ t
 refine Lv aF (nV t) (av aF (aD (Wr (aJ aF (⟨iB (Eq.symm ?_),F⟩)))));have J:m=6:=by omega
 rw[J]at u;rw[A]at t;rw[Pn V u]; exact g_ t
namespace Rt
def eT(x:Nat->Int)(i n:Int):Int:=if may x&&decide (1<=n)&&decide (n<=1125899906842624)then(if gG i then 0 else 10)else 1
end Rt
theorem FQ(x:Nat->Int)(i n:Int)(w:World) :
 Calls Tryz.prog 112 #[.agg (aA 54 (rv .i64 x)),au i,au n] w fun e w'=>e = .returned (au (eT x i n))/\Below w.heap.size w w':=by
 refine Kent Tryz.func112 21 ?_;refine ay<|rE fun p s k h o v => ?_;have d:=bF o.old (Below.refl w.heap.size w);refine av (au 0)<|aD<|Ws<|ay<|Lv (.agg (aA 54 (rv .i64 x))) (fJ h.aI 0) ?_;by_cases a:(may x)=true
 ·refine dQ (U8 x _) aG (by rw[a]) ?_;intro t l;have c:=bF l d;refine av aF<|av aF<|av (au n) ?_;by_cases f:n<1
  ·refine Lv aG (gN f) (av aG (av aG (dw (dw (av aG (aD (aL (ay (av (au 1) (aD (Wr (sR (aJ (au 1) (⟨pF ?_,c⟩))))))))))))));unfold eT; rw[a,g_ (show ¬ 1<=n by omega)]; simp
  refine Lv aF (gP f)<|av aF<|av aF<|av (au n) ?_;by_cases g:1125899906842624<n
  ·refine Lv aG (mK g) (av aG (aD (aL (ay (av (au 1) (aD (Wr (sR (aJ (au 1) (⟨pF ?_,c⟩))))))))));unfold eT; rw[a,f_ (show 1<=n by omega),g_ (show ¬ n<=1125899906842624 by omega)]; simp
  refine Lv aF (mM g)<|av aF<|aD<|aK<|Wk<|sN<|Ws<|ay<|av (au i) ?_;by_cases b:(gG i)=true
  ·refine mO (zK i _) aG (by rw[b]) (av aF (aD (aK (Wk (sN (ay (av (au 0) (aD (Wr (aJ (au 0) (⟨pF ?_,c⟩)))))))))));unfold eT; rw[a,f_ (show 1<=n by omega),f_ (show n<=1125899906842624 by omega),b]; simp
  rw[U_]at b;refine mO (zK i _) aF (by rw[b]) (av aG (aD (aL (ay (av (au 10) (aD (Wr (sR (aJ (au 10) (⟨pF ?_,c⟩))))))))));unfold eT; rw[a,f_ (show 1<=n by omega),f_ (show n<=1125899906842624 by omega),b]; simp
 rw[U_]at a;refine dQ (U8 x _) aF (by rw[a]) ?_;intro u m;have j:=bF m d;refine av aG (av aG (dw (dw (av aG (av aG (dw (dw (av aG (aD (aL (ay (av (au 1) (aD (Wr (sR (aJ (au 1) (⟨pF ?_,j⟩)))))))))))))))));unfold eT; rw[a]; simp
namespace Rt
theorem FT{x:Nat->Int}{i n:Int}(h:eT x i n=0):may x=true/\1<=n/\n<=1125899906842624/\gG i=true:=by
 unfold eT at h;by_cases a:may x=true
 ·by_cases b:1<=n
  ·by_cases c:n<=1125899906842624
   ·rw[a,f_ b,f_ c]at h
    cases h4:gG i
    ·rw[h4]at h; simp at h
    exact⟨a,b,c,rfl⟩
   rw[g_ c]at h; simp at h
  rw[g_ b]at h; simp at h
 rw[show may x=false by simpa using a]at h; simp at h
theorem Lc{x:Nat->Int}{i n b:Int}{off:Nat}(h : ¬ eT x i n=0):bU x n (gG i) b off=(zero,eT x i n):=by
 unfold eT at *;unfold bU;by_cases a:(may x&&decide (1<=n)&&decide (n<=1125899906842624))=true
 ·simp only[d_ a]at *
  cases h4:gG i
  ·simp
  simp[h4]at h
 simp only[b_ a]at *
theorem CK{x:Nat->Int}{n a:Int}{is:Bool}{off:Nat}(h1:may x=true)(b:1<=n)(c:n<=1125899906842624)(d:is=true) :
 bU x n is a off=if a=0 then(if x off+n<=1125899906842624 then(upd x off (x off+n),0)else(zero,6))else(zero,a):=by
 unfold bU; rw[h1,f_ b,f_ c,d]; simp
theorem AX{x:Nat->Int}{n a:Int}{is:Bool}{off:Nat}(h1:may x=true)(b:1<=n)(c:n<=1125899906842624)(d:is=true)(e:a=0)(f:x off+n<=1125899906842624):bU x n is a off=(upd x off (x off+n),0):=by
 rw[CK h1 b c d,d_ e,d_ f]
theorem DN{x:Nat->Int}{n a:Int}{is:Bool}{off:Nat}(h1:may x=true)(b:1<=n)(c:n<=1125899906842624)(d:is=true)(e:a=0)(f : ¬ x off+n<=1125899906842624):bU x n is a off=(zero,6):=by
 rw[CK h1 b c d,d_ e,b_ f]
theorem xE{x:Nat->Int}{n a e:Int}{is:Bool}{off:Nat}(h1:may x=true)(b:1<=n)(c:n<=1125899906842624)(d:is=true)(f:a=e)(g:e≠0):bU x n is a off=(zero,e):=by
 rw[CK h1 b c d,f,b_ g]
theorem Ra{x:Nat->Int}{n a:Int}{off:Nat}(h1:may x=true)(b:1<=n)(c:n<=1125899906842624):bU x n false a off=(zero,10):=by
 unfold bU; rw[h1,f_ b,f_ c]; simp
theorem pl(k:Nat):((k:Int)+1).toNat-1=k:=by omega
theorem Rb{x:Nat->Int}{i j n:Int}(h : ¬ eT x i n=0):cK x i j n=(zero,eT x i n):=by
 unfold cK;unfold eT at *;unfold bU;by_cases a:(may x&&decide (1<=n)&&decide (n<=1125899906842624))=true
 ·simp only[d_ a]at *
  cases h4:gG i
  ·simp
  simp[h4]at h
 simp only[b_ a]at *
theorem Ld(k q:Nat):jU ((k:Int)+1) ((q:Int)+1)=6*k+q+18:=by unfold jU; omega
theorem U9{x:Nat->Int}{k:Nat}(a:may x=true)(b:k<6):x (k+6)<=1125899906842624:=(gH a (k+6) (by omega)).2
end Rt
set_option maxRecDepth 10000 in
theorem YK(x:Nat->Int)(i n:Int)(w:World) :
 Calls Tryz.prog 109 #[.agg (aA 54 (rv .i64 x)),au i,au n] w fun e w'=>e = .returned (.tuple #[.agg (aA 54 (rv .i64 (bJ x i n).1)),au (bJ x i n).2])/\Below w.heap.size w w':=by
 refine Kent Tryz.func109 42 ?_;refine ay<|rE fun b w1 Q p s1 z1 => ?_;have u:=bF s1.old (Below.refl w.heap.size w);refine uW 54 (rv .i64 (fun _=>0)) fun l w2 z B s2 z2 => ?_;have⟨C,K⟩:=fF s2.old p u;refine av (au 0)<|aD<|ay<|Lv (.agg (aA 54 (rv .i64 x))) (fJ C.aI 0)<|av (au i)<|av (au n)<|dQ (FQ x i n _) _ rfl ?_;intro w3 S;have⟨q,D,m⟩:=jr S C B K;refine av (au (eT x i n))<|aD<|Ws<|ay<|av (au (eT x i n)) ?_;by_cases j:(eT x i n)=0
 ·refine Lv aF (ko j)<|aD<|aK<|Wk<|sN<|Ws<|Ws ?_;obtain⟨a,s,t,h⟩:=FT j;have J:=gH a;obtain⟨k,o,R,_⟩:=rO h;subst R;refine Wl<|av (au n)<|Lv (.agg (aA 54 (rv .i64 x))) (fJ q.aI 0)<|av (au ((k:Int)+1))<|dQ (FN x k _ (by omega) (gH a)) _ rfl ?_;intro w4 T;have⟨g,r,d⟩:=jr T q D m;by_cases f:(L x k)<n
  ·refine Lv aG (mK f)<|aD<|aL<|ay<|av (.agg (aA 54 (rv .i64 (fun _=>0))))<|fq r 0 fun w5 m8 E z3 => ?_;have m9:=aW m8;have M:=E.below d d.size (by omega);refine av (au 11) (aD (Wr (sR (⟨.tuple #[.agg (aA 54 (rv .i64 (fun _=>0))),au 11],iw Tryz.results109 ⟨_,rfl,aY m9.aI (by kernel_rfl) (by kernel_rfl)⟩ (by exact rfl),?_⟩))));refine⟨?_,M⟩;have c:bJ x ((k:Int)+1) n=(zero,11):=by
    unfold bJ qX;rw[jP a k o,f_ f];exact xE a s t h rfl (by decide)
   rw[c]
   all_goals rfl
  refine Lv aF (mM f)<|aD<|aK<|Wk<|sN<|Ws<|Ws ?_;have q1:=J (k+6);refine Wl<|av (au ((k:Int)+1))<|Lv (au k) fZ<|av (pf b 6)<|Lv (pf b (k+6)) (iY 6 1)<|Lv (au (x (k+6))) (aM g.aI (k+6))<|av (au n)<|Lv (au ((x (k+6))+n)) eU ?_;by_cases y:1125899906842624<((x (k+6))+n)
  ·refine Lv aG (mK y)<|aD<|aL<|ay<|av (.agg (aA 54 (rv .i64 (fun _=>0))))<|fq r 0 fun w6 U F z4 => ?_;have V:aP w6 l 54 (rv .i64 (fun _=>0)) 59:=aW U;have m13:=g.cZ F (by omega);have N:=F.below d d.size (by omega);refine av (au 6) (aD (Wr (sR (⟨.tuple #[.agg (aA 54 (rv .i64 (fun _=>0))),au 6],iw Tryz.results109 ⟨_,rfl,aY V.aI (by kernel_rfl) (by kernel_rfl)⟩ (by exact rfl),?_⟩))));refine⟨?_,N⟩;have c:bJ x ((k:Int)+1) n=(zero,6):=by
    unfold bJ qX;rw[jP a k o,g_ f,pl,Nat.add_comm 6 k];exact DN a s t h rfl (by omega)
   rw[c]
   all_goals rfl
  refine Lv aF (mM y)<|aD<|aK<|Wk<|sN<|ay<|av (au ((k:Int)+1))<|Lv (au k) fZ<|av (pf b 6)<|Lv (pf b (k+6)) (iY 6 1)<|Lv (au (x (k+6))) (aM g.aI (k+6))<|av (au n)<|Lv (au ((x (k+6))+n)) eU<|av (pf b 6)<|Lv (pf b (k+6)) (iY 6 1)<|jh g (k+6) (au ((x (k+6))+n)) fun w7 W G z5 => ?_;have A:aP w7 b 54 (rv .i64 (upd x (k+6) ((x (k+6))+n))) 59:=W.to (Fx.zw _ _ _ _);have X:=r.cZ G (by omega);have v:=G.below d d.size (by omega);refine aD<|ay<|Lv (.agg (aA 54 (rv .i64 (upd x (k+6) ((x (k+6))+n))))) (fJ A.aI 0)<|fq X 0 fun w8 Y H z6 => ?_;have Z:aP w8 l 54 (rv .i64 (upd x (k+6) ((x (k+6))+n))) 59:=aW Y;have m19:=A.cZ H (by omega);have O:=H.below v v.size (by omega);refine av (au 0) (aD (Wr (⟨.tuple #[.agg (aA 54 (rv .i64 (upd x (k+6) ((x (k+6))+n)))),au 0],iw Tryz.results109 ⟨_,rfl,aY Z.aI (by kernel_rfl) (by kernel_rfl)⟩ (by exact rfl),?_⟩)));refine⟨?_,O⟩;have c:bJ x ((k:Int)+1) n=(upd x (k+6) (x (k+6)+n),0):=by
   unfold bJ qX;rw[jP a k o,g_ f,pl,Nat.add_comm 6 k];exact AX a s t h rfl (by omega)
  rw[c]
  all_goals rfl
 refine Lv aG (nN j)<|aD<|aL<|ay<|av (.agg (aA 54 (rv .i64 (fun _=>0))))<|av (au (eT x i n))<|fq D 0 fun w9 aa I z7 => ?_;have ab:aP w9 l 54 (rv .i64 (fun _=>0)) 59:=aW aa;have m22:=q.cZ I (by omega);have P:=I.below m m.size (by omega);refine av (au (eT x i n)) (aD (Wr (sR (⟨.tuple #[.agg (aA 54 (rv .i64 (fun _=>0))),au (eT x i n)],iw Tryz.results109 ⟨_,rfl,aY ab.aI (by kernel_rfl) (by kernel_rfl)⟩ (by exact rfl),?_⟩))));refine⟨?_,P⟩;have c:bJ x i n=(zero,eT x i n):=by
  exact Lc j
 rw[c]
 all_goals rfl
set_option maxRecDepth 10000 in
theorem YL(x:Nat->Int)(i n:Int)(w:World) :
 Calls Tryz.prog 111 #[.agg (aA 54 (rv .i64 x)),au i,au n] w fun e w'=>e = .returned (.tuple #[.agg (aA 54 (rv .i64 (bK x i n).1)),au (bK x i n).2])/\Below w.heap.size w w':=by
 refine Kent Tryz.func111 41 ?_;refine ay<|rE fun c w1 T t s1 z1 => ?_;have y:=bF s1.old (Below.refl w.heap.size w);refine uW 54 (rv .i64 (fun _=>0)) fun s w2 D H s2 z2 => ?_;have⟨I,P⟩:=fF s2.old t y;refine av (au 0)<|aD<|ay<|Lv (.agg (aA 54 (rv .i64 x))) (fJ I.aI 0)<|av (au i)<|av (au n)<|dQ (FQ x i n _) _ rfl ?_;intro d V;have⟨g,u,l⟩:=jr V I H P;refine av (au (eT x i n))<|aD<|Ws<|ay<|av (au (eT x i n)) ?_;by_cases m:(eT x i n)=0
 ·refine Lv aF (ko m)<|aD<|aK<|Wk<|sN<|Ws<|Ws ?_;obtain⟨j,J,K,p⟩:=FT m;have v:=gH j;obtain⟨k,W,U,_⟩:=rO p;subst U;have q1:=v (k+6);have q2:=v (k+12);refine yN<|aX (au n)<|aX (au ((k:Int)+1))<|Qv (au k) (fun a b=>fZ)<|aX (pf c 6)<|Qv (pf c (k+6)) (fun a b=>iY 6 1)<|Qv (au (x (k+6))) (fun a b=>aM (g.aI.dr b) (k+6))<|aX (au ((k:Int)+1))<|Qv (au k) (fun a b=>fZ)<|aX (pf c 12)<|Qv (pf c (k+12)) (fun a b=>iY 6 1)<|Qv (au (x (k+12))) (fun a b=>aM (g.aI.dr b) (k+12))<|Qv (au ((x (k+6))-(x (k+12)))) (fun a b=>fZ) ?_;by_cases o:((x (k+6))-(x (k+12)))<n
  ·refine Qv aG (fun a b=>mK o)<|Qn ?_;rintro _ ⟨h,rfl⟩;obtain⟨Em,q⟩ : ∃ a,a=World.drewN d h:=⟨_,rfl⟩;rw[<- q];have s4:Stp d.heap.size d Em:=(by rw[q]; exact Sb (jS d h));have⟨m6,m7,z⟩:=jr s4.old g u l;clear q;refine sN<|aL<|ay<|av (.agg (aA 54 (rv .i64 (fun _=>0))))<|fq m7 0 fun w4 m8 L z3 => ?_;have m9:aP w4 s 54 (rv .i64 (fun _=>0)) 59:=aW m8;have m10:=m6.cZ L (by omega);have Q:=L.below z z.size (by omega);refine av (au 12) (aD (Wr (sR (⟨.tuple #[.agg (aA 54 (rv .i64 (fun _=>0))),au 12],iw Tryz.results111 ⟨_,rfl,aY m9.aI (by kernel_rfl) (by kernel_rfl)⟩ (by exact rfl),?_⟩))));refine⟨?_,Q⟩;have f:bK x ((k:Int)+1) n=(zero,12):=by
    unfold bK qY C F;rw[pl,Nat.add_comm 6 k,Nat.add_comm 12 k,f_ o];exact xE j J K p rfl (by decide)
   rw[f]
   all_goals rfl
  refine Qv aF (fun a b=>mM o)<|Qn ?_;rintro _ ⟨h,rfl⟩;obtain⟨wq2,r⟩ : ∃ a,a=World.drewN d h:=⟨_,rfl⟩;rw[<- r];have s6:Stp d.heap.size d wq2:=by rw[r]; exact Sb (jS d h)
  have⟨E,X,A⟩:=jr s6.old g u l;clear r;refine sN<|aK<|Wk<|sN<|ay<|av (au ((k:Int)+1))<|Lv (au k) fZ<|av (pf c 12)<|Lv (pf c (k+12)) (iY 6 1)<|Lv (au (x (k+12))) (aM E.aI (k+12))<|av (au n)<|Lv (au ((x (k+12))+n)) eU<|av (pf c 12)<|Lv (pf c (k+12)) (iY 6 1)<|jh E (k+12) (au ((x (k+12))+n)) fun w5 Y M z4 => ?_;have G:aP w5 c 54 (rv .i64 (upd x (k+12) ((x (k+12))+n))) 59:=Y.to (Fx.zw _ _ _ _);have Z:=X.cZ M (by omega);have B:=M.below A A.size (by omega);refine aD<|ay<|Lv (.agg (aA 54 (rv .i64 (upd x (k+12) ((x (k+12))+n))))) (fJ G.aI 0)<|fq Z 0 fun w6 aa N z5 => ?_;have ab:aP w6 s 54 (rv .i64 (upd x (k+12) ((x (k+12))+n))) 59:=aW aa;have m18:=G.cZ N (by omega);have R:=N.below B B.size (by omega);refine av (au 0) (aD (Wr (⟨.tuple #[.agg (aA 54 (rv .i64 (upd x (k+12) ((x (k+12))+n)))),au 0],iw Tryz.results111 ⟨_,rfl,aY ab.aI (by kernel_rfl) (by kernel_rfl)⟩ (by exact rfl),?_⟩)));refine⟨?_,R⟩;have f:bK x ((k:Int)+1) n=(upd x (k+12) (x (k+12)+n),0):=by
   unfold bK qY C F;rw[pl,Nat.add_comm 6 k,Nat.add_comm 12 k,g_ o];exact AX j J K p rfl (by have:=U9 j W; omega)
  rw[f]
  all_goals rfl
 refine Lv aG (nN m)<|aD<|aL<|ay<|av (.agg (aA 54 (rv .i64 (fun _=>0))))<|av (au (eT x i n))<|fq u 0 fun w7 ac O z6 => ?_;have ad:aP w7 s 54 (rv .i64 (fun _=>0)) 59:=aW ac;have m21:=g.cZ O (by omega);have S:=O.below l l.size (by omega);refine av (au (eT x i n)) (aD (Wr (sR (⟨.tuple #[.agg (aA 54 (rv .i64 (fun _=>0))),au (eT x i n)],iw Tryz.results111 ⟨_,rfl,aY ad.aI (by kernel_rfl) (by kernel_rfl)⟩ (by exact rfl),?_⟩))));refine⟨?_,S⟩;have f:bK x i n=(zero,eT x i n):=by
  exact Lc m
 rw[f]
 all_goals rfl
set_option maxRecDepth 10000 in
theorem YM(x:Nat->Int)(i j n:Int)(w:World) :
 Calls Tryz.prog 81 #[.agg (aA 54 (rv .i64 x)),au i,au j,au n] w fun e w'=>e = .returned (.tuple #[.agg (aA 54 (rv .i64 (cK x i j n).1)),au (cK x i j n).2])/\Below w.heap.size w w':=by
 refine Kent Tryz.func81 59 ?_;refine ay<|rE fun c w1 aa z s1 z1 => ?_;have B:=bF s1.old (Below.refl w.heap.size w);refine uW 54 (rv .i64 (fun _=>0)) fun h w2 F H s2 z2 => ?_;have⟨J,W⟩:=fF s2.old z B;refine av (au 0)<|aD<|ay<|Lv (.agg (aA 54 (rv .i64 x))) (fJ J.aI 0)<|av (au i)<|av (au n)<|dQ (FQ x i n _) _ rfl ?_;intro w3 hb1;have⟨p,u,f⟩:=jr hb1 J H W;refine av (au (eT x i n))<|aD<|Ws<|ay<|av (au (eT x i n)) ?_;by_cases t:(eT x i n)=0
 ·refine Lv aF (ko t)<|aD<|aK<|Wk<|sN<|Ws<|Ws ?_;obtain⟨b,r,s,l⟩:=FT t;have S:=gH b;obtain⟨k,y,ei,_⟩:=rO l;subst ei;refine Wl<|av (au j) ?_;by_cases d:(gG j)=true
  ·refine mO (zK j _) aG (by rw[d])<|av aF<|aD<|aK<|Wk<|sN<|Ws<|Ws ?_;obtain⟨q,hq,ej,_⟩:=rO d;subst ej;refine Wl<|av (au ((k:Int)+1))<|av (au ((q:Int)+1)) ?_;by_cases g:((k:Int)+1)=((q:Int)+1)
   ·refine Lv aG (eX g)<|aD<|aL<|ay<|av (.agg (aA 54 (rv .i64 (fun _=>0))))<|fq u 0 fun w4 m6 O z3 => ?_;have m7:=aW m6;have X:=O.below f f.size (by omega);refine av (au 1) (aD (Wr (sR (⟨.tuple #[.agg (aA 54 (rv .i64 (fun _=>0))),au 1],iw Tryz.results81 ⟨_,rfl,aY m7.aI (by kernel_rfl) (by kernel_rfl)⟩ (by exact rfl),?_⟩))));refine⟨?_,X⟩;have a:cK x ((k:Int)+1) ((q:Int)+1) n=(zero,1):=by
     unfold cK mU;rw[d_ g];exact xE b r s (by rw[l,d]; rfl) rfl (by decide)
    rw[a]
    all_goals rfl
   refine Lv aF (fT g)<|aD<|aK<|Wk<|sN<|Ws<|ay<|av (au n)<|Lv (.agg (aA 54 (rv .i64 x))) (fJ p.aI 0)<|av (au ((k:Int)+1))<|dQ (FN x k _ (by omega) (gH b)) _ rfl ?_;intro w5 hb2;have⟨v,A,m⟩:=jr hb2 p u f;by_cases o:(L x k)<n
   ·refine Lv aG (mK o)<|aD<|aL<|ay<|av (.agg (aA 54 (rv .i64 (fun _=>0))))<|fq A 0 fun w6 m11 P z4 => ?_;have m12:=aW m11;have Y:=P.below m m.size (by omega);refine av (au 11) (aD (Wr (sR (⟨.tuple #[.agg (aA 54 (rv .i64 (fun _=>0))),au 11],iw Tryz.results81 ⟨_,rfl,aY m12.aI (by kernel_rfl) (by kernel_rfl)⟩ (by exact rfl),?_⟩))));refine⟨?_,Y⟩;have a:cK x ((k:Int)+1) ((q:Int)+1) n=(zero,11):=by
     unfold cK mU;rw[b_ g,jP b k y,f_ o];exact xE b r s (by rw[l,d]; rfl) rfl (by decide)
    rw[a]
    all_goals rfl
   refine Lv aF (mM o)<|aD<|aK<|Wk<|sN<|Ws<|Ws ?_;have q1:=S (6*k+q+18);refine Wl<|av (au ((k:Int)+1))<|Lv (au k) fZ<|av (au ((q:Int)+1))<|Lv (au q) fZ<|av (pf c 18)<|Lv (pf c (6*k+18)) (iY 6 6)<|Lv (pf c (6*k+q+18)) (iY 6 1)<|Lv (au (x (6*k+q+18))) (aM v.aI (6*k+q+18))<|av (au n)<|Lv (au ((x (6*k+q+18))+n)) eU ?_;by_cases E:1125899906842624<((x (6*k+q+18))+n)
   ·refine Lv aG (mK E)<|aD<|aL<|ay<|av (.agg (aA 54 (rv .i64 (fun _=>0))))<|fq A 0 fun w7 m14 Q z5 => ?_;have m15:aP w7 h 54 (rv .i64 (fun _=>0)) 59:=aW m14;have m16:=v.cZ Q (by omega);have Z:=Q.below m m.size (by omega);refine av (au 6) (aD (Wr (sR (⟨.tuple #[.agg (aA 54 (rv .i64 (fun _=>0))),au 6],iw Tryz.results81 ⟨_,rfl,aY m15.aI (by kernel_rfl) (by kernel_rfl)⟩ (by exact rfl),?_⟩))));refine⟨?_,Z⟩;have a:cK x ((k:Int)+1) ((q:Int)+1) n=(zero,6):=by
     unfold cK mU;rw[b_ g,jP b k y,g_ o,Ld];exact DN b r s (by rw[l,d]; rfl) rfl (by omega)
    rw[a]
    all_goals rfl
   refine Lv aF (mM E)<|aD<|aK<|Wk<|sN<|Ws ?_;refine Wt 13 (by kernel_rfl) (by kernel_rfl) fun rG dZ iJ => ?_;have⟨G,m18,C⟩:=jr dZ v A m;refine Fp (au ((k:Int)+1))<|qP (au k) fZ<|Fp (au ((q:Int)+1))<|qP (au q) fZ<|Fp (pf c 18)<|qP (pf c (6*k+18)) (iY 6 6)<|qP (pf c (6*k+q+18)) (iY 6 1)<|qP (au (x (6*k+q+18))) (aM G.aI (6*k+q+18))<|Fp (au n)<|qP (au ((x (6*k+q+18))+n)) eU<|Fp (pf c 18)<|qP (pf c (6*k+18)) (iY 6 6)<|qP (pf c (6*k+q+18)) (iY 6 1)<|Fx.St.nil ?_;refine jh G (6*k+q+18) (au ((x (6*k+q+18))+n)) fun w8 m19 R z6 => ?_;have I:aP w8 c 54 (rv .i64 (upd x (6*k+q+18) ((x (6*k+q+18))+n))) 59:=m19.to (Fx.zw _ _ _ _);have m21:=m18.cZ R (by omega);have D:=R.below C C.size (by omega);refine aD<|ay<|Lv (.agg (aA 54 (rv .i64 (upd x (6*k+q+18) ((x (6*k+q+18))+n))))) (fJ I.aI 0)<|fq m21 0 fun w9 m22 K z7 => ?_;have m23:aP w9 h 54 (rv .i64 (upd x (6*k+q+18) ((x (6*k+q+18))+n))) 59:=aW m22;have m24:=I.cZ K (by omega);have T:=K.below D D.size (by omega);refine av (au 0) (aD (Wr (⟨.tuple #[.agg (aA 54 (rv .i64 (upd x (6*k+q+18) ((x (6*k+q+18))+n)))),au 0],iw Tryz.results81 ⟨_,rfl,aY m23.aI (by kernel_rfl) (by kernel_rfl)⟩ (by exact rfl),?_⟩)));refine⟨?_,T⟩;have a:cK x ((k:Int)+1) ((q:Int)+1) n=(upd x (6*k+q+18) (x (6*k+q+18)+n),0):=by
    unfold cK mU;rw[b_ g,jP b k y,g_ o,Ld];exact AX b r s (by rw[l,d]; rfl) rfl (by omega)
   rw[a]
   all_goals rfl
  rw[U_]at d;refine mO (zK j _) aF (by rw[d])<|av aG<|aD<|aL<|ay<|av (.agg (aA 54 (rv .i64 (fun _=>0))))<|fq u 0 fun sI nP M z8 => ?_;have oG:aP sI h 54 (rv .i64 (fun _=>0)) 59:=aW nP;have nY:=p.cZ M (by omega);have U:=M.below f f.size (by omega);refine av (au 10) (aD (Wr (sR (⟨.tuple #[.agg (aA 54 (rv .i64 (fun _=>0))),au 10],iw Tryz.results81 ⟨_,rfl,aY oG.aI (by kernel_rfl) (by kernel_rfl)⟩ (by exact rfl),?_⟩))));refine⟨?_,U⟩;have a:cK x ((k:Int)+1) j n=(zero,10):=by
   unfold cK;rw[d,I_];exact Ra b r s
  rw[a]
  all_goals rfl
 refine Lv aG (nN t)<|aD<|aL<|ay<|av (.agg (aA 54 (rv .i64 (fun _=>0))))<|av (au (eT x i n))<|fq u 0 fun xU nZ N z9 => ?_;have oH:aP xU h 54 (rv .i64 (fun _=>0)) 59:=aW nZ;have pG:=p.cZ N (by omega);have V:=N.below f f.size (by omega);refine av (au (eT x i n)) (aD (Wr (sR (⟨.tuple #[.agg (aA 54 (rv .i64 (fun _=>0))),au (eT x i n)],iw Tryz.results81 ⟨_,rfl,aY oH.aI (by kernel_rfl) (by kernel_rfl)⟩ (by exact rfl),?_⟩))));refine⟨?_,V⟩;have a:cK x i j n=(zero,eT x i n):=by
  exact Rb t
 rw[a]
 all_goals rfl
namespace Rt
theorem EN{m:lV}{x:Int}(h:0<=m.node x) : ∃ q:Nat,q<m.s.nn/\fU (fun i=>decide (m.id i=x)) m.s.nn=(q:Int)/\m.id q=x:=by
 rcases je (fun i=>decide (m.id i=x)) m.s.nn with ⟨q,b,e,a⟩|⟨e,_⟩
 ·exact⟨q,b,e,h_ a⟩
 unfold lV.node at h; omega
theorem Po{n:Nat}{x:Nat->Int}{r:Int} : ∀ j,j<(n+1)*1->gY (rv .u64 x) (n*1) (aZ (fun j=>rv .u64 (fun _=>0) (j % 1)) (0*1) 1 (fun _=>aC r)) j=rv .u64 (aH x n r) j:=by
 intro j a;unfold gY rv aH;by_cases h:j<n*1
 ·rw[d_ h,b_ (by omega)]
 rw[b_ h,d_ (by omega)];unfold aZ;rw[d_ (by omega)]
theorem Lf{P:Nat->Bool}{n k j:Nat}(e:k=j+1)(h : ∀ i,k<=i->i<n->P i=true)(c:P j=true) : ∀ i,j<=i->i<n->P i=true:=fun i d b=>by
 by_cases a:i=j
 ·subst a; exact c
 ·exact h i (by omega) b
end Rt
theorem BJ(m:lV)(p a:Nat)(o r:Int)(w:World)(h:DF w p m)(ha:a<6)(b:o=(a:Int)+1) :
 Calls Tryz.prog 108 #[(pt p),au o,aC r] w fun e w'=>e = .returned (.bool (decide (0<=m.lH a r)))/\Below w.heap.size w w':=by
 subst b; exact Yy m p a r w h ha
set_option maxRecDepth 20000 in
set_option maxHeartbeats 2000000 in
theorem YN(m:lV)(B p a D:Nat)(v:EvM)(w:World)(M:wF w B p m)(E:B<=w.heap.size)(ha:a<6)(ho:v.o=(a:Int)+1)(bgg:m.s.gn<=900000)(brr : ∀ i,i<6->m.rn i<=900000)(hTN : ∀ x,m.node x=bG m.t m.tn x)(hD:bG m.t m.tn (bI m.t m.tn D v.node)<0)(hD2:D<=1000) :
 Calls Tryz.prog 79 #[(pt p),.agg (aA 14 (bV v))] w fun e w'=>e = .returned (au (iU m.core v))/\Below B w w'/\(iU m.core v=0 -> ∃ m',m'.core=mG m.core v/\wF w' B p m'):=by
 have UZ:=M.c;have hLn:=M.n;have hLg:=M.g;have Sc:=M.tc;have U0:=M.t;have hLr:=M.r;have U1:=M.pB;have Ep:=M.tB;have bn:=M.bn;have bg:=M.bg;have bt:=M.bt;refine Kent Tryz.func79 188 ?_;refine ay<|rE fun G w1 lN m1 s1 z1 => ?_;have⟨m2,m3,m4,m5,m6,m7⟩:=tT s1.old UZ hLn hLg Sc U0 hLr;have b1:=eP s1.old (Below.refl B w) E;have tN:=iT lN (Below.refl B w).size;have⟨nI,xX⟩:=vH lN UZ.lt Sc.lt;have uM:=m1.lt;refine av (au 0)<|aD<|Ws<|ay<|av (pt p)<|av (pt G)<|Lv (au v.o) (aM m1.aI 0)<|av (pf G 12)<|Lv (aC v.req) (aM m1.aI 12) ?_;have Nz:DF w1 p m := { c:=m2.aI,an:=m3.arr,ag:=m4.arr,tc:=m5.aI,at2:=m6.arr,ar:=fun i L=>(m7.1 i L).arr,bn:=(by show m.s.nn<=1000000; omega),bg:=bg,bt:=(by show m.tn<=1000000; omega),br:=M.br };by_cases c17:(decide (0<=m.lH a v.req))=true
 ·refine dQ (BJ m p a v.o v.req _ Nz ha ho) aG (by rw[c17]) ?_;intro w2 hb1;have b2:=eP hb1 b1 E;refine aD<|aL<|ay<|av (au 14)<|aD<|Wr<|sR<|aJ (au 14) ?_;have eN:aO v=a:=by unfold aO; omega
  have V:iU m.core v=14:=by unfold iU; rw[eN]; exact d_ (h_ c17)
  exact⟨pF V.symm,b2,fun h0=>by rw[V]at h0; cases h0⟩
 rw[U_]at c17;refine dQ (BJ m p a v.o v.req _ Nz ha ho) aF (by rw[c17]) ?_;intro w3 hb2;have⟨m15,m16,m17,m18,m19,m20,m21⟩:=jM hb2 m2 m3 m4 m5 m6 m7 m1;have b3:=eP hb2 b1 E;refine aD<|aK<|Wk<|sN<|Ws ?_;refine kJ [0,1,2,4,3,5,6,7] [0,0,0,4,0,4,3,0] [(6,3,[3]),(6,5,[5]),(7,6,[6])] fun rG dZ iJ => ?_;have⟨m22,m23,m24,nP,oG,nY,nZ⟩:=jM dZ m15 m16 m17 m18 m19 m20 m21;have b4:=eP dZ b3 E;refine bf (pt p)<|bf (pt p)<|bf (pf p 20)<|bf (pf G 9)<|Rs (pt m.tb) (aM m22.aI 20) ?_;refine Rs (aC v.node) (aM nZ.aI 9) ?_;refine gQ<|lU (Jp m.tb m.ta m.tn m.tc m.t v.node D _ (uG nP oG bt) hD hD2) ?_;rintro e w4 ⟨K,vv,he,hown,sO,hK1,hb3⟩;obtain⟨a1,A,rfl⟩:=hown.val;refine⟨.slice a1 K A,he,?_⟩;clear he;have XO:K=fG m.t m.tn v.node:=vS sO hK1 hD hD2;have hKD:K<=1000:=by rw[XO]; exact Jw _ _
 have⟨oH,pG,nA,m32,qg,oO,qh⟩:=jM hb3 m22 m23 m24 nP oG nY nZ;have b5:=eP hb3 b4 E;refine Ln<|bf (.slice a1 (K) (A))<|bT<|Ws<|ay<|av (.slice a1 (K) (A))<|av (au K) ?_;by_cases c27:(K:Int)=0
 ·refine Lv aG (eX c27)<|aD<|aL<|ay<|av (au 9)<|aD<|Wr<|sR<|aJ (au 9) ?_;have eN:aO v=a:=by unfold aO; omega
  have ne1 : ¬ 0<=m.core.lH (aO v) v.req:=by rw[eN]; exact j_ c17
  have V:iU m.core v=9:=by unfold iU; rw[b_ ne1]; exact d_ (XO.symm.trans (by omega))
  exact⟨pF V.symm,b5,fun h0=>by rw[V]at h0; cases h0⟩
 refine Lv aF (fT c27)<|aD<|aK<|Wk<|sN<|Ws<|ay<|av (au 0)<|aD<|Wb<|Wo (fun f F => ∃ k:Nat,∃ Rk:Nat->Nat->Int,k<=K/\dn (fun x=>bJ x v.o v.aU) (oK m.core v.node) m.R k=(Rk,0)/\f 0=(pt p)/\f 3=(pt G)/\f 5 = .slice a1 (K) (A)/\f 6=au (k:Int)/\aP F p 27 (mX m) 71/\Fx.Own F B 66 5 (.slice m.s.ga (m.s.gn) (m.s.gc)) m.s.gn (Jm m)/\aP F m.tb 1 (fun _ => .slice m.ta m.tn m.tc) 123/\Fx.Own F B 128 2 (.slice m.ta (m.tn) (m.tc)) m.tn (QU m.t)/\xw F B 6 m/\aP F G 14 (bV v) 32/\Fx.Own F rG.heap.size 28 1 (.slice a1 (K) (A)) K (rv .u64 (fun i=>bI m.t m.tn i v.node))/\Fx.Own F B 61 56 (.slice m.s.na (m.s.nn) (m.s.nc)) m.s.nn (flat 56 (fun l=>jQ (m.id l) (m.par l) (Rk l)))/\Below B w F) (fun f _=>(K-(intOf (f 6)).toNat)) ⟨0,m.R,by omega,rfl,(by rfl),(by rfl),(by rfl),Fx.ic,oH,nA,m32,qg,oO,qh,hown,pG,b5⟩ ?_;rintro f1 w5 ⟨k,Rk,hk,hRk,Z,O,h3,h4,qH,nS,rU,pV,sJ,nJ,mJ,nC,b6⟩;refine Ws<|ay<|aT h4<|aT h3<|av (au K) ?_;by_cases c31:(k:Int)<(K:Int)
 ·refine Lv aG (gN c31)<|aD<|aL<|Wk<|sN<|Ws<|Wb<|Ws ?_;obtain⟨q,hq,eq0,_⟩:=EN (m:=m) (x:=bI m.t m.tn k v.node) (by rw[hTN]; exact sO k (by omega));have ex1:oK m.core v.node k=q:=by show(fU (fun i=>decide (m.id i=bI m.t m.tn k v.node)) m.s.nn).toNat=q; rw[eq0]; rfl
  refine Wl<|aT Z<|aT h3<|aT h4 ?_;obtain⟨DL,eq1⟩:=mJ.addr (by omega);have sK:Fx.Own w5 rG.heap.size 28 1 (bO DL K A) K (rv .u64 (fun i=>bI m.t m.tn i v.node)):=mJ.eH (L_ (fun q=>Value.slice q K A) eq1);refine Lv (pf DL k) (dh 1 (hx:=(rfl.trans (L_ (fun q=>Value.slice q (K) (A)) eq1))))<|Lv (aC (bI m.t m.tn k v.node)) (aM sK.aI k) ?_;have rJ:Fx.Own w5 rG.heap.size 28 1 (.slice a1 (K) (A)) K (rv .u64 (fun i=>bI m.t m.tn i v.node)):=sK.eH (L_ (fun q=>Value.slice q K A) eq1.symm);have Va:DF w5 p { m with R:=Rk } := { c:=qH.aI,an:=nC.arr,ag:=nS.arr,tc:=rU.aI,at2:=pV.arr,ar:=fun i L=>(sJ.1 i L).arr,bn:=(by show m.s.nn<=1000000; omega),bg:=bg,bt:=(by show m.tn<=1000000; omega),br:=M.br };refine dQ ((Jo { m with R:=Rk } p (bI m.t m.tn k v.node) _ Va).mono (fun e w2 O=>(⟨O.1.trans (pF eq0),O.2⟩:e = .returned (au (q:Int))/\_))) _ rfl ?_;intro w6 hb4;have⟨og,qV,wT,tV,rW,wu,uX,uN⟩:=kW hb4 qH nS rU pV sJ nJ nC rJ;have b7:=eP hb4 b6 E;refine av (au q)<|aD<|Ws ?_;obtain⟨Y,Jz⟩:=uX.addr (by omega);have vL:Fx.Own w6 B 61 56 (bO Y m.s.nn m.s.nc) m.s.nn (flat 56 (fun l=>jQ (m.id l) (m.par l) (Rk l))):=uX.eH (L_ (fun q=>Value.slice q m.s.nn m.s.nc) Jz);refine qE (T:=59) (T':=59) (a := .tmp 8) (v := .tmp 55) (m:=54) (z:=rv .i64 (fun _=>0)) (y:=rv .i64 ((bJ (Rk q) v.o v.aU).1)) (u := .agg (aA 54 (rv .i64 ((bJ (Rk q) v.o v.aU).1)))) 17 18 (List.replicate 20 (0,2,[],[])) #[(pt p),(pt p),(pt p),(pf p 18),.slice m.s.na (m.s.nn) (m.s.nc),au (q:Int),(pf Y (56*q)),(pf Y (56*q+2)),.agg (aA 54 (rv .i64 (Rk q))),(pt G),au v.o,(pf G 11),au v.aU,.tuple #[.agg (aA 54 (rv .i64 ((bJ (Rk q) v.o v.aU).1))),au ((bJ (Rk q) v.o v.aU).2)],.tuple #[.agg (aA 54 (rv .i64 ((bJ (Rk q) v.o v.aU).1))),au ((bJ (Rk q) v.o v.aU).2)],.agg (aA 54 (rv .i64 ((bJ (Rk q) v.o v.aU).1))),au ((bJ (Rk q) v.o v.aU).2),undef,undef,au ((bJ (Rk q) v.o v.aU).2)] (by kernel_rfl) (by kernel_rfl) (by kernel_rfl) (by kernel_rfl) (by kernel_rfl) (by kernel_rfl) rfl (by kernel_rfl) rfl rfl (by kernel_rfl) (fun W=>(show ev _ (.tmp 8)=(pt W)from by kernel_rfl)) (fun W=>(show ev _ (.tmp 55) = .agg (aA 54 (rv .i64 ((bJ (Rk q) v.o v.aU).1)))from by kernel_rfl)) (bD _ _) (fun _ _=>rfl) (by kernel_rfl) (fun W => ?_) ?_
  ·refine⟨?_,?_,?_,?_,?_,?_,?_,?_,?_,?_,?_,?_,?_,?_,?_,?_,?_,?_,?_,?_,trivial⟩
   ·exact .inr (.inr (lY (pt p) fun d b=>dO rfl ((bH (by kernel_rfl)).trans Z)))
   ·exact .inr (.inr oF)
   ·exact .inr (.inr oF)
   ·exact .inr (.inr oF)
   ·exact .inr (.inr (lY (.slice m.s.na (m.s.nn) (m.s.nc)) fun d b=>bB (x:=mX m) rfl (show ev _ (.tmp 44)=(pf p 18)from by kernel_rfl) (by kernel_rfl) (og.aI.below b (by have:=og.lt; omega)) (i:=18) (by omega) (by omega) rfl))
   ·exact .inr (.inr oF)
   ·exact .inr (.inr (lY (pf Y (56*q)) fun d b=>dX rfl ((show ev _ (.tmp 45) = .slice m.s.na (m.s.nn) (m.s.nc)from by kernel_rfl).trans (L_ (fun q=>Value.slice q (m.s.nn) (m.s.nc)) Jz)) (show ev _ (.tmp 46)=au (q:Int)from by kernel_rfl) Tryz.underlying50 (s:=56) (by kernel_rfl) (by omega) (by omega) (by omega)))
   ·exact .inr (.inr oF)
   ·exact .inr (.inr (lY (.agg (aA 54 (rv .i64 (Rk q)))) fun d b=>fC (x:=flat 56 (fun l=>jQ (m.id l) (m.par l) (Rk l))) (y:=rv .i64 (Rk q)) rfl (show ev _ (.tmp 48)=(pf Y (56*q+2))from by kernel_rfl) (by kernel_rfl) (by kernel_rfl) (vL.aI.below b (by have:=vL.lt; omega)) (i:=56*q+2) (by omega) (by omega) (fun X hjq=>(Fx.jG (k:=q) (j:=2+X) (by omega) (by omega)).trans ((fun X _=>BG _ _ _ X) X hjq))))
   ·exact .inr (.inr (lY (pt G) fun d b=>fV rfl ((bH (by kernel_rfl)).trans O) Tryz.underlying32 rfl (s:=1) (by kernel_rfl) rfl rfl))
   ·exact .inr (.inr (lY (au v.o) fun d b=>bB (x:=bV v) rfl (show ev _ (.tmp 50)=(pt G)from by kernel_rfl) (by kernel_rfl) (wu.aI.below b (by have:=wu.lt; omega)) (i:=0) (by omega) (by omega) rfl))
   ·exact .inr (.inr (lY (pf G 11) fun d b=>fV rfl ((bH (by kernel_rfl)).trans O) Tryz.underlying32 rfl (s:=1) (by kernel_rfl) rfl (by show _+11=_; omega)))
   ·exact .inr (.inr (lY (au v.aU) fun d b=>bB (x:=bV v) rfl (show ev _ (.tmp 52)=(pf G 11)from by kernel_rfl) (by kernel_rfl) (wu.aI.below b (by have:=wu.lt; omega)) (i:=11) (by omega) (by omega) rfl))
   ·exact .inr (.inr (Fx.yI (v := .tuple #[.agg (aA 54 (rv .i64 ((bJ (Rk q) v.o v.aU).1))),au ((bJ (Rk q) v.o v.aU).2)]) (by kernel_rfl) (by kernel_rfl) (Fx.qbC (fun d b=>rC (args := [.agg (aA 54 (rv .i64 (Rk q))),au v.o,au v.aU]) rfl (Fx.OD (show ev _ (.tmp 49) = .agg (aA 54 (rv .i64 (Rk q)))from by kernel_rfl) (show ev _ (.tmp 51)=au v.o from by kernel_rfl) (show ev _ (.tmp 53)=au v.aU from by kernel_rfl)) Tryz.func109 rfl rfl) (fun d b=>(YK (Rk q) v.o v.aU _).mono fun e v2 h=>⟨h.1,h.2⟩))))
   ·exact .inr (.inr oF)
   ·exact .inr (.inr oF)
   ·exact .inr (.inr oF)
   ·exact .inl rfl
   ·exact .inr (.inl rfl)
   exact .inr (.inr oF)
  rintro W w7 f2 hf1 qW wz hb5;have FJ:p≠W:=u_ (n_ (og.lt) qW);have amA:m.tb≠W:=u_ (n_ (wT.lt) qW);have adi:G≠W:=u_ (n_ (wu.lt) qW);have amB:Y≠W:=u_ (n_ (vL.lt) qW);have⟨uw,uy,uz,wU,qI,vM,oh,tX⟩:=kW hb5 og qV wT tV rW wu uN vL;have b8:=eP hb5 b7 E;have qW:w.heap.size<=W:=m_ b7.size qW;have zY:=wz.lt;have q1:f2 0=(pt p):=by rw[hf1]; exact(bH (by kernel_rfl)).trans Z
  have q2:f2 3=(pt G):=by rw[hf1]; exact(bH (by kernel_rfl)).trans O
  have q3:f2 5 = .slice a1 (K) (A):=by rw[hf1]; exact(bH (by kernel_rfl)).trans h3
  have q4:f2 6=au (k:Int):=by rw[hf1]; exact(bH (by kernel_rfl)).trans h4
  have q15:f2 7=au (q:Int):=by rw[hf1]; kernel_rfl
  have q33:f2 8=(pt W):=by rw[hf1]; kernel_rfl
  have q34:f2 9=au ((bJ (Rk q) v.o v.aU).2):=by rw[hf1]; kernel_rfl
  clear hf1;refine sN<|Ws<|ay<|aT q34 ?_;by_cases c58:((bJ (Rk q) v.o v.aU).2)=0
  ·refine Lv aF (ko c58)<|aD<|aK<|Wk<|sN ?_;refine kJ [0,1,2,3,5,4,6,7,8,9] [0,0,0,0,4,0,4,0,0,3] [(9,4,[4]),(9,6,[6])] fun Dx gI nX => ?_;have⟨m64,wV,wB,wW,wX,sM,uY,uD,wC⟩:=Br gI uw uy uz wU qI vM oh tX wz;have b9:=eP gI b8 E;refine bW q1<|bf (pt p)<|bf (pt p)<|bf (pf p 18)<|bW q15<|Rs (.slice m.s.na (m.s.nn) (m.s.nc)) (aM m64.aI 18) ?_;refine Rs (.agg (aA 54 (rv .i64 ((bJ (Rk q) v.o v.aU).1)))) (fJ wC.aI 0 (ha:=q33)) ?_;refine Rp (pf Y (56*q)) (fun _=>dh 56 (hx:=(rfl.trans (L_ (fun q=>Value.slice q (m.s.nn) (m.s.nc)) Jz))))<|bf (pf Y (56*q+2))<|gQ<|Ay uD (56*q+2) fun w8 uZ s9 z2 => ?_;have gD:=gX s9 uD.Kk;have⟨yx,wD,yA,yB,yC,wY,wE⟩:=SV gD m64 wV wB wW wX sM uY;have b10:=s9.below b9 (m_ E b9.size) uD.blk.1;have vN:Fx.Own w8 B 61 56 (bO Y m.s.nn m.s.nc) m.s.nn (flat 56 (fun l=>jQ (m.id l) (m.par l) (aH Rk q ((bJ (Rk q) v.o v.aU).1) l))):=uZ.congr (fun U S=>(Fx.Ci (k:=q) (j:=2) (by omega) (by omega) U S).trans (bM (fun i L j hj=>CJ i L j hj) U S));refine Ln<|Rn<|bR<|sN<|Wl<|aT q4<|Lv (au ((k:Int)+1)) eU<|av (au ((k:Int)+1))<|Ln ?_;have yR:Fx.Own w8 B 61 56 (.slice m.s.na (m.s.nn) (m.s.nc)) m.s.nn (flat 56 (fun l=>jQ (m.id l) (m.par l) (aH Rk q ((bJ (Rk q) v.o v.aU).1) l))):=vN.eH (L_ (fun q=>Value.slice q m.s.nn m.s.nc) Jz.symm);refine gL ⟨k+1,(aH Rk q (bJ (Rk q) v.o v.aU).1),by omega,(FL hRk ex1 (by first|exact c58|exact Classical.not_not.1 c58)),q1,q2,q3,Fx.ic,yx,wD,yA,yB,yC,wY,wE,yR,b10⟩ ?_
   show(K-(intOf (au ((k:Int)+1))).toNat)<_;simp only[h4,intOf]; omega
  refine Lv aG (nN c58)<|aD<|aL<|ay<|aT q34<|av (au ((bJ (Rk q) v.o v.aU).2))<|aD<|Wr<|sR<|bP<|sR<|pY<|bP<|sR<|aJ (au ((bJ (Rk q) v.o v.aU).2)) ?_;have eN:aO v=a:=by unfold aO; omega
  have ne1 : ¬ 0<=m.core.lH (aO v) v.req:=by rw[eN]; exact j_ c17
  have ne2 : ¬ fG m.core.t m.core.tn v.node=0:=fun e=>c27 (by rw[show K=0 from XO.trans e]; rfl);have ew:nG m.core v=dn (fun x=>bJ x v.o v.aU) (oK m.core v.node) m.R K:=by unfold nG; rw[show fG m.core.t m.core.tn v.node=K from XO.symm]; rfl
  have V:iU m.core v=(bJ (Rk q) v.o v.aU).2:=by
   unfold iU; rw[b_ ne1,b_ ne2,ew];have e1:=Ia hRk ex1 c58;rw[AV (k:=k+1) (by rw[e1]; exact c58) K (by omega)]; exact e1
  exact⟨pF V.symm,b8,fun h0=>M_ (V.symm.trans h0) c58⟩
 refine Lv aF (gP c31)<|aD<|aK<|Wx<|bY<|gJ<|bZ<|sN<|Ws ?_;have hRK:dn (fun x=>bJ x v.o v.aU) (oK m.core v.node) m.R K=(Rk,0):=by rw[show K=k by omega]; exact hRk
 refine Wl<|Lv (pt G) (iZ O 0)<|Lv (au v.o) (aM nJ.aI 0)<|Lv (pf G 12) (iZ O 12)<|Lv (aC v.req) (aM nJ.aI 12)<|Lv (pf G 9) (iZ O 9)<|Lv (aC v.node) (aM nJ.aI 9)<|Lv (pf G 11) (iZ O 11)<|Lv (au v.aU) (aM nJ.aI 11)<|av (.agg (aA 5 (aZ (aZ (aZ (aZ (fun H=>if H<1 then au 0 else if H<3 then aC 0 else if H<4 then au 0 else aC 0) 0 1 (fun _=>au v.o)) 1 1 (fun _=>aC v.req)) 2 1 (fun _=>aC v.node)) 3 1 (fun _=>au v.aU))))<|uW 5 (fun H=>if H<1 then au 0 else if H<3 then aC 0 else if H<4 then au 0 else aC 0) fun Q w9 zF xV s10 z3 => ?_;have⟨AA,zW,zX,yS,zD,Al,Cc⟩:=jM s10.old qH nS rU pV sJ nJ nC;have b11:=eP s10.old b6 E;have Aj:=iT zF b6.size;have adj:=cu zF qH.lt;have Jr:(.slice m.s.ga (m.s.gn) (m.s.gc):Value).ownBlock≠some Q:=by rw[zF]; exact nS.jo (A_ _)
 have⟨adk,amC⟩:=vH zF rU.lt nJ.lt;have J6:=xV.lt;refine fq xV 0 (h1:=(bE (bE (bE (bE (fun X _=>by show((fun H=>if H<1 then au 0 else if H<3 then aC 0 else if H<4 then au 0 else aC 0:Nat->Value) X).oneCell'=true; simp only[]; repeat (first|rfl|split)) (fun _ _=>rfl)) (fun _ _=>rfl)) (fun _ _=>rfl)) (fun _ _=>rfl))) fun sI Ao s11 z4 => ?_
 have Bg:aP sI Q 5 (aZ (aZ (aZ (aZ (fun H=>if H<1 then au 0 else if H<3 then aC 0 else if H<4 then au 0 else aC 0) 0 1 (fun _=>au v.o)) 1 1 (fun _=>aC v.req)) 2 1 (fun _=>aC v.node)) 3 1 (fun _=>au v.aU)) 66:=aW Ao;have jv:=gX s11 xV.ty;have yE:=jT jv AA;have DJ:=zW.cZ s11 Jr;have⟨Ce,DK,Eo,uO,uP⟩:=rF jv zX yS zD Al Cc;have b12:=s11.below b11 (m_ E b11.size) (by omega);refine aD<|Ws ?_;have rM:aP sI Q 5 (jw (qC v)) 66:=Bg.congr (fun j hj=>by rcases j with _|_|_|_|_|j <;> first|rfl|omega)
 refine Wl<|aT Z<|av (pt p)<|av (pt p)<|av (pf p 19)<|Lv (.slice m.s.ga (m.s.gn) (m.s.gc)) (aM yE.aI 19)<|av (au m.s.gn)<|av (au m.s.gn)<|aD<|Ws ?_;refine Bp [0,1,2,3,4,5,6,7,8,9,10,11,12] [0,0,0,0,0,1,4,2,2,0,0,0,3] (iA [66]) wm Fx.iA.trans (fO := [(12,5,[5]),(7,6,[6]),(8,6,[7,6]),(12,6,[6]),(8,7,[7]),(9,7,[7]),(10,7,[7]),(11,7,[7]),(12,7,[7]),(9,8,[8]),(10,8,[8]),(11,8,[8]),(12,8,[8])]) (by kernel_rfl) (by kernel_rfl) (by kernel_rfl) (by kernel_rfl) (by kernel_rfl) fun R8 lZ BA => ?_;have⟨oI,ou,pK,oJ,ql,qM,tZ,qm⟩:=kW lZ yE DJ Ce DK Eo uO uP rM;have b13:=eP lZ b12 E;refine bW Z<|bW Z<|bf (pt p)<|bf (pt p)<|bf (pf p 19)<|Rd (v := .slice m.s.ga (m.s.gn) (m.s.gc)) (by rfl) (by rfl) (wm _) (fun d b=>bB (x:=mX m) rfl rfl (by kernel_rfl) (oI.kV b (by decide)).aI (i:=19) (by omega) (by omega) rfl) ?_;refine Rs (.agg (aA 5 (jw (qC v)))) (fJ qm.aI 0) ?_;refine Dw<|xY (vs := [(0,.agg (aA 5 (jw (qC v))))]) (s:=5) (zc:=fun H=>if H<1 then au 0 else if H<3 then aC 0 else if H<4 then au 0 else aC 0) (y:=aZ (fun j=>(fun H=>if H<1 then au 0 else if H<3 then aC 0 else if H<4 then au 0 else aC 0) (j % 5)) (0*5) 5 (jw (qC v))) (by rfl) rfl rfl Tryz.underlying51 (by kernel_rfl) (by rfl) (by rfl) (by kernel_rfl) (by rw[aR (off:=0*5) (s:=5) (y:=jw (qC v)) rfl (bD _ _) (by rfl)]; rfl) rfl fun g4 xU GQ sZ s13 z5 => ?_;have⟨xZ,uf,yc,AL,vR,tu,pO,xC⟩:=kW s13.old oI ou pK oJ ql qM tZ qm;have b14:=eP s13.old b13 E;have Rc:=iT GQ b13.size;have YO:=cu GQ oI.lt;have YP:(.slice m.s.ga (m.s.gn) (m.s.gc):Value).ownBlock≠some g4:=by rw[GQ]; exact ou.jo (A_ _)
 have⟨ajU,YQ,ajV⟩:=Ed GQ pK.lt qM.lt qm.lt;have Rf:=sZ.lt;refine Ln ⟨Fx.iA.of_below s13.old,?_⟩;refine Dw<|yu (B:=B) (s:=5) (bytes:=40) (k:=m.s.gn) (m:=1) (v := .slice m.s.ga (m.s.gn) (m.s.gc)) (x:=Jm m) (by rfl) rfl rfl rfl Tryz.underlying51 (by kernel_rfl) (by kernel_rfl) rfl rfl uf sZ.aI (uI (uH _)) (by omega) (by omega) (by omega) (m_ E b14.size) fun C A Dy ho1 hg1 sH hlt1 => ?_;have qc:=yJ hg1 uf;have⟨tC,AO,Er,Cw,zZ,Cx⟩:=SS qc xZ yc AL vR tu pO;have Es:=xC.grown hg1 Jr;have ajW:Q≠C:=fun e=>sH.elim (fun e2=>Jr (by rw[e]; exact e2)) (fun e2=>by have:=xC.lt; omega);have xD:Fx.Own Dy B 66 5 (bO C (m.s.gn+1) A) (m.s.gn+1) (flat 5 (Fx.Kl (fun l=>jw (m.g l)) (jw (qC v)) m.s.gn m.s.gn)):=(ho1.congr (fun j hj=>(Fx.vE j hj).trans (bM (fun i L q _=>Fx.yK i L q) j hj)));have b15:Below B w Dy:=yt b14 hg1 (m_ E b14.size) (fun q hq=>(uf.ge hq).1);refine Ln ⟨qc,?_⟩;refine bf (pt p)<|bf (pt p)<|bf (pf p 19)<|gQ<|jh tC 19 (bO C (m.s.gn+1) A) fun EI AP Ej z6 => ?_;have yQ:=gX Ej tC.ty;have⟨yV,FU,GR,Cy,CB,Et,Eu⟩:=SV yQ AO Er Cw zZ Cx Es xD;have b16:=Ej.below b15 (m_ E b15.size) (by omega);refine Ln<|bT<|Cm (fun f F => ∃ k:Nat,k<=m.s.gn/\k=down (fun i=>FM v (m.g i)) m.s.gn/\f 0=(pt p)/\f 3=(pt G)/\f 10=(pt Q)/\f 11=au (k:Int)/\aP F m.tb 1 (fun _ => .slice m.ta m.tn m.tc) 123/\Fx.Own F B 128 2 (.slice m.ta (m.tn) (m.tc)) m.tn (QU m.t)/\xw F B 6 m/\aP F G 14 (bV v) 32/\Fx.Own F B 61 56 (.slice m.s.na (m.s.nn) (m.s.nc)) m.s.nn (flat 56 (fun l=>jQ (m.id l) (m.par l) (Rk l)))/\aP F Q 5 (jw (qC v)) 66/\aP F p 27 (dD (mX m) 19 (bO C (m.s.gn+1) A)) 71/\Fx.Own F B 66 5 (bO C (m.s.gn+1) A) (m.s.gn+1) (flat 5 (Fx.Kl (fun l=>jw (m.g l)) (jw (qC v)) m.s.gn k))/\Below B w F) ?_ ?_
 ·refine Wb<|Wo (fun f F => ∃ k:Nat,k<=m.s.gn/\(∀ i,k<=i->i<m.s.gn->FM v (m.g i)=true)/\f 0=(pt p)/\f 3=(pt G)/\f 10=(pt Q)/\f 11=au (k:Int)/\aP F m.tb 1 (fun _ => .slice m.ta m.tn m.tc) 123/\Fx.Own F B 128 2 (.slice m.ta (m.tn) (m.tc)) m.tn (QU m.t)/\xw F B 6 m/\aP F G 14 (bV v) 32/\Fx.Own F B 61 56 (.slice m.s.na (m.s.nn) (m.s.nc)) m.s.nn (flat 56 (fun l=>jQ (m.id l) (m.par l) (Rk l)))/\aP F Q 5 (jw (qC v)) 66/\aP F p 27 (dD (mX m) 19 (bO C (m.s.gn+1) A)) 71/\Fx.Own F B 66 5 (bO C (m.s.gn+1) A) (m.s.gn+1) (flat 5 (Fx.Kl (fun l=>jw (m.g l)) (jw (qC v)) m.s.gn k))/\Below B w F) (fun f _=>(intOf (f 11)).toNat) ⟨m.s.gn,by omega,(fun i Z O=>M_ Z (by omega)),Z,O,(by rfl),Fx.ic,yV,FU,GR,Cy,CB,Et,AP,Eu,b16⟩ ?_;rintro f3 I ⟨k,hk,hgt,P,h6,h7,J,AQ,CF,AU,CO,CG,yg,yX,yh,b17⟩;refine Ws<|Ws ?_;refine yN<|eB J ?_;by_cases c97:0<(k:Int)
  ·obtain⟨j,ej⟩ : ∃ j,k=j+1:=⟨k-1,by omega⟩;refine Qv aG (fun d b=>mK c97)<|aX aG<|eB P<|aX (pt p)<|aX (pt p)<|aX (pf p 19)<|Qv (bO C (m.s.gn+1) A) (fun d b=>aM (yX.aI.dr b) 19 (Fx.lQ (by omega)))<|eB J<|Qv (au j) (fun d b=>fZ)<|Qv (pf C (5*j)) (fun d b=>dh 5)<|aX (pf C (5*j))<|Qv (au ((m.g j) 0)) (fun d b=>aM (yh.aI.dr b) (5*j) (Fx.gy (k:=j) (j:=0) (by omega) (by omega) ((congrFun (Fx.Af (by omega) (by omega)) 0).trans rfl)))<|Qv (pt Q) (fun d b=>iZ h7 0)<|Qv (au v.o) (fun d b=>aM (yg.aI.dr b) 0) ?_;by_cases Vb:v.o<((m.g j) 0)
   ·refine Qv aG (fun d b=>mK Vb)<|aX aG<|aQ<|aQ<|aQ<|aQ<|aQ<|aQ<|aQ<|aQ<|aQ<|aQ<|aQ<|aQ<|aQ<|aQ<|aQ<|aQ<|aQ<|aQ<|aQ<|aQ<|aQ<|aQ<|aQ ?_;refine aQ<|aQ<|aQ<|aQ<|aQ<|aX aG<|aX aG<|Qn ?_;rintro _ ⟨N,rfl⟩;obtain⟨Em,sV⟩ : ∃ d,d=World.drewN I N:=⟨_,rfl⟩;rw[<- sV];have s15:Stp I.heap.size I Em:=(by rw[sV]; exact Sb (jS I N));have⟨BI,K4,JA,K5,Js,Rh,Nr,QY⟩:=kW s15.old AQ CF AU CO CG yg yX yh;have b18:=eP s15.old b17 E;clear sV;refine sN<|aL<|Wk<|sN<|Wb<|Ws ?_;refine kJ [0,1,2,3,5,6,7,8,9,11,12,4,10,13,14,15,16] [0,0,0,0,4,0,0,0,0,0,4,0,0,0,4,0,3] [(16,4,[4]),(16,10,[10]),(16,14,[14])] fun wt4 qU Hw => ?_;have⟨Ns,K6,Nt,Jt,U2,U3,Vd,K7⟩:=kW qU BI K4 JA K5 Js Rh Nr QY;have b19:=eP qU b18 E;refine bW P<|bf (pt p)<|bf (pt p)<|bf (pf p 19)<|bW J<|bW P<|bf (pt p)<|bf (pt p)<|bf (pf p 19)<|bW J<|Rp (au j) (fun _=>fZ)<|Rs (bO C (m.s.gn+1) A) (aM Vd.aI 19 (Fx.lQ (by omega))) ?_;refine Rs (bO C (m.s.gn+1) A) (aM Vd.aI 19 (Fx.lQ (by omega))) ?_;refine Rp (pf C (5*j)) (fun _=>dh 5)<|Rs (.agg (aA 5 (jw (m.g j)))) (fJ K7.aI (5*j) (fun X hjq=>(Fx.jG (k:=j) (by omega) hjq).trans (congrFun (Fx.Af (by omega) (by omega)) X))) ?_;refine Rp (pf C (5*k)) (fun _=>dh 5)<|gQ<|Ay K7 (5*k) (h1:=(fun j _=>uH _ j)) fun KJ QZ J5 z7 => ?_;have zU:=gX J5 K7.Kk;have⟨adl,U4,Q0,YI,ads⟩:=rF zU Ns K6 Nt Jt U2;have aht:=U3.cZ J5 (by omega);have ahu:=jT zU Vd;have b20:=J5.below b19 (m_ E b19.size) K7.blk.1;have adt:Fx.Own KJ B 66 5 (bO C (m.s.gn+1) A) (m.s.gn+1) (flat 5 (Fx.Kl (fun l=>jw (m.g l)) (jw (qC v)) m.s.gn j)):=QZ.congr (fun U S=>(Fx.vF (k:=k) (by omega) U S).trans (bM (fun i L q _=>Fx.zx ej (by omega) i L q) U S));refine Ln<|bT<|Wl<|aT J<|Lv (au j) fZ<|av (au j)<|Ln<|bR<|gL ⟨j,by omega,(Lf ej hgt (by unfold FM; rw[f_ Vb]; rfl)),P,h6,h7,Fx.ic,adl,U4,Q0,YI,ads,aht,ahu,adt,b20⟩ ?_;show(intOf (au j)).toNat<_;simp only[J,intOf]; omega
   refine Qv aF (fun d b=>mM Vb)<|aX aF<|eB P<|aX (pt p)<|aX (pt p)<|aX (pf p 19)<|Qv (bO C (m.s.gn+1) A) (fun d b=>aM (yX.aI.dr b) 19 (Fx.lQ (by omega)))<|eB J<|Qv (au j) (fun d b=>fZ)<|Qv (pf C (5*j)) (fun d b=>dh 5)<|aX (pf C (5*j))<|Qv (au ((m.g j) 0)) (fun d b=>aM (yh.aI.dr b) (5*j) (Fx.gy (k:=j) (j:=0) (by omega) (by omega) ((congrFun (Fx.Af (by omega) (by omega)) 0).trans rfl)))<|Qv (pt Q) (fun d b=>iZ h7 0)<|Qv (au v.o) (fun d b=>aM (yg.aI.dr b) 0) ?_;by_cases YR:((m.g j) 0)=v.o
   ·refine Qv aG (fun d b=>eX YR)<|aX aG<|eB P<|aX (pt p)<|aX (pt p)<|aX (pf p 19)<|Qv (bO C (m.s.gn+1) A) (fun d b=>aM (yX.aI.dr b) 19 (Fx.lQ (by omega)))<|eB J<|Qv (au j) (fun d b=>fZ)<|Qv (pf C (5*j)) (fun d b=>dh 5)<|aX (pf C (5*j+1))<|Qv (aC ((m.g j) 1)) (fun d b=>aM (yh.aI.dr b) (5*j+1) (Fx.gy (k:=j) (j:=1) (by omega) (by omega) ((congrFun (Fx.Af (by omega) (by omega)) 1).trans rfl)))<|Qv (pf Q 1) (fun d b=>iZ h7 1)<|Qv (aC v.req) (fun d b=>aM (yg.aI.dr b) 1) ?_;by_cases c139:v.req<((m.g j) 1)
    ·refine Qv aG (fun d b=>mK c139)<|aX aG<|aX aG<|aX aG<|Qn ?_;rintro _ ⟨N,rfl⟩;obtain⟨wq2,xA⟩ : ∃ d,d=World.drewN I N:=⟨_,rfl⟩;rw[<- xA];have MI:Stp I.heap.size I wq2:=(by rw[xA]; exact Sb (jS I N));have⟨amD,amE,amF,amG,amH,amI,amJ,amK⟩:=kW MI.old AQ CF AU CO CG yg yX yh;have KH:=eP MI.old b17 E;clear xA;refine sN<|aL<|Wk<|sN<|Wb<|Ws ?_;refine kJ [0,1,2,3,5,6,7,8,9,11,12,4,10,13,14,15,16] [0,0,0,0,4,0,0,0,0,0,4,0,0,0,4,0,3] [(16,4,[4]),(16,10,[10]),(16,14,[14])] fun wt5 Ak TN => ?_;have⟨amL,amM,amN,amO,amP,amQ,adu,YS⟩:=kW Ak amD amE amF amG amH amI amJ amK;have MF:=eP Ak KH E;refine bW P<|bf (pt p)<|bf (pt p)<|bf (pf p 19)<|bW J<|bW P<|bf (pt p)<|bf (pt p)<|bf (pf p 19)<|bW J<|Rp (au j) (fun _=>fZ)<|Rs (bO C (m.s.gn+1) A) (aM adu.aI 19 (Fx.lQ (by omega))) ?_;refine Rs (bO C (m.s.gn+1) A) (aM adu.aI 19 (Fx.lQ (by omega))) ?_;refine Rp (pf C (5*j)) (fun _=>dh 5)<|Rs (.agg (aA 5 (jw (m.g j)))) (fJ YS.aI (5*j) (fun X hjq=>(Fx.jG (k:=j) (by omega) hjq).trans (congrFun (Fx.Af (by omega) (by omega)) X))) ?_;refine Rp (pf C (5*k)) (fun _=>dh 5)<|gQ<|Ay YS (5*k) (h1:=(fun j _=>uH _ j)) fun w16 amR s20 z8 => ?_;have zV:=gX s20 YS.Kk;have⟨amS,amT,amU,amV,amW⟩:=rF zV amL amM amN amO amP;have amX:=amQ.cZ s20 (by omega);have amY:=jT zV adu;have TJ:=s20.below MF (m_ E MF.size) YS.blk.1;have amZ:Fx.Own w16 B 66 5 (bO C (m.s.gn+1) A) (m.s.gn+1) (flat 5 (Fx.Kl (fun l=>jw (m.g l)) (jw (qC v)) m.s.gn j)):=amR.congr (fun U S=>(Fx.vF (k:=k) (by omega) U S).trans (bM (fun i L q _=>Fx.zx ej (by omega) i L q) U S));refine Ln<|bT<|Wl<|aT J<|Lv (au j) fZ<|av (au j)<|Ln<|bR<|gL ⟨j,by omega,(Lf ej hgt (by unfold FM; rw[f_ YR,f_ c139]; cases decide (v.o<m.g j 0) <;> rfl)),P,h6,h7,Fx.ic,amS,amT,amU,amV,amW,amX,amY,amZ,TJ⟩ ?_
     show(intOf (au j)).toNat<_;simp only[J,intOf]; omega
    refine Qv aF (fun d b=>mM c139)<|aX aF<|aX aF<|aX aF<|Qn ?_;rintro _ ⟨N,rfl⟩;obtain⟨wq3,FV⟩ : ∃ d,d=World.drewN I N:=⟨_,rfl⟩;rw[<- FV];have s21:Stp I.heap.size I wq3:=(by rw[FV]; exact Sb (jS I N));have⟨ana,anb,anc,ane,anf,ang,anh,ani⟩:=kW s21.old AQ CF AU CO CG yg yX yh;have TK:=eP s21.old b17 E;clear FV;refine sN<|aK<|Wx<|bY<|gJ<|bZ ?_;exact wo ⟨k,hk,(Fx.pR hk hgt (.inr (fun j2 e=>by rw[show j2=j by omega]; unfold FM; rw[g_ Vb,g_ c139,I_]; rfl))),P,h6,h7,(J.trans Fx.ic),ana,anb,anc,ane,anf,ang,anh,ani,TK⟩
   refine Qv aF (fun d b=>fT YR)<|aX aF<|aQ<|aQ<|aQ<|aQ<|aQ<|aQ<|aQ<|aQ<|aQ<|aQ<|aQ<|aQ<|aQ<|aX aF<|aX aF<|aX aF<|Qn ?_;rintro _ ⟨N,rfl⟩;obtain⟨wq4,FW⟩ : ∃ d,d=World.drewN I N:=⟨_,rfl⟩;rw[<- FW];have s22:Stp I.heap.size I wq4:=(by rw[FW]; exact Sb (jS I N));have⟨anj,ank,anl,anm,ano,anp,anq,anr⟩:=kW s22.old AQ CF AU CO CG yg yX yh;have b25:=eP s22.old b17 E;clear FW;refine sN<|aK<|Wx<|bY<|gJ<|bZ ?_;exact wo ⟨k,hk,(Fx.pR hk hgt (.inr (fun j2 e=>by rw[show j2=j by omega]; unfold FM; rw[g_ Vb,g_ YR]; rfl))),P,h6,h7,(J.trans Fx.ic),anj,ank,anl,anm,ano,anp,anq,anr,b25⟩
  refine Qv aF (fun d b=>mM c97)<|aX aF<|aQ<|aQ<|aQ<|aQ<|aQ<|aQ<|aQ<|aQ<|aQ<|aQ<|aQ<|aQ<|aQ<|aQ<|aQ<|aQ<|aQ<|aQ<|aQ<|aQ<|aQ<|aQ<|aQ ?_;refine aQ<|aQ<|aQ<|aQ<|aQ<|aQ<|aQ<|aQ<|aQ<|aQ<|aQ<|aQ<|aQ<|aQ<|aQ<|aQ<|aQ<|aQ<|aQ<|aQ<|aX aF<|Qn ?_;rintro _ ⟨N,rfl⟩;obtain⟨wq5,NA⟩ : ∃ d,d=World.drewN I N:=⟨_,rfl⟩;rw[<- NA];have s23:Stp I.heap.size I wq5:=by rw[NA]; exact Sb (jS I N)
  have⟨ant,anu,anv,anw,anx,anz,anA,anB⟩:=kW s23.old AQ CF AU CO CG yg yX yh;have b26:=eP s23.old b17 E;clear NA;refine sN<|aK<|Wx<|bY<|gJ<|bZ ?_;exact wo ⟨k,hk,(Fx.pR hk hgt (.inl (by omega))),P,h6,h7,(J.trans Fx.ic),ant,anu,anv,anw,anx,anz,anA,anB,b26⟩
 rintro f4 TR ⟨k,hk,ek,h9,h10,h11,h12,anC,anD,anE,anF,anG,anH,anI,anJ,Yj⟩;refine Ws ?_;refine kJ [0,1,2,3,5,4,6,7,8] [0,0,0,0,4,0,4,0,3] [(8,4,[4]),(8,6,[6])] fun wt6 KL agI => ?_;have⟨anK,anL,anM,anN,anO,ahw,ahx,adv⟩:=kW KL anC anD anE anF anG anH anI anJ;have XJ:=eP KL Yj E;refine bW h9<|bf (pt p)<|bf (pt p)<|bf (pf p 19)<|bW h12<|Rs (bO C (m.s.gn+1) A) (aM ahx.aI 19 (Fx.lQ (by omega))) ?_;refine Rs (.agg (aA 5 (jw (qC v)))) (fJ ahw.aI 0 (ha:=h11)) ?_;refine Rp (pf C (5*k)) (fun _=>dh 5)<|gQ<|Ay adv (5*k) (h1:=(fun j _=>uH _ j)) fun R9 anP s25 z9 => ?_;have BH:=gX s25 adv.Kk;have⟨anQ,anR,ahy,anS,anT⟩:=rF BH anK anL anM anN anO;have anU:=ahw.cZ s25 (by omega);have anV:=jT BH ahx;have b29:=s25.below XJ (m_ E XJ.size) adv.blk.1;have anW:Fx.Own R9 B 66 5 (bO C (m.s.gn+1) A) (m.s.gn+1) (flat 5 (Fx.Jb (fun l=>jw (m.g l)) k (jw (qC v)))):=anP.congr (fun U S=>(Fx.vF (k:=k) (by omega) U S).trans (bM (fun i L q _=>Fx.uj (by omega) i L q) U S));refine Ln<|bT<|Ws ?_;have anX:Fx.Own R9 B 28 1 (.slice (m.ra a) (m.rn a) (m.rc a)) (m.rn a) (rv .u64 (m.rq a)):=ahy.1 a ha;have bra:=M.br a ha;refine Bp [0,1,4,5,8,9,12,16,17,2,3,6,7,10,11,13,14,15,18,19] [0,0,1,0,0,0,1,0,0,0,0,1,0,4,2,2,0,0,0,3] (iA [28]) wm Fx.iA.trans (fO := [(19,2,[2]),(19,6,[6]),(19,11,[11]),(14,13,[13]),(15,13,[14,13]),(19,13,[13]),(15,14,[14]),(18,14,[14]),(19,14,[14]),(18,15,[15]),(19,15,[15])]) (by kernel_rfl) (by kernel_rfl) (by kernel_rfl) (by kernel_rfl) (by kernel_rfl) fun wt7 KM agK => ?_;have⟨ahz,anY,anZ,YT,aoa,aob,adw,ahA,ahB⟩:=Br KM anQ anR ahy anS anT anU anV anW anX;have b30:=eP KM b29 E;refine bW h9<|Rp (pt G) (fun _=>iZ h10 0)<|bW h9<|Rp (pt G) (fun _=>iZ h10 0)<|bf (pt p)<|bf (pf p 21)<|Rp (pf G 12) (fun _=>iZ h10 12)<|bf (pt p)<|bf (pf p 21)<|Rd (v:=au v.o) (by rfl) (by rfl) (wm _) (fun d b=>bB (x:=bV v) rfl rfl (by kernel_rfl) (YT.kV b (by decide)).aI (i:=0) (by omega) (by omega) rfl) ?_;refine Rp (au a) (fun _=>fZ)<|Rd (v:=au v.o) (by rfl) (by rfl) (wm _) (fun d b=>bB (x:=bV v) rfl rfl (by kernel_rfl) (YT.kV b (by decide)).aI (i:=0) (by omega) (by omega) rfl) ?_;refine Rp (au a) (fun _=>fZ)<|Rp (pf p (a+21)) (fun _=>iY 6 1)<|Rd (v := .slice (m.ra a) (m.rn a) (m.rc a)) (by rfl) (by rfl) (wm _) (fun d b=>bB (x:=dD (mX m) 19 (bO C (m.s.gn+1) A)) rfl rfl (by kernel_rfl) (adw.kV b (by decide)).aI (i:=a+21) (by omega) (by omega) (Fx.Bn (by omega) (xu _ (by omega)))) ?_;refine Rs (aC v.req) (aM YT.aI 12) ?_;refine Dw<|xY (vs := [(0,aC v.req)]) (s:=1) (zc:=rv .u64 (fun _=>0)) (y:=aZ (fun j=>(rv .u64 (fun _=>0)) (j % 1)) (0*1) 1 (fun _=>aC v.req)) (by rfl) rfl rfl Tryz.underlying63 (by kernel_rfl) (by rfl) (by rfl) (by kernel_rfl) (by rw[aR (off:=0*1) (s:=1) (y:=fun _=>aC v.req) rfl (cells_one (by rfl)) (by rfl)]; rfl) rfl fun g6 QF eg6 ahC s27 z10 => ?_;have⟨aoc,aod,aoe,aof,aog,aoh,ady⟩:=jM s27.old ahz anY anZ aoa adw ahA ahB;have b31:=eP s27.old b30 E;have lg6:=iT eg6 b30.size;have⟨ajX,ajY,ajZ,akb,akc⟩:=Ee eg6 ahz.lt YT.lt aob.lt adw.lt ahA.lt;have akd:(.slice (m.ra a) (m.rn a) (m.rc a):Value).ownBlock≠some g6:=by rw[eg6]; exact ahB.jo (A_ _)
 have tg6:=ahC.lt;refine Ln ⟨Fx.iA.of_below s27.old,?_⟩;refine Dw<|yu (B:=B) (s:=1) (bytes:=8) (k:=(m.rn a)) (m:=1) (v := .slice (m.ra a) (m.rn a) (m.rc a)) (x:=rv .u64 (m.rq a)) (by rfl) rfl rfl rfl Tryz.underlying63 (by kernel_rfl) (by kernel_rfl) rfl rfl ady ahC.aI (uI (fun _=>rfl)) (by omega) (by omega) (by omega) (m_ E b31.size) fun g7 cap2 TU ho2 hg2 Nq hlt2 => ?_;have FI:=yJ hg2 ady;have⟨aok,aol,aom,ahD,aon⟩:=rF FI aoc aod aof aog aoh;have aoo:Fx.Own TU B 28 1 (.slice (some ⟨g7,0,none⟩) ((m.rn a)+1) cap2) ((m.rn a)+1) (rv .u64 (aH (m.rq a) (m.rn a) v.req)):=(ho2.congr (fun j hj=>Po j hj));have b32:Below B w TU:=yt b31 hg2 (m_ E b31.size) (fun q hq=>(ady.ge hq).1);have aop:xw TU B 6 { m with ra:=aH m.ra a (some ⟨g7,0,none⟩),rn:=aH m.rn a (m.rn a+1),rc:=aH m.rc a cap2,rq:=aH m.rq a (aH (m.rq a) (m.rn a) v.req) }:=xw.app aoe ha rfl rfl rfl rfl aoo hg2 Nq;refine Ln ⟨FI,?_⟩;refine Rp (pf p (a+21)) (fun _=>iY 6 1)<|gQ<|jh ahD (a+21) (.slice (some ⟨g7,0,none⟩) ((m.rn a)+1) (cap2)) fun w21 aoq s28 z11 => ?_;have adz:=gX s28 ahD.ty;have⟨aor,aos,aot,aou,aov⟩:=rF adz aok aol aom aon aop;have b33:=s28.below b32 (m_ E b32.size) (by omega);refine Ln<|bT<|ay<|av (au 0)<|aD<|Wr<|aJ (au 0) ?_;have eN:aO v=a:=by unfold aO; omega
 have ne1 : ¬ 0<=m.core.lH (aO v) v.req:=by rw[eN]; exact j_ c17
 have ne2 : ¬ fG m.core.t m.core.tn v.node=0:=fun e=>c27 (by rw[show K=0 from XO.trans e]; rfl);have ew:nG m.core v=dn (fun x=>bJ x v.o v.aU) (oK m.core v.node) m.R K:=by unfold nG; rw[show fG m.core.t m.core.tn v.node=K from XO.symm]; rfl
 have V:iU m.core v=0:=by unfold iU; rw[b_ ne1,b_ ne2,ew,hRK]
 have eW:nG m.core v=(Rk,0):=ew.trans hRK;have aow:Fx.Own w21 B 66 5 (bO C (m.s.gn+1) A) (m.s.gn+1) (flat 5 fun l=>jw (cO m.g k (qC v) l)):=by rw[<- YJ]; exact aou
 refine⟨pF V.symm,b33,fun _=>⟨{ m with s := { m.s with ga:=some ⟨C,0,none⟩,gn:=m.s.gn+1,gc:=A },R:=Rk,g:=cO m.g k (qC v),ra:=aH m.ra a (some ⟨g7,0,none⟩),rn:=aH m.rn a (m.rn a+1),rc:=aH m.rc a cap2,rq:=aH m.rq a (aH (m.rq a) (m.rn a) v.req) },?_,?_⟩⟩
 ·unfold mG qN; rw[eW,eN]; rw[show down (fun i=>FM v (m.core.g i)) m.core.gn=k from ek.symm]; rfl
 exact { c:=aoq.to ((L_ (fun z=>dD z (a+21) _) (Nv m _ _ _)).trans (K9 _ rfl _ _ _)),n:=aot,g:=aow,tc:=aor,t:=aos,r:=aov,pB:=U1,tB:=Ep,bn:=bn,bg:=(by show m.s.gn+1<=1000000; omega),bt:=bt,br:=(fun i L=>by show aH m.rn a (m.rn a+1) i<=1000000; have:=brr i L; have:=brr a ha; unfold aH; split <;> omega) }
namespace Rt
def Ap(L:fI)(v:EvM):Nat:=(L.grant v.o v.of).toNat
def mH(L:fI)(v:EvM):(Nat->Nat->Int) × Int:=dn (fun x=>bK x v.o (L.g (Ap L v) 3)) (oK L (L.g (Ap L v) 2)) L.R (fG L.t L.tn (L.g (Ap L v) 2))
def iL(L:fI)(v:EvM):Int:=if 0<=L.lH (aO v) v.req then 14 else if L.grant v.o v.of<0\/L.g (Ap L v) 4≠0 then 12 else(mH L v).2
def kQ(L:fI)(v:EvM):fI:=qN { L with R:=(mH L v).1,g:=aH L.g (Ap L v) (aH (L.g (Ap L v)) 4 v.req) } (aO v) v.req
theorem Ve{m:lV}{o r:Int}(h : ¬ m.grant o r<0) : ∃ q:Nat,q<m.s.gn/\m.grant o r=(q:Int)/\m.g q 0=o/\m.g q 1=r:=by
 rcases je (fun i=>decide (m.g i 0=o)&&decide (m.g i 1=r)) m.s.gn with ⟨q,b,e,a⟩|⟨e,_⟩
 ·rw[T_]at a;exact⟨q,b,e,h_ a.1,h_ a.2⟩
 unfold lV.grant at h; omega
theorem Ri{n q:Nat}{g:Nat->Nat->Int}{r:Int} : ∀ i,i<n -> ∀ j,j<5->Fx.qG (fun a=>jw (g a)) q (dD (jw (g q)) 4 (aC r)) i j=jw (aH g q (aH (g q) 4 r) i) j:=fun i _ j b=>by
 unfold Fx.qG;by_cases h:i=q
 ·subst h;rw[d_ rfl];unfold aH dD jw;rw[d_ rfl]
  rcases j with _|_|_|_|_|j <;> first|rfl|omega
 ·rw[b_ h]; unfold aH; rw[b_ h]
end Rt
set_option maxRecDepth 20000 in
set_option maxHeartbeats 2000000 in
theorem YU(m:lV)(B p a:Nat)(v:EvM)(w:World)(F:wF w B p m)(A:B<=w.heap.size)(ha:a<6)(ho:v.o=(a:Int)+1)(bgg:m.s.gn<=900000)(brr : ∀ i,i<6->m.rn i<=900000)(hTN : ∀ x,m.node x=bG m.t m.tn x)(hDx : ∀ x,∃ D,D<=1000/\bG m.t m.tn (bI m.t m.tn D x)<0) :
 Calls Tryz.prog 80 #[(pt p),.agg (aA 14 (bV v))] w fun e w'=>e = .returned (au (iL m.core v))/\Below B w w'/\(iL m.core v=0 -> ∃ m',m'.core=kQ m.core v/\wF w' B p m'):=by
 have UZ:=F.c;have hLn:=F.n;have hLg:=F.g;have Sc:=F.tc;have U0:=F.t;have hLr:=F.r;have U1:=F.pB;have Ep:=F.tB;have bn:=F.bn;have bg:=F.bg;have bt:=F.bt;refine Kent Tryz.func80 128 ?_;refine ay<|rE fun E w1 lN m1 s1 z1 => ?_;have⟨m2,m3,m4,m5,m6,m7⟩:=tT s1.old UZ hLn hLg Sc U0 hLr;have b1:=eP s1.old (Below.refl B w) A;have⟨nI,xX⟩:=vH lN UZ.lt Sc.lt;refine av (au 0)<|aD<|Ws<|ay<|av (pt p)<|av (pt E)<|Lv (au v.o) (aM m1.aI 0)<|av (pf E 12)<|Lv (aC v.req) (aM m1.aI 12) ?_;have Nz:DF w1 p m := { c:=m2.aI,an:=m3.arr,ag:=m4.arr,tc:=m5.aI,at2:=m6.arr,ar:=fun i J=>(m7.1 i J).arr,bn:=(by show m.s.nn<=1000000; omega),bg:=bg,bt:=(by show m.tn<=1000000; omega),br:=F.br };by_cases S:(decide (0<=m.lH a v.req))=true
 ·refine dQ (BJ m p a v.o v.req _ Nz ha ho) aG (by rw[S]) ?_;intro w2 hb1;have b2:=eP hb1 b1 A;refine aD<|aL<|ay<|av (au 14)<|aD<|Wr<|sR<|aJ (au 14) ?_;have L:aO v=a:=by unfold aO; omega
  have H:iL m.core v=14:=by unfold iL; rw[L]; exact d_ (h_ S)
  exact⟨pF H.symm,b2,fun M=>by rw[H]at M; cases M⟩
 rw[U_]at S;refine dQ (BJ m p a v.o v.req _ Nz ha ho) aF (by rw[S]) ?_;intro w3 hb2;have⟨m15,m16,m17,m18,m19,m20,m21⟩:=jM hb2 m2 m3 m4 m5 m6 m7 m1;have b3:=eP hb2 b1 A;refine aD<|aK<|Wk<|sN<|ay<|av (pt p)<|av (pt E)<|Lv (au v.o) (aM m21.aI 0)<|av (pf E 13)<|Lv (aC v.of) (aM m21.aI 13) ?_;have Va:DF w3 p m := { c:=m15.aI,an:=m16.arr,ag:=m17.arr,tc:=m18.aI,at2:=m19.arr,ar:=fun i J=>(m20.1 i J).arr,bn:=(by show m.s.nn<=1000000; omega),bg:=bg,bt:=(by show m.tn<=1000000; omega),br:=F.br };refine dQ (Yx m p v.o v.of _ Va) _ rfl ?_;intro w4 hb3;have⟨m22,m23,m24,nP,oG,nY,nZ⟩:=jM hb3 m15 m16 m17 m18 m19 m20 m21;have b4:=eP hb3 b3 A;refine av (au (m.grant v.o v.of))<|aD<|Ws<|ay<|av (au (m.grant v.o v.of)) ?_;by_cases aa:(m.grant v.o v.of)<0
 ·refine Lv aG (gN aa)<|av aG<|dw<|dw<|dw<|dw<|dw<|dw<|dw<|dw<|dw<|dw<|av aG<|aD<|aL<|ay<|av (au 12)<|aD<|Wr<|sR<|aJ (au 12) ?_;have L:aO v=a:=by unfold aO; omega
  have Y : ¬ 0<=m.core.lH (aO v) v.req:=by rw[L]; exact j_ S
  have H:iL m.core v=12:=by unfold iL; rw[b_ Y]; exact d_ (.inl aa)
  exact⟨pF H.symm,b4,fun M=>by rw[H]at M; cases M⟩
 obtain⟨b,hkg,ekg,_,_⟩:=Ve aa;have ab:Ap m.core v=b:=by show(m.grant v.o v.of).toNat=b; rw[ekg]; rfl
 refine Lv aF (gP aa)<|av aF<|av (pt p)<|av (pt p)<|av (pt p)<|av (pf p 19)<|Lv (.slice m.s.ga (m.s.gn) (m.s.gc)) (aM m22.aI 19)<|aT (L_ (Value.int .i64) ekg) ?_;obtain⟨af,eq1⟩:=m24.addr (by omega);have oH:Fx.Own w4 B 66 5 (bO af m.s.gn m.s.gc) m.s.gn (Jm m):=m24.eH (L_ (fun q=>Value.slice q m.s.gn m.s.gc) eq1);refine Lv (pf af (5*b)) (dh 5 (hx:=(rfl.trans (L_ (fun q=>Value.slice q (m.s.gn) (m.s.gc)) eq1))))<|av (pf af (5*b+4))<|Lv (aC ((m.g b) 4)) (aM oH.aI (5*b+4) (Fx.gy (k:=b) (j:=4) (by omega) (by omega) rfl)) ?_;by_cases ae:((m.g b) 4)=0
 ·refine Lv aF (ko ae)<|av aF<|aD<|aK<|Wk<|sN<|Ws ?_;obtain⟨D,hD2,hD⟩:=hDx (m.g b 2);refine kJ [0,1,2,4,5,6,7,9,3,8,10,11,12,13,14] [0,0,0,4,0,0,0,0,4,0,0,0,4,3,0] [(13,3,[3]),(13,8,[12,11,10,8]),(13,12,[12]),(14,13,[13])] fun rG dZ iJ => ?_;have⟨pG,nA,m32,qg,oO,qh,qH⟩:=jM dZ m22 m23 nP oG nY nZ oH;have b5:=eP dZ b4 A;refine bf (pt p)<|bf (pt p)<|bf (pf p 20)<|bf (pt p)<|bf (pt p)<|bf (pt p)<|bf (pf p 19)<|bW (L_ (Value.int .i64) ekg)<|Rs (pt m.tb) (aM pG.aI 20) ?_;refine Rs (.slice m.s.ga (m.s.gn) (m.s.gc)) (aM pG.aI 19) ?_;refine Rp (pf af (5*b)) (fun _=>dh 5 (hx:=(rfl.trans (L_ (fun q=>Value.slice q (m.s.gn) (m.s.gc)) eq1))))<|bf (pf af (5*b+2))<|Rs (aC ((m.g b) 2)) (aM qH.aI (5*b+2) (Fx.gy (k:=b) (j:=2) (by omega) (by omega) rfl)) ?_;refine gQ<|lU (Jp m.tb m.ta m.tn m.tc m.t (m.g b 2) D _ (uG m32 qg bt) hD hD2) ?_;rintro e w5 ⟨K,vv,he,hown,sO,hK1,hb4⟩;obtain⟨Z,C,rfl⟩:=hown.val;refine⟨.slice Z K C,he,?_⟩;clear he;have XO:K=fG m.t m.tn (m.g b 2):=vS sO hK1 hD hD2;have hKD:K<=1000:=by rw[XO]; exact Jw _ _
  have⟨nS,rU,pV,sJ,nJ,mJ,nC⟩:=jM hb4 pG nA m32 qg oO qh qH;have b6:=eP hb4 b5 A;refine Ln<|bf (.slice Z (K) (C))<|bT<|Ws<|ay<|av (au 0)<|aD<|Wb ?_;have sK:Fx.Own w5 B 66 5 (.slice m.s.ga (m.s.gn) (m.s.gc)) m.s.gn (Jm m):=nC.eH (L_ (fun q=>Value.slice q m.s.gn m.s.gc) eq1.symm);refine Wo (fun f Q => ∃ k:Nat,∃ Rk:Nat->Nat->Int,k<=K/\dn (fun x=>bK x v.o (m.g b 3)) (oK m.core (m.g b 2)) m.R k=(Rk,0)/\f 0=(pt p)/\f 3=(pt E)/\f 6 = .slice Z (K) (C)/\f 7=au (k:Int)/\f 5=au (b:Int)/\aP Q p 27 (mX m) 71/\aP Q m.tb 1 (fun _ => .slice m.ta m.tn m.tc) 123/\Fx.Own Q B 128 2 (.slice m.ta (m.tn) (m.tc)) m.tn (QU m.t)/\xw Q B 6 m/\aP Q E 14 (bV v) 32/\Fx.Own Q B 66 5 (.slice m.s.ga (m.s.gn) (m.s.gc)) m.s.gn (Jm m)/\Fx.Own Q rG.heap.size 28 1 (.slice Z (K) (C)) K (rv .u64 (fun i=>bI m.t m.tn i (m.g b 2)))/\Fx.Own Q B 61 56 (.slice m.s.na (m.s.nn) (m.s.nc)) m.s.nn (flat 56 (fun l=>jQ (m.id l) (m.par l) (Rk l)))/\Below B w Q) (fun f _=>(K-(intOf (f 7)).toNat)) ⟨0,m.R,by omega,rfl,(by rfl),(by rfl),(by rfl),Fx.ic,((L_ (Value.int .i64) ekg).trans Fx.ic),nS,pV,sJ,nJ,mJ,sK,hown,rU,b6⟩ ?_;rintro f1 w6 ⟨k,Rk,hk,hRk,W,O,h3,h4,h5,rJ,og,qV,wT,tV,rW,wu,uX,b7⟩;refine Ws<|ay<|aT h4<|aT h3<|av (au K) ?_;by_cases c54:(k:Int)<(K:Int)
  ·refine Lv aG (gN c54)<|aD<|aL<|Wk<|sN<|Ws<|Wb<|Ws ?_;obtain⟨q,hq,eq0,_⟩:=EN (m:=m) (x:=bI m.t m.tn k (m.g b 2)) (by rw[hTN]; exact sO k (by omega));have ex1:oK m.core (m.g b 2) k=q:=(by show(fU (fun i=>decide (m.id i=bI m.t m.tn k (m.g b 2))) m.s.nn).toNat=q; rw[eq0]; rfl);refine Wl<|aT W<|aT h3<|aT h4 ?_;obtain⟨NC,Jz⟩:=wu.addr (by omega);have uN:Fx.Own w6 rG.heap.size 28 1 (bO NC K C) K (rv .u64 (fun i=>bI m.t m.tn i (m.g b 2))):=wu.eH (L_ (fun q=>Value.slice q K C) Jz);refine Lv (pf NC k) (dh 1 (hx:=(rfl.trans (L_ (fun q=>Value.slice q (K) (C)) Jz))))<|Lv (aC ((fun i=>bI m.t m.tn i (m.g b 2)) k)) (aM uN.aI k) ?_;have vL:Fx.Own w6 rG.heap.size 28 1 (.slice Z (K) (C)) K (rv .u64 (fun i=>bI m.t m.tn i (m.g b 2))):=uN.eH (L_ (fun q=>Value.slice q K C) Jz.symm);have aox:DF w6 p { m with R:=Rk } := { c:=rJ.aI,an:=uX.arr,ag:=rW.arr,tc:=og.aI,at2:=qV.arr,ar:=fun i J=>(wT.1 i J).arr,bn:=(by show m.s.nn<=1000000; omega),bg:=bg,bt:=(by show m.tn<=1000000; omega),br:=F.br };refine dQ ((Jo { m with R:=Rk } p (bI m.t m.tn k (m.g b 2)) _ aox).mono (fun e w2 O=>(⟨O.1.trans (pF eq0),O.2⟩:e = .returned (au (q:Int))/\_))) _ rfl ?_;intro w7 hb5;have⟨ad,uw,uy,uz,wU,qI,vM,oh⟩:=kW hb5 rJ og qV wT tV rW uX vL;have b8:=eP hb5 b7 A;refine av (au q)<|aD<|Ws ?_;obtain⟨N,eq3⟩:=vM.addr (by omega);have tX:Fx.Own w7 B 61 56 (bO N m.s.nn m.s.nc) m.s.nn (flat 56 (fun l=>jQ (m.id l) (m.par l) (Rk l))):=vM.eH (L_ (fun q=>Value.slice q m.s.nn m.s.nc) eq3);obtain⟨ac,eq4⟩:=qI.addr (by omega);have m64:Fx.Own w7 B 66 5 (bO ac m.s.gn m.s.gc) m.s.gn (Jm m):=qI.eH (L_ (fun q=>Value.slice q m.s.gn m.s.gc) eq4);refine qE (T:=59) (T':=59) (a := .tmp 9) (v := .tmp 85) (m:=54) (z:=rv .i64 (fun _=>0)) (y:=rv .i64 ((bK (Rk q) v.o ((m.g b) 3)).1)) (u := .agg (aA 54 (rv .i64 ((bK (Rk q) v.o ((m.g b) 3)).1)))) 24 25 (List.replicate 27 (0,2,[],[])) #[(pt p),(pt p),(pt p),(pf p 18),.slice m.s.na (m.s.nn) (m.s.nc),au (q:Int),(pf N (56*q)),(pf N (56*q+2)),.agg (aA 54 (rv .i64 (Rk q))),(pt E),au v.o,(pt p),(pt p),(pt p),(pf p 19),.slice m.s.ga (m.s.gn) (m.s.gc),au (b:Int),(pf ac (5*b)),(pf ac (5*b+3)),au ((m.g b) 3),.tuple #[.agg (aA 54 (rv .i64 ((bK (Rk q) v.o ((m.g b) 3)).1))),au ((bK (Rk q) v.o ((m.g b) 3)).2)],.tuple #[.agg (aA 54 (rv .i64 ((bK (Rk q) v.o ((m.g b) 3)).1))),au ((bK (Rk q) v.o ((m.g b) 3)).2)],.agg (aA 54 (rv .i64 ((bK (Rk q) v.o ((m.g b) 3)).1))),au ((bK (Rk q) v.o ((m.g b) 3)).2),undef,undef,au ((bK (Rk q) v.o ((m.g b) 3)).2)] (by kernel_rfl) (by kernel_rfl) (by kernel_rfl) (by kernel_rfl) (by kernel_rfl) (by kernel_rfl) rfl (by kernel_rfl) rfl rfl (by kernel_rfl) (fun I=>(show ev _ (.tmp 9)=(pt I)from by kernel_rfl)) (fun I=>(show ev _ (.tmp 85) = .agg (aA 54 (rv .i64 ((bK (Rk q) v.o ((m.g b) 3)).1)))from by kernel_rfl)) (bD _ _) (fun _ _=>rfl) (by kernel_rfl) (fun I => ?_) ?_
   ·refine⟨?_,?_,?_,?_,?_,?_,?_,?_,?_,?_,?_,?_,?_,?_,?_,?_,?_,?_,?_,?_,?_,?_,?_,?_,?_,?_,?_,trivial⟩
    ·exact .inr (.inr (lY (pt p) fun G d=>dO rfl ((bH (by kernel_rfl)).trans W)))
    ·exact .inr (.inr oF)
    ·exact .inr (.inr oF)
    ·exact .inr (.inr oF)
    ·exact .inr (.inr (lY (.slice m.s.na (m.s.nn) (m.s.nc)) fun G d=>bB (x:=mX m) rfl (show ev _ (.tmp 67)=(pf p 18)from by kernel_rfl) (by kernel_rfl) (ad.aI.below d (by have:=ad.lt; omega)) (i:=18) (by omega) (by omega) rfl))
    ·exact .inr (.inr oF)
    ·exact .inr (.inr (lY (pf N (56*q)) fun G d=>dX rfl ((show ev _ (.tmp 68) = .slice m.s.na (m.s.nn) (m.s.nc)from by kernel_rfl).trans (L_ (fun q=>Value.slice q (m.s.nn) (m.s.nc)) eq3)) (show ev _ (.tmp 69)=au (q:Int)from by kernel_rfl) Tryz.underlying50 (s:=56) (by kernel_rfl) (by omega) (by omega) (by omega)))
    ·exact .inr (.inr oF)
    ·exact .inr (.inr (lY (.agg (aA 54 (rv .i64 (Rk q)))) fun G d=>fC (x:=flat 56 (fun l=>jQ (m.id l) (m.par l) (Rk l))) (y:=rv .i64 (Rk q)) rfl (show ev _ (.tmp 71)=(pf N (56*q+2))from by kernel_rfl) (by kernel_rfl) (by kernel_rfl) (tX.aI.below d (by have:=tX.lt; omega)) (i:=56*q+2) (by omega) (by omega) (fun jq hjq=>(Fx.jG (k:=q) (j:=2+jq) (by omega) (by omega)).trans ((fun jq _=>BG _ _ _ jq) jq hjq))))
    ·exact .inr (.inr (lY (pt E) fun G d=>fV rfl ((bH (by kernel_rfl)).trans O) Tryz.underlying32 rfl (s:=1) (by kernel_rfl) rfl rfl))
    ·exact .inr (.inr (lY (au v.o) fun G d=>bB (x:=bV v) rfl (show ev _ (.tmp 73)=(pt E)from by kernel_rfl) (by kernel_rfl) (wU.aI.below d (by have:=wU.lt; omega)) (i:=0) (by omega) (by omega) rfl))
    ·exact .inr (.inr (lY (pt p) fun G d=>dO rfl ((bH (by kernel_rfl)).trans W)))
    ·exact .inr (.inr oF)
    ·exact .inr (.inr oF)
    ·exact .inr (.inr oF)
    ·exact .inr (.inr (lY (.slice m.s.ga (m.s.gn) (m.s.gc)) fun G d=>bB (x:=mX m) rfl (show ev _ (.tmp 78)=(pf p 19)from by kernel_rfl) (by kernel_rfl) (ad.aI.below d (by have:=ad.lt; omega)) (i:=19) (by omega) (by omega) rfl))
    ·exact .inr (.inr (lY (au b) fun G d=>dO rfl ((bH (by kernel_rfl)).trans h5)))
    ·exact .inr (.inr (lY (pf ac (5*b)) fun G d=>dX rfl ((show ev _ (.tmp 79) = .slice m.s.ga (m.s.gn) (m.s.gc)from by kernel_rfl).trans (L_ (fun q=>Value.slice q (m.s.gn) (m.s.gc)) eq4)) (show ev _ (.tmp 80)=au (b:Int)from by kernel_rfl) Tryz.underlying51 (s:=5) (by kernel_rfl) (by omega) (by omega) (by omega)))
    ·exact .inr (.inr oF)
    ·exact .inr (.inr (lY (au ((m.g b) 3)) fun G d=>bB (x:=Jm m) rfl (show ev _ (.tmp 82)=(pf ac (5*b+3))from by kernel_rfl) (by kernel_rfl) (m64.aI.below d (by have:=m64.lt; omega)) (i:=5*b+3) (by omega) (by omega) (Fx.gy (k:=b) (j:=3) (by omega) (by omega) rfl)))
    ·exact .inr (.inr (Fx.yI (v := .tuple #[.agg (aA 54 (rv .i64 ((bK (Rk q) v.o ((m.g b) 3)).1))),au ((bK (Rk q) v.o ((m.g b) 3)).2)]) (by kernel_rfl) (by kernel_rfl) (Fx.qbC (fun G d=>rC (args := [.agg (aA 54 (rv .i64 (Rk q))),au v.o,au ((m.g b) 3)]) rfl (Fx.OD (show ev _ (.tmp 72) = .agg (aA 54 (rv .i64 (Rk q)))from by kernel_rfl) (show ev _ (.tmp 74)=au v.o from by kernel_rfl) (show ev _ (.tmp 83)=au ((m.g b) 3)from by kernel_rfl)) Tryz.func111 rfl rfl) (fun G d=>(YL (Rk q) v.o ((m.g b) 3) _).mono fun e v2 h=>⟨h.1,h.2⟩))))
    ·exact .inr (.inr oF)
    ·exact .inr (.inr oF)
    ·exact .inr (.inr oF)
    ·exact .inl rfl
    ·exact .inr (.inl rfl)
    exact .inr (.inr oF)
   rintro I w8 U P X wV hb6;have adB:p≠I:=u_ (n_ (ad.lt) X);have adC:m.tb≠I:=u_ (n_ (uw.lt) X);have adD:E≠I:=u_ (n_ (wU.lt) X);have adE:N≠I:=u_ (n_ (tX.lt) X);have aoy:ac≠I:=u_ (n_ (m64.lt) X);have⟨wB,wW,wX,sM,uY,uD,wC,uZ⟩:=kW hb6 ad uw uy uz wU oh tX m64;have b9:=eP hb6 b8 A;have X:w.heap.size<=I:=m_ b8.size X;have zY:=wV.lt;have q1:U 0=(pt p):=(by rw[P]; exact(bH (by kernel_rfl)).trans W);have q2:U 3=(pt E):=(by rw[P]; exact(bH (by kernel_rfl)).trans O);have q3:U 6 = .slice Z (K) (C):=(by rw[P]; exact(bH (by kernel_rfl)).trans h3);have q4:U 7=au (k:Int):=(by rw[P]; exact(bH (by kernel_rfl)).trans h4);have q5:U 5=au (b:Int):=(by rw[P]; exact(bH (by kernel_rfl)).trans h5);have q16:U 8=au (q:Int):=(by rw[P]; kernel_rfl);have q41:U 9=(pt I):=(by rw[P]; kernel_rfl);have q42:U 10=au ((bK (Rk q) v.o ((m.g b) 3)).2):=(by rw[P]; kernel_rfl);clear P;refine sN<|Ws<|ay<|aT q42 ?_;by_cases V:((bK (Rk q) v.o ((m.g b) 3)).2)=0
   ·refine Lv aF (ko V)<|aD<|aK<|Wk<|sN ?_;refine kJ [0,1,2,3,5,4,6,7,8,9] [0,0,0,0,4,0,4,0,0,3] [(9,4,[4]),(9,6,[6])] fun Dx gI nX => ?_;have⟨yx,wD,yA,yB,yC,wY,wE,vg,vN⟩:=Br gI wB wW wX sM uY uD wC uZ wV;have b10:=eP gI b9 A;refine bW q1<|bf (pt p)<|bf (pt p)<|bf (pf p 18)<|bW q16<|Rs (.slice m.s.na (m.s.nn) (m.s.nc)) (aM yx.aI 18) ?_;refine Rs (.agg (aA 54 (rv .i64 ((bK (Rk q) v.o ((m.g b) 3)).1)))) (fJ vN.aI 0 (ha:=q41)) ?_;refine Rp (pf N (56*q)) (fun _=>dh 56 (hx:=(rfl.trans (L_ (fun q=>Value.slice q (m.s.nn) (m.s.nc)) eq3))))<|bf (pf N (56*q+2))<|gQ<|Ay wE (56*q+2) fun w9 yR s10 z2 => ?_;have gD:=gX s10 wE.Kk;have⟨xV,AA,zW,zX,yS,zD,Al⟩:=SV gD yx wD yA yB yC wY vg;have b11:=s10.below b10 (m_ A b10.size) wE.blk.1;have Cc:Fx.Own w9 B 61 56 (bO N m.s.nn m.s.nc) m.s.nn (flat 56 (fun l=>jQ (m.id l) (m.par l) (aH Rk q ((bK (Rk q) v.o ((m.g b) 3)).1) l))):=yR.congr (fun pq hp=>(Fx.Ci (k:=q) (j:=2) (by omega) (by omega) pq hp).trans (bM (fun i J j hj=>CJ i J j hj) pq hp));refine Ln<|Rn<|bR<|sN<|Wl<|aT q4<|Lv (au ((k:Int)+1)) eU<|av (au ((k:Int)+1))<|Ln ?_;have Ao:Fx.Own w9 B 66 5 (.slice m.s.ga (m.s.gn) (m.s.gc)) m.s.gn (Jm m):=Al.eH (L_ (fun q=>Value.slice q m.s.gn m.s.gc) eq4.symm);have Bg:Fx.Own w9 B 61 56 (.slice m.s.na (m.s.nn) (m.s.nc)) m.s.nn (flat 56 (fun l=>jQ (m.id l) (m.par l) (aH Rk q ((bK (Rk q) v.o ((m.g b) 3)).1) l))):=Cc.eH (L_ (fun q=>Value.slice q m.s.nn m.s.nc) eq3.symm);refine gL ⟨k+1,(aH Rk q (bK (Rk q) v.o (m.g b 3)).1),by omega,(FL hRk ex1 (by first|exact V|exact Classical.not_not.1 V)),q1,q2,q3,Fx.ic,(q5.trans Fx.ic),xV,AA,zW,zX,yS,Ao,zD,Bg,b11⟩ ?_
    show(K-(intOf (au ((k:Int)+1))).toNat)<_;simp only[h4,intOf]; omega
   refine Lv aG (nN V)<|aD<|aL<|ay<|aT q42<|av (au ((bK (Rk q) v.o ((m.g b) 3)).2))<|aD<|Wr<|sR<|bP<|sR<|pY<|bP<|sR<|aJ (au ((bK (Rk q) v.o ((m.g b) 3)).2)) ?_;have L:aO v=a:=(by unfold aO; omega);have Y : ¬ 0<=m.core.lH (aO v) v.req:=(by rw[L]; exact j_ S);have ne2 : ¬ (m.core.grant v.o v.of<0\/m.core.g (Ap m.core v) 4≠0):=(by rw[ab]; exact fun h=>h.elim aa (fun h=>h ae));have ew:mH m.core v=dn (fun x=>bK x v.o (m.g b 3)) (oK m.core (m.g b 2)) m.R K:=(by unfold mH; rw[ab,show fG m.core.t m.core.tn (m.core.g b 2)=K from XO.symm]; rfl);have H:iL m.core v=(bK (Rk q) v.o (m.g b 3)).2:=by
    unfold iL; rw[b_ Y,b_ ne2,ew];have e1:=Ia hRk ex1 V;rw[AV (k:=k+1) (by rw[e1]; exact V) K (by omega)]; exact e1
   exact⟨pF H.symm,b9,fun M=>M_ (H.symm.trans M) V⟩
  refine Lv aF (gP c54)<|aD<|aK<|Wx<|bY<|gJ<|bZ<|sN<|Ws ?_;have hRK:dn (fun x=>bK x v.o (m.g b 3)) (oK m.core (m.g b 2)) m.R K=(Rk,0):=by rw[show K=k by omega]; exact hRk
  refine kJ [0,1,2,3,5,6,4,7,8,9,10] [0,0,0,0,4,0,0,4,0,0,3] [(10,4,[4]),(10,7,[7])] fun R8 lZ BA => ?_;have⟨yE,DJ,Ce,DK,Eo,uO,uP⟩:=jM lZ rJ og qV wT tV rW uX;have b12:=eP lZ b7 A;refine bW W<|bf (pt p)<|bf (pt p)<|bf (pf p 19)<|bW h5<|Rp (pf E 12) (fun _=>iZ O 12)<|Rs (.slice m.s.ga (m.s.gn) (m.s.gc)) (aM yE.aI 19) ?_;refine Rs (aC v.req) (aM Eo.aI 12) ?_;obtain⟨gq5,eq5⟩:=uO.addr (by omega);have rM:Fx.Own R8 B 66 5 (bO gq5 m.s.gn m.s.gc) m.s.gn (Jm m):=uO.eH (L_ (fun q=>Value.slice q m.s.gn m.s.gc) eq5);refine Rp (pf gq5 (5*b)) (fun _=>dh 5 (hx:=(rfl.trans (L_ (fun q=>Value.slice q (m.s.gn) (m.s.gc)) eq5))))<|bf (pf gq5 (5*b+4))<|gQ<|qB rM (5*b+4) (aC v.req) fun sI oI s12 z3 => ?_;have jv:=gX s12 rM.Kk;have⟨ou,pK,oJ,ql,qM,qm⟩:=SS jv yE DJ Ce DK Eo uP;have b13:=s12.below b12 (m_ A b12.size) rM.blk.1;have sZ:Fx.Own sI B 66 5 (bO gq5 m.s.gn m.s.gc) m.s.gn (flat 5 (fun l=>jw (aH m.g b (aH (m.g b) 4 v.req) l))):=oI.congr (fun pq hp=>(Fx.He (k:=b) (j:=4) (by omega) (by omega) pq hp).trans (bM (fun i J j hj=>Ri i J j hj) pq hp));refine Ln<|bT<|Ws ?_;have xZ:Fx.Own sI B 66 5 (.slice m.s.ga (m.s.gn) (m.s.gc)) m.s.gn (flat 5 (fun l=>jw (aH m.g b (aH (m.g b) 4 v.req) l))):=sZ.eH (L_ (fun q=>Value.slice q m.s.gn m.s.gc) eq5.symm);have uf:Fx.Own sI B 28 1 (.slice (m.ra a) (m.rn a) (m.rc a)) (m.rn a) (rv .u64 (m.rq a)):=ql.1 a ha;have bra:=F.br a ha;refine Bp [0,1,4,5,8,9,12,16,17,2,3,6,7,10,11,13,14,15,18,19] [0,0,1,0,0,0,1,0,0,0,0,1,0,4,2,2,0,0,0,3] (iA [28]) wm Fx.iA.trans (fO := [(19,2,[2]),(19,6,[6]),(19,11,[11]),(14,13,[13]),(15,13,[14,13]),(19,13,[13]),(15,14,[14]),(18,14,[14]),(19,14,[14]),(18,15,[15]),(19,15,[15])]) (by kernel_rfl) (by kernel_rfl) (by kernel_rfl) (by kernel_rfl) (by kernel_rfl) fun wt4 qU Hw => ?_;have⟨yc,AL,vR,tu,pO,xC,xD,tC⟩:=kW qU ou pK oJ ql qM qm xZ uf;have b14:=eP qU b13 A;refine bW W<|Rp (pt E) (fun _=>iZ O 0)<|bW W<|Rp (pt E) (fun _=>iZ O 0)<|bf (pt p)<|bf (pf p 21)<|Rp (pf E 12) (fun _=>iZ O 12)<|bf (pt p)<|bf (pf p 21)<|Rd (v:=au v.o) (by rfl) (by rfl) (wm _) (fun G d=>bB (x:=bV v) rfl rfl (by kernel_rfl) (pO.kV d (by decide)).aI (i:=0) (by omega) (by omega) rfl) ?_;refine Rp (au a) (fun _=>fZ)<|Rd (v:=au v.o) (by rfl) (by rfl) (wm _) (fun G d=>bB (x:=bV v) rfl rfl (by kernel_rfl) (pO.kV d (by decide)).aI (i:=0) (by omega) (by omega) rfl) ?_;refine Rp (au a) (fun _=>fZ)<|Rp (pf p (a+21)) (fun _=>iY 6 1)<|Rd (v := .slice (m.ra a) (m.rn a) (m.rc a)) (by rfl) (by rfl) (wm _) (fun G d=>bB (x:=mX m) rfl rfl (by kernel_rfl) (yc.kV d (by decide)).aI (i:=a+21) (by omega) (by omega) (xu _ (by omega))) ?_;refine Rs (aC v.req) (aM pO.aI 12) ?_;refine Dw<|xY (vs := [(0,aC v.req)]) (s:=1) (zc:=rv .u64 (fun _=>0)) (y:=aZ (fun j=>(rv .u64 (fun _=>0)) (j % 1)) (0*1) 1 (fun _=>aC v.req)) (by rfl) rfl rfl Tryz.underlying63 (by kernel_rfl) (by rfl) (by rfl) (by kernel_rfl) (by rw[aR (off:=0*1) (s:=1) (y:=fun _=>aC v.req) rfl (cells_one (by rfl)) (by rfl)]; rfl) rfl fun g3 xU zF AO Ej z4 => ?_;have⟨Er,Cw,zZ,Cx,AP,yV,FU⟩:=jM Ej.old yc AL vR tu xC xD tC;have b15:=eP Ej.old b14 A;have Aj:=iT zF b14.size;have⟨aki,akj,akk⟩:=Ed zF yc.lt AL.lt pO.lt;have akl:(.slice (m.ra a) (m.rn a) (m.rc a):Value).ownBlock≠some g3:=by rw[zF]; exact tC.jo (A_ _)
  have J6:=AO.lt;refine Ln ⟨Fx.iA.of_below Ej.old,?_⟩;refine Dw<|yu (B:=B) (s:=1) (bytes:=8) (k:=(m.rn a)) (m:=1) (v := .slice (m.ra a) (m.rn a) (m.rc a)) (x:=rv .u64 (m.rq a)) (by rfl) rfl rfl rfl Tryz.underlying63 (by kernel_rfl) (by kernel_rfl) rfl rfl FU AO.aI (uI (fun _=>rfl)) (by omega) (by omega) (by omega) (m_ A b15.size) fun g4 C Dy ho1 hg1 sH hlt1 => ?_;have qc:=yJ hg1 FU;have⟨Cy,CB,Et,AQ,CF⟩:=rF qc Er Cw zZ AP yV;have GR:Fx.Own Dy B 28 1 (.slice (some ⟨g4,0,none⟩) ((m.rn a)+1) C) ((m.rn a)+1) (rv .u64 (aH (m.rq a) (m.rn a) v.req)):=(ho1.congr (fun j hj=>Po j hj));have b16:Below B w Dy:=yt b15 hg1 (m_ A b15.size) (fun q hq=>(FU.ge hq).1);have AU:xw Dy B 6 { m with ra:=aH m.ra a (some ⟨g4,0,none⟩),rn:=aH m.rn a (m.rn a+1),rc:=aH m.rc a C,rq:=aH m.rq a (aH (m.rq a) (m.rn a) v.req) }:=xw.app Cx ha rfl rfl rfl rfl GR hg1 sH;refine Ln ⟨qc,?_⟩;refine Rp (pf p (a+21)) (fun _=>iY 6 1)<|gQ<|jh Cy (a+21) (.slice (some ⟨g4,0,none⟩) ((m.rn a)+1) (C)) fun EI CO s15 z5 => ?_;have yQ:=gX s15 Cy.ty;have⟨CG,yg,yh,BI,JA⟩:=rF yQ CB Et AQ CF AU;have b17:=s15.below b16 (m_ A b16.size) (by omega);refine Ln<|bT<|ay<|av (au 0)<|aD<|Wr<|aJ (au 0) ?_;have L:aO v=a:=by unfold aO; omega
  have Y : ¬ 0<=m.core.lH (aO v) v.req:=by rw[L]; exact j_ S
  have ne2 : ¬ (m.core.grant v.o v.of<0\/m.core.g (Ap m.core v) 4≠0):=by rw[ab]; exact fun h=>h.elim aa (fun h=>h ae)
  have ew:mH m.core v=dn (fun x=>bK x v.o (m.g b 3)) (oK m.core (m.g b 2)) m.R K:=by unfold mH; rw[ab,show fG m.core.t m.core.tn (m.core.g b 2)=K from XO.symm]; rfl
  have H:iL m.core v=0:=by unfold iL; rw[b_ Y,b_ ne2,ew,hRK]
  have eW:mH m.core v=(Rk,0):=ew.trans hRK;refine⟨pF H.symm,b17,fun _=>⟨{ m with s := { m.s with ga:=m.s.ga,gn:=m.s.gn,gc:=m.s.gc },R:=Rk,g:=aH m.g b (aH (m.g b) 4 v.req),ra:=aH m.ra a (some ⟨g4,0,none⟩),rn:=aH m.rn a (m.rn a+1),rc:=aH m.rc a C,rq:=aH m.rq a (aH (m.rq a) (m.rn a) v.req) },?_,?_⟩⟩
  ·unfold kQ qN; rw[eW,L]; rw[ab]; rfl
  exact { c:=CO.to (K9 _ rfl _ _ _),n:=yh,g:=BI,tc:=CG,t:=yg,r:=JA,pB:=U1,tB:=Ep,bn:=bn,bg:=(by show m.s.gn<=1000000; omega),bt:=bt,br:=(fun i J=>by show aH m.rn a (m.rn a+1) i<=1000000; have:=brr i J; have:=brr a ha; unfold aH; split <;> omega) }
 refine Lv aG (nN ae)<|av aG<|aD<|aL<|ay<|av (au 12)<|aD<|Wr<|sR<|aJ (au 12) ?_;have L:aO v=a:=by unfold aO; omega
 have Y : ¬ 0<=m.core.lH (aO v) v.req:=by rw[L]; exact j_ S
 have H:iL m.core v=12:=by unfold iL; rw[b_ Y,ab]; exact d_ (.inr ae)
 exact⟨pF H.symm,b4,fun M=>by rw[H]at M; cases M⟩
namespace Rt
def xG(L:fI)(v:EvM):Int:=if L.node v.node<0 then 9 else if 140737488355328<L.R (L.node v.node).toNat (aO v)+v.aU then 6 else 0
def FX(L:fI)(v:EvM):fI := { L with R:=aH L.R (L.node v.node).toNat (upd (L.R (L.node v.node).toNat) (aO v) (L.R (L.node v.node).toNat (aO v)+v.aU)) }
def vU(L:fI)(v:EvM):(Nat->Int) × Int:=cK (L.R (L.node v.node).toNat) v.o v.dst v.aU
def ow(L:fI)(v:EvM):Int:=if L.node v.node<0 then 9 else if v.dst<1\/6<v.dst\/L.inn (v.dst-1).toNat=false then 10 else(vU L v).2
def AY(L:fI)(v:EvM):fI := { L with R:=aH L.R (L.node v.node).toNat (vU L v).1 }
noncomputable def dS(L:fI)(v:EvM):Int :=
 if v.kind=1 then kP L v else if v.kind=2 then xG L v else if v.kind=3 then iU L v else if v.kind=4 then iL L v else if v.kind=5 then ow L v else 0
def iM(L:fI)(v:EvM):fI :=
 if v.kind=1 then qL L v else if v.kind=2 then FX L v else if v.kind=3 then mG L v else if v.kind=4 then kQ L v else if v.kind=5 then AY L v
 else if v.kind=6 then { L with inn:=aH L.inn (v.dst-1).toNat true } else { L with left:=aH L.left (aO v) true }
theorem ND{n q a:Nat}{id par:Nat->Int}{R:Nat->Nat->Int}{x:Int} : ∀ i,i<n -> ∀ j,j<56->Fx.qG (fun b=>jQ (id b) (par b) (R b)) q (dD (jQ (id q) (par q) (R q)) (a+2) (au x)) i j=jQ (id i) (par i) (aH R q (upd (R q) a x) i) j:=fun i _ j _=>by
 unfold Fx.qG;by_cases h:i=q
 ·subst h; rw[d_ rfl,Pg rfl]; unfold aH; rw[d_ rfl]
 ·rw[b_ h]; unfold aH; rw[b_ h]
theorem YV(m:lV){i:Nat}(hi:i<6):dD (mX m) i (.bool true)=mX { m with s := { m.s with inn:=aH m.s.inn i true } }:=by
 funext p
 unfold dD mX;by_cases h:p=i
 ·subst h; rw[d_ rfl,d_ (by omega)]; unfold kK; rw[d_ hi]; simp[aH]
 rw[b_ h];by_cases a:p<20
 ·rw[d_ a,d_ a]; unfold kK;by_cases b:p<6
  ·rw[d_ b,d_ b]; simp[aH,h]
  rw[b_ b,b_ b]
 rw[b_ a,b_ a]
theorem Vf(m:lV){i q:Nat}(hi:i<6)(d:q=i+6):dD (mX m) q (.bool true)=mX { m with s := { m.s with left:=aH m.s.left i true } }:=by
 subst d
 funext p
 unfold dD mX;by_cases h:p=i+6
 ·subst h; rw[d_ rfl,d_ (by omega)]; unfold kK; rw[b_ (by omega),d_ (by omega)]; simp[aH]
 rw[b_ h];by_cases a:p<20
 ·rw[d_ a,d_ a]; unfold kK;by_cases b:p<6
  ·rw[d_ b,d_ b]
  rw[b_ b,b_ b];by_cases c:p<12
  ·rw[d_ c,d_ c]; simp[aH,show ¬ p-6=i by omega]
  rw[b_ c,b_ c]
 rw[b_ a,b_ a]
theorem Rj(m:lV){i q:Nat}(hi:i<6)(e:q=i+12)(x:Int):dD (mX m) q (aC x)=mX { m with s := { m.s with known:=aH m.s.known i x } }:=by
 subst e
 funext p
 unfold dD mX;by_cases h:p=i+12
 ·subst h; rw[d_ rfl,d_ (by omega)]; unfold kK; rw[b_ (by omega),b_ (by omega),d_ (by omega)]; simp[aH]
 rw[b_ h];by_cases a:p<20
 ·rw[d_ a,d_ a]; unfold kK;by_cases b:p<6
  ·rw[d_ b,d_ b]
  rw[b_ b,b_ b];by_cases c:p<12
  ·rw[d_ c,d_ c]
  rw[b_ c,b_ c];by_cases d:p<18
  ·rw[d_ d,d_ d]; simp[aH,show ¬ p-12=i by omega]
  rw[b_ d,b_ d]
 rw[b_ a,b_ a]
theorem jf{v:EvM}(h:bS v=true):1<=v.kind/\v.kind<=7:=by
 unfold bS at h;simp only[T_]at h;have a:=h.2;unfold dz at a;split at a; · omega
 split at a; · omega
 split at a; · omega
 split at a; · omega
 split at a; · omega
 split at a; · omega
 have:=h_ a; omega
theorem lI{v:EvM}(h:bS v=true)(c:v.kind=2\/v.kind=3\/v.kind=5):1<=v.aU/\v.aU<=1125899906842624:=by
 unfold bS at h;simp only[T_]at h;have a:=h.2;unfold dz at a;rw[b_ (by omega)]at a;have b:someE v=true->1<=v.aU/\v.aU<=1125899906842624:=fun h=>by unfold someE at h; simpa using h
 split at a; · exact b a
 split at a; · rw[T_]at a; exact b a.1
 rw[b_ (by omega)]at a;split at a; · rw[T_]at a; exact b a.1
 omega
theorem Ib{v:EvM}(h:bS v=true)(c:v.kind=6) : ∃ b:Nat,b<6/\v.dst=(b:Int)+1:=by
 unfold bS at h;simp only[T_]at h;have a:=h.2;unfold dz at a;rw[b_ (by omega),b_ (by omega),b_ (by omega),b_ (by omega),b_ (by omega),d_ c]at a;unfold kN at a;rw[T_]at a;exact fu a.1
end Rt
set_option maxRecDepth 20000 in
set_option maxHeartbeats 2000000 in
theorem adG(m:lV)(B p a:Nat)(v:EvM)(w:World)(S:wF w B p m)(H:B<=w.heap.size)(ha:a<6)(ho:v.o=(a:Int)+1)(bnn:m.s.nn<=900)(bgg:m.s.gn<=900000)(brr : ∀ i,i<6->m.rn i<=900000)(hTN : ∀ x,m.node x=bG m.t m.tn x)(hDx : ∀ x,∃ D,D<=1000/\bG m.t m.tn (bI m.t m.tn D x)<0)(hv:gU v)(hmay:bS v=true)(hR : ∀ k,k<m.s.nn->may (m.R k)=true) :
 Calls Tryz.prog 54 #[(pt p),.agg (aA 14 (bV v))] w fun e w'=>e = .returned (au (dS m.core v))/\Below B w w'/\(dS m.core v=0 -> ∃ m',m'.core=iM m.core v/\wF w' B p m'):=by
 have U1:=S.pB;have Ep:=S.tB;have bn:=S.bn;have bg:=S.bg;have bt:=S.bt;have hvt:=hv.dst;have hkr:=jf hmay;obtain⟨D,hD2,hD⟩:=hDx v.node;refine Kent Tryz.func54 152 ?_;refine ay<|rE fun I w1 lN W s1 z1 => ?_;have C:=bF s1.old S;have X:=eP s1.old (Below.refl B w) H;have tN:=iT lN (Below.refl B w).size;have uM:=W.lt;refine av (au 0)<|aD<|Ws<|ay<|av (pf I 8)<|Lv (.int .u8 (v.kind)) (aM W.aI 8)<|aD<|Wb<|ay ?_;by_cases F:v.kind=1
 ·refine Lv aG (eX F)<|av aG<|aD<|aL<|ay<|av (pt p)<|Lv (.agg (aA 14 (bV v))) (fJ W.aI 0)<|dQ (YF m B p a D v _ C (m_ H X.size) ha ho bnn hD hD2) _ rfl ?_;rintro w2 ⟨hb1,hr1⟩;have b2:Below B w w2:=X.trans hb1;refine av (au (kP m.core v))<|aD<|Wr<|bP<|sR<|aJ (au (kP m.core v)) ?_;have A:dS m.core v=kP m.core v:=by unfold dS; rw[d_ F]
  have ec:iM m.core v=qL m.core v:=by unfold iM; rw[d_ F]
  exact⟨pF A.symm,b2,fun E=>by rw[ec]; exact hr1 (A.symm.trans E)⟩
 refine Lv aF (fT F)<|av aF<|aD<|aK<|ay ?_;by_cases G:v.kind=2
 ·refine Lv aG (eX G)<|av aG<|aD<|aL<|Ws ?_;have aa:=C.c;have ac:=C.n;have ab:=C.g;have ae:=C.tc;have af:=C.t;have ad:=C.r;refine Wl<|av (pt p)<|av (pf I 9)<|Lv (aC v.node) (aM W.aI 9) ?_;have Nz:DF w1 p m := { c:=aa.aI,an:=ac.arr,ag:=ab.arr,tc:=ae.aI,at2:=af.arr,ar:=fun i hi=>(ad.1 i hi).arr,bn:=(by show m.s.nn<=1000000; omega),bg:=bg,bt:=(by show m.tn<=1000000; omega),br:=S.br };refine dQ (Jo m p v.node _ Nz) _ rfl ?_;intro w3 hb2;have⟨m3,m4,m5,m6,m7,m8,m9⟩:=jM hb2 W aa ac ab ae af ad;have b3:=eP hb2 X H;refine av (au (m.node v.node))<|aD<|Ws<|ay<|av (au (m.node v.node)) ?_;by_cases c23:(m.node v.node)<0
  ·refine Lv aG (gN c23)<|aD<|aL<|ay<|av (au 9)<|aD<|Wr<|sR<|bP<|sR<|aJ (au 9) ?_;have P:aO v=a:=(by unfold aO; omega);have A:dS m.core v=9:=(by unfold dS; rw[b_ F,d_ G]; unfold xG; exact d_ c23);exact⟨pF A.symm,b3,fun E=>by rw[A]at E; cases E⟩
  obtain⟨d,hkq,V,_⟩:=EN (m:=m) (x:=v.node) (by omega);have V:m.node v.node=(d:Int):=V;have ekN:(m.core.node v.node).toNat=d:=by show(m.node v.node).toNat=d; rw[V]; rfl
  refine Lv aF (gP c23)<|aD<|aK<|Wk<|sN<|Ws<|Ws ?_;have hRb:=gH (hR d hkq) a (by omega);have hab:=lI hmay (.inl G);refine yN<|aX (pt p)<|aX (pt p)<|aX (pt p)<|aX (pf p 18)<|Qv (.slice m.s.na (m.s.nn) (m.s.nc)) (fun l f=>aM (m4.aI.dr f) 18)<|eB (L_ (Value.int .i64) V)<|aX (pt I)<|Qv (au v.o) (fun l f=>aM (m3.aI.dr f) 0)<|Qv (au a) (fun l f=>fZ) ?_;obtain⟨Q,eq1⟩:=m5.addr (by omega);have m10:Fx.Own w3 B 61 56 (bO Q m.s.nn m.s.nc) m.s.nn (J8 m):=m5.eH (L_ (fun q=>Value.slice q m.s.nn m.s.nc) eq1);refine Qv (pf Q (56*d)) (fun l f=>dh 56 (hx:=(rfl.trans (L_ (fun q=>Value.slice q (m.s.nn) (m.s.nc)) eq1))))<|aX (pf Q (56*d+2))<|aX (pf Q (56*d+2))<|Qv (pf Q (a+56*d+2)) (fun l f=>iY 6 1)<|Qv (au ((m.R d) a)) (fun l f=>aM (m10.aI.dr f) (a+56*d+2) (Fx.gy (k:=d) (j:=a+2) (by omega) (by omega) (UO _ _ _ (by omega))))<|aX (pf I 11)<|Qv (au v.aU) (fun l f=>aM (m3.aI.dr f) 11)<|Qv (au (((m.R d) a)+v.aU)) (fun l f=>eU) ?_;by_cases c41:140737488355328<(((m.R d) a)+v.aU)
  ·refine Qv aG (fun l f=>mK c41)<|Qn ?_;rintro _ ⟨L,rfl⟩;obtain⟨Em,sV⟩ : ∃ l,l=World.drewN w3 L:=⟨_,rfl⟩;rw[<- sV];have s3:Stp w3.heap.size w3 Em:=(by rw[sV]; exact Sb (jS w3 L));have b4:=eP s3.old b3 H;clear sV;refine sN<|aL<|ay<|av (au 6)<|aD<|Wr<|sR<|bP<|sR<|aJ (au 6) ?_;have P:aO v=a:=(by unfold aO; omega);have A:dS m.core v=6:=(by unfold dS; rw[b_ F,d_ G]; unfold xG; rw[ekN,P,b_ (show ¬ m.core.node v.node<0 from c23)]; exact d_ c41);exact⟨pF A.symm,b4,fun E=>by rw[A]at E; cases E⟩
  refine Qv aF (fun l f=>mM c41)<|Qn ?_;rintro _ ⟨L,rfl⟩;obtain⟨wq2,xA⟩ : ∃ l,l=World.drewN w3 L:=⟨_,rfl⟩;rw[<- xA];have s4:Stp w3.heap.size w3 wq2:=by rw[xA]; exact Sb (jS w3 L)
  have⟨m18,m19,m20,m21,m22,m23,m24⟩:=jM s4.old m3 m4 m6 m7 m8 m9 m10;have b5:=eP s4.old b3 H;clear xA;refine sN<|aK<|Wk<|sN ?_;refine kJ [0,1,2,3,5,6,14,4,9,10,11,17,18,19,7,8,12,13,15,16,20,21] [0,0,0,0,4,0,0,4,0,0,0,0,0,4,0,4,0,0,0,0,0,3] [(21,4,[4]),(21,7,[7]),(21,13,[13]),(21,15,[15])] fun rG dZ iJ => ?_;have⟨nP,oG,nY,nZ,oH,pG,nA⟩:=jM dZ m18 m19 m20 m21 m22 m23 m24;have b6:=eP dZ b5 H;refine bf (pt p)<|bf (pt p)<|bf (pt p)<|bf (pf p 18)<|bW (L_ (Value.int .i64) V)<|bf (pt I)<|bf (pf I 11)<|Rs (.slice m.s.na (m.s.nn) (m.s.nc)) (aM oG.aI 18) ?_;refine Rp (pf Q (56*d)) (fun _=>dh 56 (hx:=(rfl.trans (L_ (fun q=>Value.slice q (m.s.nn) (m.s.nc)) eq1))))<|bf (pf Q (56*d+2))<|bf (pf Q (56*d+2))<|Rp (pf Q (56*d)) (fun _=>dh 56 (hx:=(rfl.trans (L_ (fun q=>Value.slice q (m.s.nn) (m.s.nc)) eq1))))<|bf (pf Q (56*d+2))<|bf (pf Q (56*d+2))<|Rs (au v.o) (aM nP.aI 0) ?_;refine Rp (au a) (fun _=>fZ)<|Rp (pf Q (a+56*d+2)) (fun _=>iY 6 1)<|Rs (au ((m.R d) a)) (aM nA.aI (a+56*d+2) (Fx.gy (k:=d) (j:=a+2) (by omega) (by omega) (UO _ _ _ (by omega)))) ?_;refine Rs (au v.aU) (aM nP.aI 11) ?_;refine Rp (au (((m.R d) a)+v.aU)) (fun _=>eU)<|Rp (pf Q (a+56*d+2)) (fun _=>iY 6 1)<|gQ<|qB nA (a+56*d+2) (au (((m.R d) a)+v.aU)) fun w4 m32 s6 z2 => ?_;have gD:=gX s6 nA.Kk;have⟨oO,qh,qH,nS,rU⟩:=rF gD oG nY nZ oH pG;have b7:=s6.below b6 (m_ H b6.size) nA.blk.1;have pV:Fx.Own w4 B 61 56 (bO Q m.s.nn m.s.nc) m.s.nn (flat 56 (fun O=>jQ (m.id O) (m.par O) (aH m.R d (upd (m.R d) a (((m.R d) a)+v.aU)) O))):=m32.congr (fun pq hp=>(Fx.He (k:=d) (j:=a+2) (by omega) (by omega) pq hp).trans (bM (fun i hi j hj=>ND (a:=a) (x:=((m.R d) a)+v.aU) (q:=d) (id:=m.id) (par:=m.par) (R:=m.R) i hi j hj) pq hp));refine Ln<|Rn<|bR<|sN<|ay<|av (au 0)<|aD<|Wr<|aJ (au 0) ?_;have P:aO v=a:=by unfold aO; omega
  have sJ:Fx.Own w4 B 61 56 (.slice m.s.na (m.s.nn) (m.s.nc)) m.s.nn (flat 56 (fun O=>jQ (m.id O) (m.par O) (aH m.R d (upd (m.R d) a (((m.R d) a)+v.aU)) O))):=pV.eH (L_ (fun q=>Value.slice q m.s.nn m.s.nc) eq1.symm);have A:dS m.core v=0:=by unfold dS; rw[b_ F,d_ G]; unfold xG; rw[ekN,P,b_ (show ¬ m.core.node v.node<0 from c23)]; exact b_ c41
  refine⟨pF A.symm,b7,fun _=>⟨{ m with R:=aH m.R d (upd (m.R d) a (m.R d a+v.aU)) },by symm; unfold iM; rw[b_ F,d_ G]; unfold FX; rw[ekN,P]; rfl,?_⟩⟩;exact { c:=oO,n:=sJ,g:=qh,tc:=qH,t:=nS,r:=rU,pB:=U1,tB:=Ep,bn:=bn,bg:=bg,bt:=bt,br:=S.br }
 refine Lv aF (fT G)<|av aF<|aD<|aK<|ay ?_;by_cases K:v.kind=3
 ·refine Lv aG (eX K)<|av aG<|aD<|aL<|ay<|av (pt p)<|Lv (.agg (aA 14 (bV v))) (fJ W.aI 0)<|dQ (YN m B p a D v _ C (m_ H X.size) ha ho bgg brr hTN hD hD2) _ rfl ?_;rintro w5 ⟨hb3,hr2⟩;have b8:Below B w w5:=X.trans hb3;refine av (au (iU m.core v))<|aD<|Wr<|bP<|sR<|aJ (au (iU m.core v)) ?_;have A:dS m.core v=iU m.core v:=by unfold dS; rw[b_ F,b_ G,d_ K]
  have ec:iM m.core v=mG m.core v:=by unfold iM; rw[b_ F,b_ G,d_ K]
  exact⟨pF A.symm,b8,fun E=>by rw[ec]; exact hr2 (A.symm.trans E)⟩
 refine Lv aF (fT K)<|av aF<|aD<|aK<|ay ?_;by_cases N:v.kind=4
 ·refine Lv aG (eX N)<|av aG<|aD<|aL<|ay<|av (pt p)<|Lv (.agg (aA 14 (bV v))) (fJ W.aI 0)<|dQ (YU m B p a  v _ C (m_ H X.size) ha ho bgg brr hTN hDx) _ rfl ?_;rintro w6 ⟨hb4,hr3⟩;have J:Below B w w6:=X.trans hb4;refine av (au (iL m.core v))<|aD<|Wr<|bP<|sR<|aJ (au (iL m.core v)) ?_;have A:dS m.core v=iL m.core v:=by unfold dS; rw[b_ F,b_ G,b_ K,d_ N]
  have ec:iM m.core v=kQ m.core v:=by unfold iM; rw[b_ F,b_ G,b_ K,d_ N]
  exact⟨pF A.symm,J,fun E=>by rw[ec]; exact hr3 (A.symm.trans E)⟩
 refine Lv aF (fT N)<|av aF<|aD<|aK<|ay ?_;by_cases U:v.kind=5
 ·refine Lv aG (eX U)<|av aG<|aD<|aL<|Ws ?_;have aa:=C.c;have ac:=C.n;have ab:=C.g;have ae:=C.tc;have af:=C.t;have ad:=C.r;refine Wl<|av (pt p)<|av (pf I 9)<|Lv (aC v.node) (aM W.aI 9) ?_;have Va:DF w1 p m := { c:=aa.aI,an:=ac.arr,ag:=ab.arr,tc:=ae.aI,at2:=af.arr,ar:=fun i hi=>(ad.1 i hi).arr,bn:=(by show m.s.nn<=1000000; omega),bg:=bg,bt:=(by show m.tn<=1000000; omega),br:=S.br };refine dQ (Jo m p v.node _ Va) _ rfl ?_;intro M hb5;have⟨nJ,mJ,nC,sK,rJ,og,qV⟩:=jM hb5 W aa ac ab ae af ad;have b10:=eP hb5 X H;refine av (au (m.node v.node))<|aD<|Ws<|ay<|av (au (m.node v.node)) ?_;by_cases c80:(m.node v.node)<0
  ·refine Lv aG (gN c80)<|aD<|aL<|ay<|av (au 9)<|aD<|Wr<|sR<|bP<|sR<|aJ (au 9) ?_;have P:aO v=a:=(by unfold aO; omega);have A:dS m.core v=9:=(by unfold dS; rw[b_ F,b_ G,b_ K,b_ N,d_ U]; unfold ow; exact d_ c80);exact⟨pF A.symm,b10,fun E=>by rw[A]at E; cases E⟩
  obtain⟨d,hkq,V,_⟩:=EN (m:=m) (x:=v.node) (by omega);have V:m.node v.node=(d:Int):=V;have ekN:(m.core.node v.node).toNat=d:=by show(m.node v.node).toNat=d; rw[V]; rfl
  refine Lv aF (gP c80)<|aD<|aK<|Wk<|sN<|Ws<|Ws ?_;refine yN<|aX (pf I 10)<|Qv (au v.dst) (fun l f=>aM (nJ.aI.dr f) 10) ?_;by_cases c83:v.dst<1
  ·refine Qv aG (fun l f=>gN c83)<|aX aG<|aQ<|aQ<|aQ<|aX aG<|aX aG<|aQ<|aQ<|aQ<|aQ<|aQ<|aQ<|aQ<|aQ<|aQ<|aQ<|aX aG<|Qn ?_;rintro _ ⟨L,rfl⟩;obtain⟨wq3,FV⟩ : ∃ l,l=World.drewN M L:=⟨_,rfl⟩;rw[<- FV];have s8:Stp M.heap.size M wq3:=(by rw[FV]; exact Sb (jS M L));have b11:=eP s8.old b10 H;clear FV;refine sN<|aL<|ay<|av (au 10)<|aD<|Wr<|sR<|bP<|sR<|aJ (au 10) ?_;have P:aO v=a:=(by unfold aO; omega);have A:dS m.core v=10:=(by unfold dS; rw[b_ F,b_ G,b_ K,b_ N,d_ U]; unfold ow; rw[b_ (show ¬ m.core.node v.node<0 from c80)]; exact d_ (.inl c83));exact⟨pF A.symm,b11,fun E=>by rw[A]at E; cases E⟩
  refine Qv aF (fun l f=>gP c83)<|aX aF<|aX (pf I 10)<|Qv (au v.dst) (fun l f=>aM (nJ.aI.dr f) 10) ?_;by_cases c87:6<v.dst
  ·refine Qv aG (fun l f=>mK c87)<|aX aG<|aX aG<|aQ<|aQ<|aQ<|aQ<|aQ<|aQ<|aQ<|aQ<|aQ<|aQ<|aX aG<|Qn ?_;rintro _ ⟨L,rfl⟩;obtain⟨wq4,FW⟩ : ∃ l,l=World.drewN M L:=⟨_,rfl⟩;rw[<- FW];have s9:Stp M.heap.size M wq4:=(by rw[FW]; exact Sb (jS M L));have b12:=eP s9.old b10 H;clear FW;refine sN<|aL<|ay<|av (au 10)<|aD<|Wr<|sR<|bP<|sR<|aJ (au 10) ?_;have P:aO v=a:=(by unfold aO; omega);have A:dS m.core v=10:=(by unfold dS; rw[b_ F,b_ G,b_ K,b_ N,d_ U]; unfold ow; rw[b_ (show ¬ m.core.node v.node<0 from c80)]; exact d_ (.inr (.inl c87)));exact⟨pF A.symm,b12,fun E=>by rw[A]at E; cases E⟩
  obtain⟨J,XL,eb9⟩ : ∃ b:Nat,b<6/\v.dst=(b:Int)+1:=⟨(v.dst-1).toNat,by omega,by omega⟩;refine Qv aF (fun l f=>mM c87)<|aX aF<|aX aF<|aX (pt p)<|aX (pf I 10)<|Qv (au v.dst) (fun l f=>aM (nJ.aI.dr f) 10)<|Qv (au J) (fun l f=>fZ)<|aX (pt p)<|aX (pt p)<|aX (pt p)<|Qv (pf p J) (fun l f=>iY 6 1) ?_;by_cases c98:(m.s.inn J)=true
  ·refine Qv aG (fun l f=>aM (mJ.aI.dr f) J ((mF _ (by omega) (Cu _ (by omega))).trans (L_ Value.bool c98)))<|aX aF<|aX aF<|Qn ?_;rintro _ ⟨L,rfl⟩;obtain⟨wq5,NA⟩ : ∃ l,l=World.drewN M L:=⟨_,rfl⟩;rw[<- NA];have s10:Stp M.heap.size M wq5:=(by rw[NA]; exact Sb (jS M L));have⟨oh,tX,m64,wV,wB,wW,wX⟩:=jM s10.old nJ mJ nC sK rJ og qV;have b13:=eP s10.old b10 H;clear NA;refine sN<|aK<|Wk<|sN<|Ws ?_;obtain⟨Z,Jz⟩:=m64.addr (by omega);have sM:Fx.Own wq5 B 61 56 (bO Z m.s.nn m.s.nc) m.s.nn (J8 m):=m64.eH (L_ (fun q=>Value.slice q m.s.nn m.s.nc) Jz);refine qE (T:=59) (T':=59) (a := .tmp 7) (v := .tmp 118) (m:=54) (z:=rv .i64 (fun _=>0)) (y:=rv .i64 ((cK (m.R d) v.o v.dst v.aU).1)) (u := .agg (aA 54 (rv .i64 ((cK (m.R d) v.o v.dst v.aU).1)))) 19 20 (List.replicate 22 (0,2,[],[])) #[(pt p),(pt p),(pt p),(pf p 18),.slice m.s.na (m.s.nn) (m.s.nc),au (d:Int),(pf Z (56*d)),(pf Z (56*d+2)),.agg (aA 54 (rv .i64 (m.R d))),(pt I),au v.o,(pf I 10),au v.dst,(pf I 11),au v.aU,.tuple #[.agg (aA 54 (rv .i64 ((cK (m.R d) v.o v.dst v.aU).1))),au ((cK (m.R d) v.o v.dst v.aU).2)],.tuple #[.agg (aA 54 (rv .i64 ((cK (m.R d) v.o v.dst v.aU).1))),au ((cK (m.R d) v.o v.dst v.aU).2)],.agg (aA 54 (rv .i64 ((cK (m.R d) v.o v.dst v.aU).1))),au ((cK (m.R d) v.o v.dst v.aU).2),undef,undef,au ((cK (m.R d) v.o v.dst v.aU).2)] (by kernel_rfl) (by kernel_rfl) (by kernel_rfl) (by kernel_rfl) (by kernel_rfl) (by kernel_rfl) rfl (by kernel_rfl) rfl rfl (by kernel_rfl) (fun Y=>(show ev _ (.tmp 7)=(pt Y)from by kernel_rfl)) (fun Y=>(show ev _ (.tmp 118) = .agg (aA 54 (rv .i64 ((cK (m.R d) v.o v.dst v.aU).1)))from by kernel_rfl)) (bD _ _) (fun _ _=>rfl) (by kernel_rfl) (fun Y => ?_) ?_
   ·refine⟨?_,?_,?_,?_,?_,?_,?_,?_,?_,?_,?_,?_,?_,?_,?_,?_,?_,?_,?_,?_,?_,?_,trivial⟩
    ·exact .inr (.inr oF)
    ·exact .inr (.inr oF)
    ·exact .inr (.inr oF)
    ·exact .inr (.inr oF)
    ·exact .inr (.inr (lY (.slice m.s.na (m.s.nn) (m.s.nc)) fun l f=>bB (x:=mX m) rfl (show ev _ (.tmp 105)=(pf p 18)from by kernel_rfl) (by kernel_rfl) (tX.aI.below f (by have:=tX.lt; omega)) (i:=18) (by omega) (by omega) rfl))
    ·exact .inr (.inr (lY (au d) fun l f=>dO rfl ((bH (by kernel_rfl)).trans (L_ (Value.int .i64) V))))
    ·exact .inr (.inr (lY (pf Z (56*d)) fun l f=>dX rfl ((show ev _ (.tmp 106) = .slice m.s.na (m.s.nn) (m.s.nc)from by kernel_rfl).trans (L_ (fun q=>Value.slice q (m.s.nn) (m.s.nc)) Jz)) (show ev _ (.tmp 107)=au (d:Int)from by kernel_rfl) Tryz.underlying50 (s:=56) (by kernel_rfl) (by omega) (by omega) (by omega)))
    ·exact .inr (.inr oF)
    ·exact .inr (.inr (lY (.agg (aA 54 (rv .i64 (m.R d)))) fun l f=>fC (x:=J8 m) (y:=rv .i64 (m.R d)) rfl (show ev _ (.tmp 109)=(pf Z (56*d+2))from by kernel_rfl) (by kernel_rfl) (by kernel_rfl) (sM.aI.below f (by have:=sM.lt; omega)) (i:=56*d+2) (by omega) (by omega) (fun jq hjq=>(Fx.jG (k:=d) (j:=2+jq) (by omega) (by omega)).trans ((fun jq _=>BG _ _ _ jq) jq hjq))))
    ·exact .inr (.inr oF)
    ·exact .inr (.inr (lY (au v.o) fun l f=>bB (x:=bV v) rfl (show ev _ (.tmp 111)=(pt I)from by kernel_rfl) (by kernel_rfl) (oh.aI.below f (by have:=oh.lt; omega)) (i:=0) (by omega) (by omega) rfl))
    ·exact .inr (.inr oF)
    ·exact .inr (.inr (lY (au v.dst) fun l f=>bB (x:=bV v) rfl (show ev _ (.tmp 113)=(pf I 10)from by kernel_rfl) (by kernel_rfl) (oh.aI.below f (by have:=oh.lt; omega)) (i:=10) (by omega) (by omega) rfl))
    ·exact .inr (.inr oF)
    ·exact .inr (.inr (lY (au v.aU) fun l f=>bB (x:=bV v) rfl (show ev _ (.tmp 115)=(pf I 11)from by kernel_rfl) (by kernel_rfl) (oh.aI.below f (by have:=oh.lt; omega)) (i:=11) (by omega) (by omega) rfl))
    ·exact .inr (.inr (Fx.yI (v := .tuple #[.agg (aA 54 (rv .i64 ((cK (m.R d) v.o v.dst v.aU).1))),au ((cK (m.R d) v.o v.dst v.aU).2)]) (by kernel_rfl) (by kernel_rfl) (Fx.qbC (fun l f=>rC (args := [.agg (aA 54 (rv .i64 (m.R d))),au v.o,au v.dst,au v.aU]) rfl (Fx.Sq (show ev _ (.tmp 110) = .agg (aA 54 (rv .i64 (m.R d)))from by kernel_rfl) (show ev _ (.tmp 112)=au v.o from by kernel_rfl) (show ev _ (.tmp 114)=au v.dst from by kernel_rfl) (show ev _ (.tmp 116)=au v.aU from by kernel_rfl)) Tryz.func81 rfl rfl) (fun l f=>(YM (m.R d) v.o v.dst v.aU _).mono fun e v2 h=>⟨h.1,h.2⟩))))
    ·exact .inr (.inr oF)
    ·exact .inr (.inr oF)
    ·exact .inr (.inr oF)
    ·exact .inl rfl
    ·exact .inr (.inl rfl)
    exact .inr (.inr oF)
   rintro Y w8 f1 hf1 qW uY hb6;have aoA:I≠Y:=u_ (n_ (oh.lt) qW);have adE:p≠Y:=u_ (n_ (tX.lt) qW);have aoB:m.tb≠Y:=u_ (n_ (wB.lt) qW);have aoC:Z≠Y:=u_ (n_ (sM.lt) qW);have⟨wC,uZ,yx,wD,yA,yB⟩:=tT hb6 tX wV wB wW wX sM;have b14:=eP hb6 b13 H;have qW:w.heap.size<=Y:=m_ b13.size qW;have zY:=uY.lt;have q1:f1 0=(pt p):=(by rw[hf1]; kernel_rfl);have q3:f1 6=au (d:Int):=(by rw[hf1]; exact(bH (by kernel_rfl)).trans (L_ (Value.int .i64) V));have q4:f1 7=(pt Y):=(by rw[hf1]; kernel_rfl);have q5:f1 8=au ((cK (m.R d) v.o v.dst v.aU).2):=(by rw[hf1]; kernel_rfl);clear hf1;refine sN<|Ws<|ay<|aT q5 ?_;by_cases YW:((cK (m.R d) v.o v.dst v.aU).2)=0
   ·refine Lv aF (ko YW)<|aD<|aK<|Wk<|sN ?_;refine kJ [0,1,2,3,5,4,6,7,8,9] [0,0,0,0,4,0,4,0,0,3] [(9,4,[4]),(9,6,[6])] fun Dx gI nX => ?_;have⟨wY,wE,vg,vN,yR,xV,AA⟩:=jM gI wC uZ yx wD yA yB uY;have b15:=eP gI b14 H;refine bW q1<|bf (pt p)<|bf (pt p)<|bf (pf p 18)<|bW q3<|Rs (.slice m.s.na (m.s.nn) (m.s.nc)) (aM wY.aI 18) ?_;refine Rs (.agg (aA 54 (rv .i64 ((cK (m.R d) v.o v.dst v.aU).1)))) (fJ AA.aI 0 (ha:=q4)) ?_;refine Rp (pf Z (56*d)) (fun _=>dh 56 (hx:=(rfl.trans (L_ (fun q=>Value.slice q (m.s.nn) (m.s.nc)) Jz))))<|bf (pf Z (56*d+2))<|gQ<|Ay xV (56*d+2) fun w9 zW s13 z3 => ?_;have jv:=gX s13 xV.Kk;have⟨yS,zD,Al,Dz,Cc⟩:=rF jv wY wE vg vN yR;have b16:=s13.below b15 (m_ H b15.size) xV.blk.1;have Bg:Fx.Own w9 B 61 56 (bO Z m.s.nn m.s.nc) m.s.nn (flat 56 (fun O=>jQ (m.id O) (m.par O) (aH m.R d ((cK (m.R d) v.o v.dst v.aU).1) O))):=zW.congr (fun pq hp=>(Fx.Ci (k:=d) (j:=2) (by omega) (by omega) pq hp).trans (bM (fun i hi j hj=>CJ (r:=(cK (m.R d) v.o v.dst v.aU).1) (q:=d) (id:=m.id) (par:=m.par) (R:=m.R) i hi j hj) pq hp));refine Ln<|Rn<|bR<|sN<|ay<|av (au 0)<|aD<|Wr<|aJ (au 0) ?_;have P:aO v=a:=(by unfold aO; omega);have eto : ¬ (v.dst<1\/6<v.dst\/m.core.inn (v.dst-1).toNat=false):=fun h=>h.elim c83 (fun h=>h.elim c87 (fun h=>by rw[show(v.dst-1).toNat=J by omega]at h; rw[show m.core.inn J=true from c98]at h; cases h))
    have eW:vU m.core v=cK (m.R d) v.o v.dst v.aU:=(by unfold vU; rw[ekN]; rfl);have yE:Fx.Own w9 B 61 56 (.slice m.s.na (m.s.nn) (m.s.nc)) m.s.nn (flat 56 (fun O=>jQ (m.id O) (m.par O) (aH m.R d ((cK (m.R d) v.o v.dst v.aU).1) O))):=Bg.eH (L_ (fun q=>Value.slice q m.s.nn m.s.nc) Jz.symm);have A:dS m.core v=0:=(by unfold dS; rw[b_ F,b_ G,b_ K,b_ N,d_ U]; unfold ow; rw[b_ (show ¬ m.core.node v.node<0 from c80),b_ eto,eW]; exact YW);refine⟨pF A.symm,b16,fun _=>⟨{ m with R:=aH m.R d (cK (m.R d) v.o v.dst v.aU).1 },by symm; unfold iM; rw[b_ F,b_ G,b_ K,b_ N,d_ U]; unfold AY; rw[ekN,eW]; rfl,?_⟩⟩;exact { c:=yS,n:=yE,g:=zD,tc:=Al,t:=Dz,r:=Cc,pB:=U1,tB:=Ep,bn:=bn,bg:=bg,bt:=bt,br:=S.br }
   refine Lv aG (nN YW)<|aD<|aL<|ay<|aT q5<|av (au ((cK (m.R d) v.o v.dst v.aU).2))<|aD<|Wr<|sR<|bP<|sR<|aJ (au ((cK (m.R d) v.o v.dst v.aU).2)) ?_;have P:aO v=a:=(by unfold aO; omega);have eto : ¬ (v.dst<1\/6<v.dst\/m.core.inn (v.dst-1).toNat=false):=fun h=>h.elim c83 (fun h=>h.elim c87 (fun h=>by rw[show(v.dst-1).toNat=J by omega]at h; rw[show m.core.inn J=true from c98]at h; cases h))
   have eW:vU m.core v=cK (m.R d) v.o v.dst v.aU:=(by unfold vU; rw[ekN]; rfl);have A:dS m.core v=(cK (m.R d) v.o v.dst v.aU).2:=(by unfold dS; rw[b_ F,b_ G,b_ K,b_ N,d_ U]; unfold ow; rw[b_ (show ¬ m.core.node v.node<0 from c80),b_ eto,eW]);exact⟨pF A.symm,b14,fun E=>by rw[A]at E; exact M_ E YW⟩
  rw[U_]at c98;refine Qv aF (fun l f=>aM (mJ.aI.dr f) J ((mF _ (by omega) (Cu _ (by omega))).trans (L_ Value.bool c98)))<|aX aG<|aX aG<|Qn ?_;rintro _ ⟨L,rfl⟩;obtain⟨wq6,adI⟩ : ∃ l,l=World.drewN M L:=⟨_,rfl⟩;rw[<- adI];have Ej:Stp M.heap.size M wq6:=by rw[adI]; exact Sb (jS M L)
  have b17:=eP Ej.old b10 H;clear adI;refine sN<|aL<|ay<|av (au 10)<|aD<|Wr<|sR<|bP<|sR<|aJ (au 10) ?_;have P:aO v=a:=by unfold aO; omega
  have A:dS m.core v=10:=by unfold dS; rw[b_ F,b_ G,b_ K,b_ N,d_ U]; unfold ow; rw[b_ (show ¬ m.core.node v.node<0 from c80)]; exact d_ (.inr (.inr (by rw[show(v.dst-1).toNat=J by omega]; exact c98)))
  exact⟨pF A.symm,b17,fun E=>by rw[A]at E; cases E⟩
 refine Lv aF (fT U)<|av aF<|aD<|aK<|ay ?_;by_cases Vg:v.kind=6
 ·refine Lv aG (eX Vg)<|av aG<|aD<|aL ?_;have aa:=C.c;have ac:=C.n;have ab:=C.g;have ae:=C.tc;have af:=C.t;have ad:=C.r;obtain⟨J,XL,eb9⟩:=Ib hmay Vg;refine kJ [0,1,4,5,6,2,3,7,8] [0,0,4,0,0,0,0,0,3] [(8,2,[2])] fun R8 lZ BA => ?_;have⟨rM,oI,ou,pK,oJ,ql,qM⟩:=jM lZ W aa ac ab ae af ad;have b18:=eP lZ X H;refine bf (pt p)<|bf (pf I 10)<|bf (pt p)<|bf (pt p)<|bf (pt p)<|Rs (au v.dst) (aM rM.aI 10) ?_;refine Rp (au J) (fun _=>fZ)<|Rp (pf p J) (fun _=>iY 6 1)<|gQ<|jh oI J aG fun sI tZ s16 z4 => ?_;have qc:=gX s16 oI.ty;have⟨sZ,xZ,uf,yc,AL⟩:=rF qc ou pK oJ ql qM;have b19:=s16.below b18 (m_ H b18.size) (by omega);refine Ln<|Rn<|bR<|sN<|ay<|av (au 0)<|aD<|Wr<|aJ (au 0) ?_;have P:aO v=a:=by unfold aO; omega
  have A:dS m.core v=0:=by unfold dS; rw[b_ F,b_ G,b_ K,b_ N,b_ U]
  refine⟨pF A.symm,b19,fun _=>⟨{ m with s := { m.s with inn:=aH m.s.inn J true } },by symm; unfold iM; rw[b_ F,b_ G,b_ K,b_ N,b_ U,d_ Vg]; rw[show(v.dst-1).toNat=J by omega]; rfl,?_⟩⟩;exact { c:=tZ.to (YV m XL),n:=sZ,g:=xZ,tc:=uf,t:=yc,r:=AL,pB:=U1,tB:=Ep,bn:=bn,bg:=bg,bt:=bt,br:=S.br }
 refine Lv aF (fT Vg)<|av aF<|aD<|aK<|ay<|Lv aG aau<|av aG<|aD<|aL ?_;have aa:=C.c;have ac:=C.n;have ab:=C.g;have ae:=C.tc;have af:=C.t;have ad:=C.r;refine kJ [0,1,4,5,6,2,3,7,8] [0,0,4,0,0,0,0,0,3] [(8,2,[2])] fun wt4 qU Hw => ?_;have⟨vR,tu,pO,xC,xD,tC,AO⟩:=jM qU W aa ac ab ae af ad;have b20:=eP qU X H;refine bf (pt p)<|bf (pt I)<|bf (pt p)<|bf (pt p)<|bf (pf p 6)<|Rs (au v.o) (aM vR.aI 0) ?_;refine Rp (au a) (fun _=>fZ)<|Rp (pf p (a+6)) (fun _=>iY 6 1)<|gQ<|jh tu (a+6) aG fun xU Er MI z5 => ?_;have yQ:=gX MI tu.ty;have⟨zZ,Cx,Es,AP,yV⟩:=rF yQ pO xC xD tC AO;have KH:=MI.below b20 (m_ H b20.size) (by omega);refine Ln<|Rn<|bR<|sN<|ay<|av (au 0)<|aD<|Wr<|aJ (au 0) ?_;have P:aO v=a:=by unfold aO; omega
 have A:dS m.core v=0:=by unfold dS; rw[b_ F,b_ G,b_ K,b_ N,b_ U]
 refine⟨pF A.symm,KH,fun _=>⟨{ m with s := { m.s with left:=aH m.s.left a true } },by symm; unfold iM; rw[b_ F,b_ G,b_ K,b_ N,b_ U,b_ Vg]; rw[P]; rfl,?_⟩⟩;exact { c:=Er.to (Vf m ha rfl),n:=zZ,g:=Cx,tc:=Es,t:=AP,r:=yV,pB:=U1,tB:=Ep,bn:=bn,bg:=bg,bt:=bt,br:=S.br }
namespace Rt
structure adJ(L:fI)(T:Nat):Prop where
 nn:L.nn<=33
 gn:L.gn<=T
 rn : ∀ i,i<6->L.rn i<=T
 tn : ∀ x,L.node x=bG L.t L.tn x
 dx : ∀ x,∃ D,D<=1000/\bG L.t L.tn (bI L.t L.tn D x)<0
 may : ∀ k,k<L.nn->may (L.R k)=true
 kn:El L.known
open Classical in
noncomputable def bQ(L:fI)(v:EvM):Int :=
 if bS v=false then 1 else if mR L.known v=true then 14 else if dI L.known v=false then 13 else if L.inn (aO v)=false\/L.left (aO v)=true then 10 else dS L v
def DR(L:fI)(v:EvM):fI := { L with known:=aH L.known (aO v) (L.known (aO v)+1) }
open Classical in
noncomputable def dH(L:fI)(v:EvM):fI:=if bQ L v=0 then DR (iM L v) v else L
theorem qo(L:fI)(v:EvM):(iM L v).known=L.known:=by
 unfold iM;split; · unfold qL; rfl
 split; · unfold FX; rfl
 split; · unfold mG qN; rfl
 split; · unfold kQ qN; rfl
 split; · unfold AY; rfl
 split <;> rfl
end Rt
set_option maxRecDepth 20000 in
set_option maxHeartbeats 2000000 in
theorem Pp(m:lV)(B p T:Nat)(v:EvM)(w:World)(L:wF w B p m)(z:gU v)(I:adJ m.core T)(hT:T<=900000) :
 Calls Tryz.prog 25 #[(pt p),.agg (aA 14 (bV v))] w fun e w' => ∃ p' m',e = .returned (.tuple #[(pt p'),au (bQ m.core v)])/\m'.core=dH m.core v/\wF w' B p' m'/\Below w.heap.size w w':=by
 have O:=L.c;have lpp:=O.lt;refine Kent Tryz.func25 73 ?_;refine ay<|rE fun g1 w1 lN U s1 z1 => ?_;have⟨F,d,Y⟩:=jr s1.old L O (Below.refl w.heap.size w);have uM:=U.lt;refine av (.pointer none)<|av (au 0)<|aD<|Ws<|ay<|Lv (.agg (aA 14 (bV v))) (fJ U.aI 0) ?_;by_cases l:(bS v)=true
 ·refine dQ (HY v _ z) aG (by rw[l]) ?_;intro w2 hb1;have⟨m4,m5,m6,Z⟩:=nO hb1 F d U Y;refine av aF<|aD<|aK<|Wk<|sN<|Ws<|Ws ?_;refine nu<|aX (pt p)<|aX (pt p)<|aX (pt p)<|aX (pf p 12)<|Qv (.agg (aA 6 (rv .u64 m.s.known))) (fun W A=>fJ (m5.cb A) 12 (fun j S=>mF _ (by omega) (nK _ S (by omega))))<|Qv (.agg (aA 14 (bV v))) (fun W A=>fJ (m6.cb A) 0) ?_;by_cases u:(mR m.s.known v)=true
  ·refine zT (fun _ _=>Ux m.s.known v _ z) aG (by rw[u])<|Qn ?_;intro Yh uq;have⟨m7,b3⟩:=fF uq m4 Z;refine sN<|aL<|ay<|av (pt p)<|av (pt p)<|av (au 14)<|aD<|Wr<|sR<|aJ (.tuple #[(pt p),au 14]) ?_;have b:bQ m.core v=14:=(by unfold bQ; rw[b_ (by rw[l]; decide)]; exact d_ u);have q:dH m.core v=m.core:=(by unfold dH; rw[b_ (by rw[b]; decide)]);exact⟨p,m,by rw[b],q.symm,m7,b3⟩
  rw[U_]at u;refine zT (fun _ _=>Ux m.s.known v _ z) aF (by rw[u])<|Qn ?_;intro wb2 xR;have⟨m10,m11,m12,b4⟩:=nO xR m4 m5 m6 Z;refine sN<|aK<|Wk<|sN<|Ws<|Ws ?_;refine nu<|aX (pt p)<|aX (pt p)<|aX (pt p)<|aX (pf p 12)<|Qv (.agg (aA 6 (rv .u64 m.s.known))) (fun W A=>fJ (m11.cb A) 12 (fun j S=>mF _ (by omega) (nK _ S (by omega))))<|Qv (.agg (aA 14 (bV v))) (fun W A=>fJ (m12.cb A) 0) ?_;by_cases x:(dI m.s.known v)=true
  ·refine zT (fun _ _=>O1 m.s.known v _ z I.kn) aG (by rw[x])<|aX aF<|Qn ?_;intro N xS;have⟨K,M,m15,G⟩:=nO xS m10 m11 m12 b4;refine sN<|aK<|Wk<|sN<|Ws ?_;obtain⟨a,P,ho⟩:=fu (iO l);refine Wl<|av (pt g1)<|Lv (au v.o) (aM m15.aI 0)<|Lv (au a) fZ<|av (au a)<|aD<|Ws<|ay<|av (pt p)<|av (au a)<|av (pt p)<|av (pt p)<|av (pt p)<|Lv (pf p a) (iY 6 1) ?_;by_cases C:(m.s.inn a)=true
   ·refine Lv aG (aM M.aI a ((mF _ (by omega) (Cu _ (by omega))).trans (L_ Value.bool C)))<|av aF<|av aF<|av (pt p)<|av (au a)<|av (pt p)<|av (pt p)<|av (pf p 6)<|Lv (pf p (a+6)) (iY 6 1) ?_;by_cases D:(m.s.left a)=true
    ·refine Lv aG (aM M.aI (a+6) ((mF _ (by omega) (yU _ (by omega) (by omega))).trans (L_ Value.bool D)))<|av aG<|aD<|aL<|ay<|av (pt p)<|av (pt p)<|av (au 10)<|aD<|Wr<|sR<|aJ (.tuple #[(pt p),au 10]) ?_;have y:aO v=a:=(by unfold aO; omega);have b:bQ m.core v=10:=(by unfold bQ; rw[b_ (by rw[l]; decide),b_ (by rw[show mR m.core.known v=false from u]; decide),b_ (by rw[show dI m.core.known v=true from x]; decide),y]; exact d_ (.inr D));have q:dH m.core v=m.core:=(by unfold dH; rw[b_ (by rw[b]; decide)]);exact⟨p,m,by rw[b],q.symm,K,G⟩
    rw[U_]at D;refine Lv aF (aM M.aI (a+6) ((mF _ (by omega) (yU _ (by omega) (by omega))).trans (L_ Value.bool D)))<|av aF<|aD<|aK<|Wk<|sN<|ay<|av (pt p)<|lU (adg m p _ K.ldg (by have:=I.nn; have e:m.core.nn=m.s.nn:=rfl; omega) K.bt) ?_;rintro e w3 ⟨f,F,J,R,hL2,Q⟩;refine⟨(pt f),J,?_⟩;clear J;have⟨m18,b6⟩:=fF Q m15 G;have E:adJ F.core T:=(by rw[R]; exact I);refine av (pt f)<|aD<|Ws ?_;have aoE:=hL2;refine Wl<|av (pt f)<|Lv (.agg (aA 14 (bV v))) (fJ m18.aI 0)<|lU (adG F N.heap.size f a v _ aoE Q.size P ho (by have h9:F.s.nn<=33:=E.nn; omega) (m_ E.gn hT) (fun i hi=>m_ (E.rn i hi) hT) E.tn E.dx z l E.may) ?_;rintro e X ⟨J,hbd,hL3⟩;refine⟨au (dS m.core v),by rw[<- R]; exact J,?_⟩;clear J;rw[R]at hL3;have b8:Below N.heap.size N X:=Q.trans hbd;have b7:Below w.heap.size w X:=b6.trans (hbd.mono (m_ (A_ _) G.size));have m19:wF X B p m:=K.up b8;refine av (au (dS m.core v))<|aD<|Ws<|ay<|av (au (dS m.core v)) ?_;by_cases H:(dS m.core v)=0
    ·refine Lv aF (ko H)<|aD<|aK<|Wk<|sN<|Ws ?_;obtain⟨d,hc3,k⟩:=hL3 H;have hMc:=k.c;have hMn:=k.n;have hMg:=k.g;have hMt:=k.tc;have aoG:=k.t;have hMr:=k.r;have ek3:d.s.known=m.s.known:=(by show d.core.known=_; rw[hc3,qo]; rfl);have hk3:=I.kn a P;have hk3:0<=d.s.known a/\d.s.known a<1099511627776:=(by rw[ek3]; exact hk3);have lp2:=k.pB;have sw1:=G.size;refine kJ [0,1,2,3,4,5,8,9,10,6,7,11,12] [0,0,0,0,0,0,4,0,0,0,0,0,3] [(12,6,[6])] fun rG dZ iJ => ?_;have⟨V,m21,m22,m23,m24,nP,b9⟩:=jM dZ hMc hMn hMg hMt aoG hMr b7;refine bf (pt f)<|bf (au a)<|bf (pt f)<|bf (pt f)<|bf (pf f 12)<|Rp (pf f (a+12)) (fun _=>iY 6 1)<|bf (pt f)<|bf (pt f)<|bf (pf f 12)<|Rs (aC (d.s.known a)) (aM V.aI (a+12) (mF _ (by omega) (nK _ (by omega) (by omega)))) ?_;refine Rp (aC (d.s.known a+1)) (fun _=>eU)<|Rp (pf f (a+12)) (fun _=>iY 6 1)<|gQ<|jh V (a+12) (aC (d.s.known a+1)) fun w5 oG s8 z2 => ?_;have gD:=gX s8 V.ty;have⟨nY,nZ,oH,pG,nA⟩:=rF gD m21 m22 m23 m24 nP;have b10:=s8.below b9 b9.size (by omega);refine Ln<|bT<|ay<|av (pt f)<|av (pt f)<|av (au 0)<|aD<|Wr<|aJ (.tuple #[(pt f),au 0]) ?_;have y:aO v=a:=(by unfold aO; omega);have b:bQ m.core v=0:=by unfold bQ; rw[b_ (by rw[l]; decide),b_ (by rw[show mR m.core.known v=false from u]; decide),b_ (by rw[show dI m.core.known v=true from x]; decide),y]; rw[b_ (show ¬ (m.core.inn a=false\/m.core.left a=true)from fun h=>h.elim (fun h=>by rw[show m.core.inn a=true from C]at h; cases h) (fun h=>by rw[show m.core.left a=false from D]at h; cases h))]; exact H
     have hfin:wF w5 N.heap.size f { d with s := { d.s with known:=aH d.s.known a (d.s.known a+1) } } := { c:=oG.to (Rj d P rfl _),n:=nY,g:=nZ,tc:=oH,t:=pG,r:=nA,pB:=k.pB,tB:=k.tB,bn:=k.bn,bg:=k.bg,bt:=k.bt,br:=k.br };refine⟨f,{ d with s := { d.s with known:=aH d.s.known a (d.s.known a+1) } },by rw[b],?_,hfin.mono (by have:=L.pB; have:=lpp; omega),b10⟩;unfold dH; rw[d_ b]; unfold DR; rw[y,qo,<- hc3,show m.core.known=d.s.known from ek3.symm]; rfl
    refine Lv aG (nN H)<|aD<|aL<|ay<|av (pt p)<|av (au (dS m.core v))<|av (pt p)<|av (au (dS m.core v))<|aD<|Wr<|sR<|aJ (.tuple #[(pt p),au (dS m.core v)]) ?_;have y:aO v=a:=(by unfold aO; omega);have b:bQ m.core v=dS m.core v:=by unfold bQ; rw[b_ (by rw[l]; decide),b_ (by rw[show mR m.core.known v=false from u]; decide),b_ (by rw[show dI m.core.known v=true from x]; decide),y]; rw[b_ (show ¬ (m.core.inn a=false\/m.core.left a=true)from fun h=>h.elim (fun h=>by rw[show m.core.inn a=true from C]at h; cases h) (fun h=>by rw[show m.core.left a=false from D]at h; cases h))]
    have q:dH m.core v=m.core:=(by unfold dH; rw[b_ (by rw[b]; exact H)]);exact⟨p,m,by rw[b],q.symm,m19,b7⟩
   rw[U_]at C;refine Lv aF (aM M.aI a ((mF _ (by omega) (Cu _ (by omega))).trans (L_ Value.bool C)))<|av aG<|av aG<|dw<|dw<|dw<|dw<|dw<|dw<|dw<|av aG<|aD<|aL<|ay<|av (pt p)<|av (pt p)<|av (au 10)<|aD<|Wr<|sR<|aJ (.tuple #[(pt p),au 10]) ?_;have y:aO v=a:=(by unfold aO; omega);have b:bQ m.core v=10:=(by unfold bQ; rw[b_ (by rw[l]; decide),b_ (by rw[show mR m.core.known v=false from u]; decide),b_ (by rw[show dI m.core.known v=true from x]; decide),y]; exact d_ (.inl C));have q:dH m.core v=m.core:=(by unfold dH; rw[b_ (by rw[b]; decide)]);exact⟨p,m,by rw[b],q.symm,K,G⟩
  rw[U_]at x;refine zT (fun _ _=>O1 m.s.known v _ z I.kn) aF (by rw[x])<|aX aG<|Qn ?_;intro wb4 BD;have⟨m32,b11⟩:=fF BD m10 b4;refine sN<|aL<|ay<|av (pt p)<|av (pt p)<|av (au 13)<|aD<|Wr<|sR<|aJ (.tuple #[(pt p),au 13]) ?_;have b:bQ m.core v=13:=by unfold bQ; rw[b_ (by rw[l]; decide),b_ (by rw[show mR m.core.known v=false from u]; decide)]; exact d_ x
  have q:dH m.core v=m.core:=by unfold dH; rw[b_ (by rw[b]; decide)]
  exact⟨p,m,by rw[b],q.symm,m32,b11⟩
 rw[U_]at l;refine dQ (HY v _ z) aF (by rw[l]) ?_;intro w6 hb2;have⟨qh,b12⟩:=fF hb2 F Y;refine av aG<|aD<|aL<|ay<|av (pt p)<|av (pt p)<|av (au 1)<|aD<|Wr<|sR<|aJ (.tuple #[(pt p),au 1]) ?_;have b:bQ m.core v=1:=by unfold bQ; exact d_ l
 have q:dH m.core v=m.core:=by unfold dH; rw[b_ (by rw[b]; decide)]
 exact⟨p,m,by rw[b],q.symm,qh,b12⟩
end Go.Proofs.YtahbiajdgealnaaGreatDoor
