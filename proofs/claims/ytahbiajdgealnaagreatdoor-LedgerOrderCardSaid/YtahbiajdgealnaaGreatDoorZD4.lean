/-
  What the proof of the law rests on, part 4: walks of functions, and plain laws; each says its conditions itself.
-/
import Derived.Laws.StructEq
import Derived.Test.YtahbiajdgealnaaGreatDoorZD3
set_option maxHeartbeats 1600000
set_option linter.unusedVariables false
set_option linter.unusedSimpArgs false
namespace Go.Proofs.YtahbiajdgealnaaGreatDoor
open Go.RowKit Rt
open Fx (fC eO fK bA gU gT dD dS gL jw eG jy gu jA jc Lv sN Ln Ws Qv Wl Rp Wc Qs Wr Sb Lk Wk rC rV sR Rs Rn Rd Rk Wb Wx Wo Cu Wt qR Qn FP Bb yc yK Cq Dz ql iC yL ni rW uh vH wF yJ Cv Aj rv aA aQ bH aM ev cB Stp dH aX flat dB Mp eU aW ig iO bC down iM jL iN lU bK bI cells_one iQ bV vM unseen jJ iD bX dJ bL bO bY bZ gG gH pO gV)
namespace Rt
def Bu(t:Nat->Nat->Int)(n k:Nat):Nat->Nat->Int:=fun i=>if i<=k then(if i<n then t i else fun _=>0)else t (i-1)
def ow(t:Nat->Nat->Int)(k:Nat)(id par:Int):Nat->Nat->Int:=fun i=>if i<k then t i else if i=k then(fun j=>if j=0 then id else par)else t (i-1)
theorem sP{w:World}{B tb tn tc:Nat}{ta:Option Addr}{t:Nat->Nat->Int}(b:aQ w tb 1 (fun _ => .slice ta tn tc) 123)(a:Fx.Own w B 128 2 (.slice ta tn tc) tn (rv .u64 (kL t)))(j:tn<=1000):EB w tb ta tn tc t where
 tc:=b.aI
 t:=fun k h=>by
  obtain⟨g,d,e,_,_,_,c⟩:=a.form (by omega);simp only[Value.slice.injEq,true_and]at e;refine⟨g,0,e.1,fun i f => ?_⟩;have:=c (2*k+i) (by omega);rw[E_]at this;rw[E_,this];show some (Value.int .u64 (t ((2*k+i) / 2) ((2*k+i) % 2)))=some (Value.int .u64 (t k i));rw[show(2*k+i) / 2=k by omega,show(2*k+i) % 2=i by omega]
 bt:=by omega
theorem xw(t:Nat->Nat->Int)(n:Nat) : ∀ j,j<(n+1)*2->iD (rv .u64 (kL t)) (n*2) (bH (fun j=>rv .u64 (fun _=>0) (j % 2)) (0*2) 2 (rv .u64 (fun _=>0))) j=rv .u64 (kL (Bu t n n)) j:=fun j a=>by
 unfold iD;by_cases h:j<n*2
 ·rw[d_ h];show Value.int .u64 (t (j / 2) (j % 2))=Value.int .u64 (Bu t n n (j / 2) (j % 2));unfold Bu; rw[d_ (by omega),d_ (by omega)]
 ·rw[b_ h];unfold bH; rw[d_ (by omega)];show Value.int .u64 0=Value.int .u64 (Bu t n n (j / 2) (j % 2));unfold Bu; rw[d_ (by omega),b_ (by omega)]
theorem za{t:Nat->Nat->Int}{n k j p:Nat}(a:p=2*j)(h:j<k)(b:k<=n):rv .u64 (kL (Bu t n k)) p=aD (t j 0):=by
 subst a;show Value.int .u64 (Bu t n k (2*j / 2) (2*j % 2))=_;unfold Bu; rw[d_ (by omega),d_ (by omega),show 2*j / 2=j by omega,show 2*j % 2=0 by omega]
theorem Tx{t:Nat->Nat->Int}{n k j i:Nat}(h:j<k)(a:k<=n)(hi:i<2):rv .u64 (kL (Bu t n k)) (2*j+i)=rv .u64 (t j) i:=by
 show Value.int .u64 (Bu t n k ((2*j+i) / 2) ((2*j+i) % 2))=Value.int .u64 (t j i);unfold Bu; rw[d_ (by omega),d_ (by omega),show(2*j+i) / 2=j by omega,show(2*j+i) % 2=i by omega]
theorem yg{t:Nat->Nat->Int}{n k j:Nat}(e:k=j+1)(_hk:k<=n) : ∀ p,p<(n+1)*2->bH (rv .u64 (kL (Bu t n k))) (2*k) 2 (rv .u64 (t j)) p=rv .u64 (kL (Bu t n j)) p:=fun p b=>by
 unfold bH;by_cases h:2*k<=p/\p<2*k+2
 ·rw[d_ h];show Value.int .u64 (t j (p-2*k))=Value.int .u64 (Bu t n j (p / 2) (p % 2));unfold Bu; rw[b_ (by omega),show p / 2-1=j by omega,show p-2*k=p % 2 by omega]
 ·rw[b_ h];show Value.int .u64 (Bu t n k (p / 2) (p % 2))=Value.int .u64 (Bu t n j (p / 2) (p % 2));unfold Bu;by_cases a:p / 2<=j
  ·rw[d_ (by omega),d_ a]
  ·rw[b_ (by omega),b_ a]
theorem sF{t:Nat->Nat->Int}{n k:Nat}{id par:Int}(_hk:k<=n) : ∀ p,p<(n+1)*2->bH (rv .u64 (kL (Bu t n k))) (2*k) 2 (bH (bH (rv .u64 (fun _=>0)) 0 1 (fun _=>aD id)) 1 1 (fun _=>aD par)) p=rv .u64 (kL (ow t k id par)) p:=fun p c=>by
 by_cases h:2*k<=p/\p<2*k+2
 ·rw[bH,d_ h];show _=Value.int .u64 (ow t k id par (p / 2) (p % 2));unfold ow; rw[b_ (by omega),d_ (by omega)];by_cases b:p=2*k
  ·subst b; rw[show 2*k-2*k=0 by omega,d_ (by omega)]; rfl
  ·rw[show p-2*k=1 by omega,b_ (by omega)]; rfl
 ·rw[bH,b_ h];show Value.int .u64 (Bu t n k (p / 2) (p % 2))=Value.int .u64 (ow t k id par (p / 2) (p % 2));unfold Bu ow;by_cases a:p / 2<k
  ·rw[d_ (by omega),d_ (by omega),d_ a]
  ·rw[b_ (by omega),b_ a,b_ (by omega)]
def CG(t:Nat->Nat->Int)(tn:Nat)(x:Int):Prop := ∀ i,i<4->0<=bD t tn (bF t tn i x)
theorem Km{t:Nat->Nat->Int}{tn K:Nat}{x:Int}(h : ∀ i,i<K->0<=bD t tn (bF t tn i x))(a:4<=K):CG t tn x:=fun i b=>h i (by omega)
theorem DR{t:Nat->Nat->Int}{tn K:Nat}{x:Int}(h:bD t tn (bF t tn K x)<0)(a:K<4) : ¬ CG t tn x:=fun b=>by have:=b K a; omega
open Classical in
noncomputable def jo(t:Nat->Nat->Int)(tn:Nat)(id par:Int):Int:=if id=0 then 1 else if 0<=bD t tn id then 14 else if par≠0/\bD t tn par<0 then 9 else if 32<=tn\/CG t tn par then 6 else 0
theorem Ob{t:Nat->Nat->Int}{n k j:Nat}{id:Int}(e:k=j+1)(h : ∀ i,k<=i->i<n->id<t i 0)(c:id<t j 0) : ∀ i,j<=i->i<n->id<t i 0:=fun i d b=>by
 by_cases a:i=j
 ·subst a; exact c
 ·exact h i (by omega) b
end Rt
set_option maxRecDepth 10000 in
theorem aft(B:Nat)(tb:Nat)(ta:Option Addr)(tn tc:Nat)(t:Nat->Nat->Int)(id par:Int)(D:Nat)(w:World)(P:aQ w tb 1 (fun _ => .slice ta tn tc) 123)(X:Fx.Own w B 128 2 (.slice ta tn tc) tn (rv .u64 (kL t)))(hne:(Value.slice ta tn tc).ownBlock≠some tb)(hB:B<=w.heap.size)(Q:tn<=1000)(hD:bD t tn (bF t tn D par)<0)(hD2:D<=1000) :
 Calls Tryz.prog 107 #[(pt tb),aD id,aD par] w fun e w'=>e = .returned (au (jo t tn id par))/\jL (fun k=>k=tb\/(Value.slice ta tn tc).ownBlock=some k) w w'/\((jo t tn id par≠0/\aQ w' tb 1 (fun _ => .slice ta tn tc) 123/\Fx.Own w' B 128 2 (.slice ta tn tc) tn (rv .u64 (kL t)))\/(jo t tn id par=0 /\ ∃ g cap,aQ w' tb 1 (fun _=>bM g (tn+1) cap) 123/\Fx.Own w' B 128 2 (bM g (tn+1) cap) (tn+1) (rv .u64 (kL (ow t (down (fun i=>decide (id<t i 0)) tn) id par)))/\(Value.slice (some ⟨g,0,none⟩) (tn+1) cap).ownBlock≠some tb)):=by
 have lp:tb<w.heap.size:=P.lt;refine Kent Tryz.func107 89 ?_;refine ay<|av (au 0)<|aC<|Ws<|ay<|av (aD id) ?_;by_cases q:id=0
 ·refine Lv aG (eY q)<|aC<|aO<|ay<|av (au 1)<|aC<|Wr<|sR<|aJ (au 1) ?_;have c:jo t tn id par=1:=by unfold jo; rw[d_ q]
  exact⟨oO c.symm,(uh (fun k=>k=tb\/(Value.slice ta tn tc).ownBlock=some k) w),.inl ⟨by rw[c]; decide,P,X⟩⟩
 refine Lv aF (gy q)<|aC<|aK<|Wk<|sN<|Ws<|ay<|av (pt tb)<|av (aD id) ?_;by_cases p:(decide (0<=bD t tn id))=true
 ·refine dP (Oa tb ta tn tc t id _ (sP P X Q)) aG (by rw[p]) ?_;intro w1 hb1;have s1:=Sb hb1;have⟨m1,m2⟩:=eZ hb1 P X;have b1:=(uh (fun k=>k=tb\/(Value.slice ta tn tc).ownBlock=some k) w).then s1 (.inr (uh (fun k=>k=tb\/(Value.slice ta tn tc).ownBlock=some k) w).size);refine aC<|aO<|ay<|av (au 14)<|aC<|Wr<|sR<|aJ (au 14) ?_;have c:jo t tn id par=14:=by unfold jo; rw[b_ q,d_ (h_ p)]
  exact⟨oO c.symm,b1,.inl ⟨by rw[c]; decide,m1,m2⟩⟩
 rw[S_]at p;refine dP (Oa tb ta tn tc t id _ (sP P X Q)) aF (by rw[p]) ?_;intro w2 hb2;have s2:=Sb hb2;have⟨E,L⟩:=eZ hb2 P X;have F:=(uh (fun k=>k=tb\/(Value.slice ta tn tc).ownBlock=some k) w).then s2 (.inr (uh (fun k=>k=tb\/(Value.slice ta tn tc).ownBlock=some k) w).size);refine aC<|aK<|Wk<|sN<|Ws<|ay<|av (aD par) ?_;by_cases G:par=0
 ·refine Lv aF (jd G)<|av aF<|dw<|dw<|dw<|dw<|av aF<|aC<|aK<|Wk<|sN<|Ws<|ay<|av (pt tb)<|av (pt tb)<|av (pt tb)<|Lv (.slice ta (tn) (tc)) (aN E.aI 0)<|av (au tn) ?_;by_cases T:32<=(tn:Int)
  ·refine Lv aG (jW T)<|av aG<|dw<|dw<|dw<|dw<|dw<|av aG<|aC<|aO<|ay<|av (au 6)<|aC<|Wr<|sR<|aJ (au 6) ?_;have c:jo t tn id par=6:=(by unfold jo; rw[b_ q,b_ (j_ p),b_ (fun h=>h.1 G),d_ (.inl (by omega))]);exact⟨oO c.symm,F,.inl ⟨by rw[c]; decide,E,L⟩⟩
  refine Lv aF (jQ T)<|av aF<|av (pt tb)<|av (aD par)<|lK (IQ tb ta tn tc t par D _ (sP E L Q) hD hD2) ?_;rintro e w3 ⟨K,vv,Y,hown,qZ,W,hb3⟩;obtain⟨a1,n,rfl⟩:=hown.val;refine⟨.slice a1 K n,Y,?_⟩;clear Y hown;have s3:=Sb hb3;have⟨m5,m6⟩:=eZ hb3 E L;have b3:=F.then s3 (.inr F.size);refine av (au K) ?_;by_cases U:4<=(K:Int)
  ·refine Lv aG (jW U)<|av aG<|aC<|aO<|ay<|av (au 6)<|aC<|Wr<|sR<|aJ (au 6) ?_;have c:jo t tn id par=6:=(by unfold jo; rw[b_ q,b_ (j_ p),b_ (fun h=>h.1 G),d_ (.inr (Km qZ (by omega)))]);exact⟨oO c.symm,b3,.inl ⟨by rw[c]; decide,m5,m6⟩⟩
  refine Lv aF (jQ U)<|av aF<|aC<|aK<|Wk<|sN<|ay<|av (pt tb)<|av (pt tb)<|av (pt tb)<|Lv (.slice ta (tn) (tc)) (aN m5.aI 0)<|av (au tn)<|av (au tn)<|aC<|ay<|av (pt tb)<|av (pt tb)<|av (pt tb)<|av (pt tb)<|Lv (.slice ta (tn) (tc)) (aN m5.aI 0)<|av (.agg (aA 2 (rv .u64 (fun _=>0))))<|yc (vs := [(0,.agg (aA 2 (rv .u64 (fun _=>0))))]) (s:=2) (zc:=rv .u64 (fun _=>0)) (y:=bH (fun j=>(rv .u64 (fun _=>0)) (j % 2)) (0*2) 2 (rv .u64 (fun _=>0))) (by rfl) rfl rfl Tryz.underlying121 (by kernel_rfl) (by rfl) (by rfl) (by kernel_rfl) (by rw[bC (off:=0*2) (s:=2) (y:=rv .u64 (fun _=>0)) rfl (bI _ _) (by rfl)]; rfl) rfl fun g1 w4 kU m7 s4 z1 => ?_;have⟨m8,m9⟩:=eZ s4.old m5 m6;have b4:=b3.then s4 (.inr b3.size);have tC:=jE kU b3.size;have Kl:=cK kU m5.lt;have afu:(.slice ta tn tc:Value).ownBlock≠some g1:=by rw[kU]; exact m6.jK (z_ _)
  have uU:=m7.lt;refine yK (B:=B) (s:=2) (bytes:=16) (k:=tn) (m:=1) (v := .slice ta tn tc) (by rfl) rfl rfl rfl Tryz.underlying121 (by kernel_rfl) (by kernel_rfl) rfl rfl m9 m7.aI (fun j Z=>by rcases j with _|_|j <;> first|rfl|omega) (by omega) (by omega) (by omega) (m_ hB b4.size) fun d n w5 ho1 hg1 uo hlt1 => ?_
  have m11:aQ w5 tb 1 (fun _ => .slice ta tn tc) 123:=m8.grown hg1 hne;have afv:tb≠d:=fun e=>uo.elim (fun x=>hne (by rw[x,e])) (fun x=>by have:=m8.lt; omega);have m10:Fx.Own w5 B 128 2 (bM d (tn+1) n) (tn+1) (rv .u64 (kL (Bu t tn tn))):=ho1.congr (xw t tn);have b5:jL (fun k=>k=tb\/(Value.slice ta tn tc).ownBlock=some k) w w5:=Fx.jL.grow b4 hg1 (fun k e => .inl (.inr e));have abq:(fun k=>k=tb\/(Value.slice ta tn tc).ownBlock=some k) d\/w.heap.size<=d:=uo.elim (fun e => .inl (.inr e)) (fun e => .inr (by rw[e]; exact b4.size));refine av (pt tb)<|av (pt tb)<|jh m11 0 (bM d (tn+1) n) fun w6 m12 s5 z2 => ?_;have m13:aQ w6 tb 1 (fun _=>bM d (tn+1) n) 123:=dJ m12;have m14:=m10.aak s5 (by omega);have b6:=b5.then s5 (.inl (.inl rfl));refine aC<|Ws<|Wb<|Wo (fun f M => ∃ k:Nat,k<=tn/\(∀ i,k<=i->i<tn->id<t i 0)/\f 0=(pt tb)/\f 1=aD id/\f 2=aD par/\f 7=au (k:Int)/\aQ M tb 1 (fun _=>bM d (tn+1) n) 123/\Fx.Own M B 128 2 (bM d (tn+1) n) (tn+1) (rv .u64 (kL (Bu t tn k)))/\jL (fun k=>k=tb\/(Value.slice ta tn tc).ownBlock=some k) w M) (fun f _=>(intOf (f 7)).toNat) ⟨tn,by omega,(fun i r N=>L_ r (by omega)),(by rfl),Fx.ic,Fx.ic,Fx.ic,m13,m14,b6⟩ ?_;rintro f1 w7 ⟨k,hk,J,r,N,h3,A,R,m16,b7⟩;refine Ws<|ay<|aS A ?_;by_cases V:0<(k:Int)
  ·obtain⟨j,H⟩ : ∃ j,k=j+1:=⟨k-1,by omega⟩;refine Lv aG (lH V)<|av aG<|aS r<|av (pt tb)<|av (pt tb)<|Lv (bM d (tn+1) n) (aN R.aI 0)<|aS A<|Lv (au j) fU<|Lv (pf d (2*j)) (dh 2)<|av (pf d (2*j))<|Lv (aD (t j 0)) (aN m16.aI (2*j) (za (by omega) (by omega) (by omega)))<|aS N ?_;by_cases u:id<(t j 0)
   ·refine Lv aG (lH u)<|av aG<|aC<|aO<|Wk<|sN<|Wb<|Ws ?_;refine Wt 14 (by kernel_rfl) (by kernel_rfl) fun oI dM gY => ?_;have s6:Stp w7.heap.size w7 oI:=Sb dM;have⟨m17,m18⟩:=eZ dM R m16;have b8:=b7.then s6 (.inr b7.size);refine ql (pt tb) (Rv r)<|El (pt tb)<|El (pt tb)<|ql (bM d (tn+1) n) (aN m17.aI 0)<|ql (au k) (Rv A)<|ql (pt tb) (Rv r)<|El (pt tb)<|El (pt tb)<|ql (bM d (tn+1) n) (aN m17.aI 0)<|ql (au k) (Rv A)<|ql (au j) fU<|ql (pf d (2*j)) (dh 2)<|ql (.agg (aA 2 (rv .u64 (t j)))) (fG m18.aI (2*j) (fun i hi=>Tx (by omega) (by omega) hi))<|ql (pf d (2*k)) (dh 2)<|Fx.St.nil ?_;refine zB m18 (2*k) fun w8 m19 s7 z3 => ?_;have m20:=m17.cZ s7 (by omega);have b9:=b8.then s7 abq;have m21:Fx.Own w8 B 128 2 (bM d (tn+1) n) (tn+1) (rv .u64 (kL (Bu t tn j))):=m19.congr (yg H (by omega));refine aC<|Wl<|aS A<|Lv (au j) fU<|av (au j)<|Ln<|bO<|gH ⟨j,by omega,(Ob H J u),r,(N.trans Fx.ic),(h3.trans Fx.ic),Fx.ic,m20,m21,b9⟩ ?_;show(intOf (au j)).toNat<_;simp only[A,intOf]; omega
   refine Lv aF (lI u)<|av aF<|aC<|aK<|Wx<|bY<|gG<|bZ<|sN<|ay<|aS r<|av (pt tb)<|av (pt tb)<|Lv (bM d (tn+1) n) (aN R.aI 0)<|aS A<|aS N<|aS h3<|av (.agg (aA 2 (bH (bH (rv .u64 (fun _=>0)) 0 1 (fun _=>aD id)) 1 1 (fun _=>aD par))))<|Lv (pf d (2*k)) (dh 2)<|zB m16 (2*k) (h1:=(fun j Z=>by rcases j with _|_|j <;> first|rfl|omega)) fun w9 m22 s8 z4 => ?_
   have m23:=R.cZ s8 (by omega);have b10:=b7.then s8 abq;have m24:Fx.Own w9 B 128 2 (bM d (tn+1) n) (tn+1) (rv .u64 (kL (ow t k id par))):=m22.congr (sF (by omega));refine aC<|ay<|av (au 0)<|aC<|Wr<|aJ (au 0) ?_;have c:jo t tn id par=0:=(by unfold jo; rw[b_ q,b_ (j_ p),b_ (fun h=>h.1 G),b_ (fun h=>h.elim (fun h=>by omega) (DR W (by omega)))]);have I:k=down (fun i=>decide (id<t i 0)) tn:=Fx.oG hk (fun i a b=>f_ (J i a b)) (.inr (fun j e=>by have x:j=_:=Nat.succ.inj (e.symm.trans H); subst x; exact g_ u));exact⟨oO c.symm,b10,.inr ⟨c,d,n,m23,by rw[<- I]; exact m24,fun e=>afv (B_ e).symm⟩⟩
  refine Lv aF (lI V)<|av aF<|dw<|dw<|dw<|dw<|dw<|dw<|dw<|dw<|dw<|dw<|dw<|av aF<|aC<|aK<|Wx<|bY<|gG<|bZ<|sN<|ay<|aS r<|av (pt tb)<|av (pt tb)<|Lv (bM d (tn+1) n) (aN R.aI 0)<|aS A<|aS N<|aS h3<|av (.agg (aA 2 (bH (bH (rv .u64 (fun _=>0)) 0 1 (fun _=>aD id)) 1 1 (fun _=>aD par))))<|Lv (pf d (2*k)) (dh 2)<|zB m16 (2*k) (h1:=(fun j Z=>by rcases j with _|_|j <;> first|rfl|omega)) fun tH mY s9 z5 => ?_
  have nQ:=R.cZ s9 (by omega);have b11:=b7.then s9 abq;have oJ:Fx.Own tH B 128 2 (bM d (tn+1) n) (tn+1) (rv .u64 (kL (ow t k id par))):=mY.congr (sF (by omega));refine aC<|ay<|av (au 0)<|aC<|Wr<|aJ (au 0) ?_;have c:jo t tn id par=0:=by unfold jo; rw[b_ q,b_ (j_ p),b_ (fun h=>h.1 G),b_ (fun h=>h.elim (fun h=>by omega) (DR W (by omega)))]
  have I:k=down (fun i=>decide (id<t i 0)) tn:=Fx.oG hk (fun i a b=>f_ (J i a b)) (.inl (by omega));exact⟨oO c.symm,b11,.inr ⟨c,d,n,nQ,by rw[<- I]; exact oJ,fun e=>afv (B_ e).symm⟩⟩
 refine Lv aG (lJ G)<|av aG<|av (pt tb)<|av (aD par) ?_;by_cases z:(decide (0<=bD t tn par))=true
 ·refine dP (Oa tb ta tn tc t par _ (sP E L Q)) aG (by rw[z]) ?_;intro FT hb4;have s10:=Sb hb4;have⟨ou,qo⟩:=eZ hb4 E L;have b12:=F.then s10 (.inr F.size);refine av aF<|av aF<|aC<|aK<|Wk<|sN<|Ws<|ay<|av (pt tb)<|av (pt tb)<|av (pt tb)<|Lv (.slice ta (tn) (tc)) (aN ou.aI 0)<|av (au tn) ?_;by_cases T:32<=(tn:Int)
  ·refine Lv aG (jW T)<|av aG<|dw<|dw<|dw<|dw<|dw<|av aG<|aC<|aO<|ay<|av (au 6)<|aC<|Wr<|sR<|aJ (au 6) ?_;have c:jo t tn id par=6:=(by unfold jo; rw[b_ q,b_ (j_ p),b_ (fun h=>by have:=h_ z; omega),d_ (.inl (by omega))]);exact⟨oO c.symm,b12,.inl ⟨by rw[c]; decide,ou,qo⟩⟩
  refine Lv aF (jQ T)<|av aF<|av (pt tb)<|av (aD par)<|lK (IQ tb ta tn tc t par D _ (sP ou qo Q) hD hD2) ?_;rintro e Dn ⟨K,vv,Y,hown,qZ,W,hb5⟩;obtain⟨a1,n,rfl⟩:=hown.val;refine⟨.slice a1 K n,Y,?_⟩;clear Y hown;have s11:=Sb hb5;have⟨oP,mV⟩:=eZ hb5 ou qo;have b13:=b12.then s11 (.inr b12.size);refine av (au K) ?_;by_cases U:4<=(K:Int)
  ·refine Lv aG (jW U)<|av aG<|aC<|aO<|ay<|av (au 6)<|aC<|Wr<|sR<|aJ (au 6) ?_;have c:jo t tn id par=6:=(by unfold jo; rw[b_ q,b_ (j_ p),b_ (fun h=>by have:=h_ z; omega),d_ (.inr (Km qZ (by omega)))]);exact⟨oO c.symm,b13,.inl ⟨by rw[c]; decide,oP,mV⟩⟩
  refine Lv aF (jQ U)<|av aF<|aC<|aK<|Wk<|sN<|ay<|av (pt tb)<|av (pt tb)<|av (pt tb)<|Lv (.slice ta (tn) (tc)) (aN oP.aI 0)<|av (au tn)<|av (au tn)<|aC<|ay<|av (pt tb)<|av (pt tb)<|av (pt tb)<|av (pt tb)<|Lv (.slice ta (tn) (tc)) (aN oP.aI 0)<|av (.agg (aA 2 (rv .u64 (fun _=>0))))<|yc (vs := [(0,.agg (aA 2 (rv .u64 (fun _=>0))))]) (s:=2) (zc:=rv .u64 (fun _=>0)) (y:=bH (fun j=>(rv .u64 (fun _=>0)) (j % 2)) (0*2) 2 (rv .u64 (fun _=>0))) (by rfl) rfl rfl Tryz.underlying121 (by kernel_rfl) (by rfl) (by rfl) (by kernel_rfl) (by rw[bC (off:=0*2) (s:=2) (y:=rv .u64 (fun _=>0)) rfl (bI _ _) (by rfl)]; rfl) rfl fun g3 Gz zI m32 s12 z6 => ?_;have⟨oQ,nT⟩:=eZ s12.old oP mV;have b14:=b13.then s12 (.inr b13.size);have Es:=jE zI b13.size;have akA:=cK zI oP.lt;have akB:(.slice ta tn tc:Value).ownBlock≠some g3:=by rw[zI]; exact mV.jK (z_ _)
  have Mr:=m32.lt;refine yK (B:=B) (s:=2) (bytes:=16) (k:=tn) (m:=1) (v := .slice ta tn tc) (by rfl) rfl rfl rfl Tryz.underlying121 (by kernel_rfl) (by kernel_rfl) rfl rfl nT m32.aI (fun j Z=>by rcases j with _|_|j <;> first|rfl|omega) (by omega) (by omega) (by omega) (m_ hB b14.size) fun l o NW ho2 hg2 MF hlt2 => ?_
  have qD:aQ NW tb 1 (fun _ => .slice ta tn tc) 123:=oQ.grown hg2 hne;have afw:tb≠l:=fun e=>MF.elim (fun x=>hne (by rw[x,e])) (fun x=>by have:=oQ.lt; omega);have pY:Fx.Own NW B 128 2 (bM l (tn+1) o) (tn+1) (rv .u64 (kL (Bu t tn tn))):=ho2.congr (xw t tn);have b15:jL (fun k=>k=tb\/(Value.slice ta tn tc).ownBlock=some k) w NW:=Fx.jL.grow b14 hg2 (fun k e => .inl (.inr e));have abr:(fun k=>k=tb\/(Value.slice ta tn tc).ownBlock=some k) l\/w.heap.size<=l:=MF.elim (fun e => .inl (.inr e)) (fun e => .inr (by rw[e]; exact b14.size));refine av (pt tb)<|av (pt tb)<|jh qD 0 (bM l (tn+1) o) fun Mj rQ s13 z7 => ?_;have rR:aQ Mj tb 1 (fun _=>bM l (tn+1) o) 123:=dJ rQ;have oU:=pY.aak s13 (by omega);have b16:=b15.then s13 (.inl (.inl rfl));refine aC<|Ws<|Wb<|Wo (fun f M => ∃ k:Nat,k<=tn/\(∀ i,k<=i->i<tn->id<t i 0)/\f 0=(pt tb)/\f 1=aD id/\f 2=aD par/\f 7=au (k:Int)/\aQ M tb 1 (fun _=>bM l (tn+1) o) 123/\Fx.Own M B 128 2 (bM l (tn+1) o) (tn+1) (rv .u64 (kL (Bu t tn k)))/\jL (fun k=>k=tb\/(Value.slice ta tn tc).ownBlock=some k) w M) (fun f _=>(intOf (f 7)).toNat) ⟨tn,by omega,(fun i r N=>L_ r (by omega)),(by rfl),Fx.ic,Fx.ic,Fx.ic,rR,oU,b16⟩ ?_;rintro f2 w16 ⟨k,hk,J,O,h6,h7,C,S,mZ,b17⟩;refine Ws<|ay<|aS C ?_;by_cases V:0<(k:Int)
  ·obtain⟨j,H⟩ : ∃ j,k=j+1:=⟨k-1,by omega⟩;refine Lv aG (lH V)<|av aG<|aS O<|av (pt tb)<|av (pt tb)<|Lv (bM l (tn+1) o) (aN S.aI 0)<|aS C<|Lv (au j) fU<|Lv (pf l (2*j)) (dh 2)<|av (pf l (2*j))<|Lv (aD (t j 0)) (aN mZ.aI (2*j) (za (by omega) (by omega) (by omega)))<|aS h6 ?_;by_cases u:id<(t j 0)
   ·refine Lv aG (lH u)<|av aG<|aC<|aO<|Wk<|sN<|Wb<|Ws ?_;refine Wt 14 (by kernel_rfl) (by kernel_rfl) fun Cw gD nC => ?_;have Dm:Stp w16.heap.size w16 Cw:=Sb gD;have⟨mP,nR⟩:=eZ gD S mZ;have b18:=b17.then Dm (.inr b17.size);refine ql (pt tb) (Rv O)<|El (pt tb)<|El (pt tb)<|ql (bM l (tn+1) o) (aN mP.aI 0)<|ql (au k) (Rv C)<|ql (pt tb) (Rv O)<|El (pt tb)<|El (pt tb)<|ql (bM l (tn+1) o) (aN mP.aI 0)<|ql (au k) (Rv C)<|ql (au j) fU<|ql (pf l (2*j)) (dh 2)<|ql (.agg (aA 2 (rv .u64 (t j)))) (fG nR.aI (2*j) (fun i hi=>Tx (by omega) (by omega) hi))<|ql (pf l (2*k)) (dh 2)<|Fx.St.nil ?_;refine zB nR (2*k) fun Sg qY s15 z8 => ?_;have qE:=mP.cZ s15 (by omega);have b19:=b18.then s15 abr;have nE:Fx.Own Sg B 128 2 (bM l (tn+1) o) (tn+1) (rv .u64 (kL (Bu t tn j))):=qY.congr (yg H (by omega));refine aC<|Wl<|aS C<|Lv (au j) fU<|av (au j)<|Ln<|bO<|gH ⟨j,by omega,(Ob H J u),O,(h6.trans Fx.ic),(h7.trans Fx.ic),Fx.ic,qE,nE,b19⟩ ?_;show(intOf (au j)).toNat<_;simp only[C,intOf]; omega
   refine Lv aF (lI u)<|av aF<|aC<|aK<|Wx<|bY<|gG<|bZ<|sN<|ay<|aS O<|av (pt tb)<|av (pt tb)<|Lv (bM l (tn+1) o) (aN S.aI 0)<|aS C<|aS h6<|aS h7<|av (.agg (aA 2 (bH (bH (rv .u64 (fun _=>0)) 0 1 (fun _=>aD id)) 1 1 (fun _=>aD par))))<|Lv (pf l (2*k)) (dh 2)<|zB mZ (2*k) (h1:=(fun j Z=>by rcases j with _|_|j <;> first|rfl|omega)) fun Si qF s16 z9 => ?_
   have wJ:=S.cZ s16 (by omega);have b20:=b17.then s16 abr;have rY:Fx.Own Si B 128 2 (bM l (tn+1) o) (tn+1) (rv .u64 (kL (ow t k id par))):=qF.congr (sF (by omega));refine aC<|ay<|av (au 0)<|aC<|Wr<|aJ (au 0) ?_;have c:jo t tn id par=0:=(by unfold jo; rw[b_ q,b_ (j_ p),b_ (fun h=>by have:=h_ z; omega),b_ (fun h=>h.elim (fun h=>by omega) (DR W (by omega)))]);have I:k=down (fun i=>decide (id<t i 0)) tn:=Fx.oG hk (fun i a b=>f_ (J i a b)) (.inr (fun j e=>by have x:j=_:=Nat.succ.inj (e.symm.trans H); subst x; exact g_ u));exact⟨oO c.symm,b20,.inr ⟨c,l,o,wJ,by rw[<- I]; exact rY,fun e=>afw (B_ e).symm⟩⟩
  refine Lv aF (lI V)<|av aF<|dw<|dw<|dw<|dw<|dw<|dw<|dw<|dw<|dw<|dw<|dw<|av aF<|aC<|aK<|Wx<|bY<|gG<|bZ<|sN<|ay<|aS O<|av (pt tb)<|av (pt tb)<|Lv (bM l (tn+1) o) (aN S.aI 0)<|aS C<|aS h6<|aS h7<|av (.agg (aA 2 (bH (bH (rv .u64 (fun _=>0)) 0 1 (fun _=>aD id)) 1 1 (fun _=>aD par))))<|Lv (pf l (2*k)) (dh 2)<|zB mZ (2*k) (h1:=(fun j Z=>by rcases j with _|_|j <;> first|rfl|omega)) fun Zk sJ Jr z10 => ?_
  have uV:=S.cZ Jr (by omega);have LB:=b17.then Jr abr;have uy:Fx.Own Zk B 128 2 (bM l (tn+1) o) (tn+1) (rv .u64 (kL (ow t k id par))):=sJ.congr (sF (by omega));refine aC<|ay<|av (au 0)<|aC<|Wr<|aJ (au 0) ?_;have c:jo t tn id par=0:=by unfold jo; rw[b_ q,b_ (j_ p),b_ (fun h=>by have:=h_ z; omega),b_ (fun h=>h.elim (fun h=>by omega) (DR W (by omega)))]
  have I:k=down (fun i=>decide (id<t i 0)) tn:=Fx.oG hk (fun i a b=>f_ (J i a b)) (.inl (by omega));exact⟨oO c.symm,LB,.inr ⟨c,l,o,uV,by rw[<- I]; exact uy,fun e=>afw (B_ e).symm⟩⟩
 rw[S_]at z;refine dP (Oa tb ta tn tc t par _ (sP E L Q)) aF (by rw[z]) ?_;intro Sl hb6;have LG:=Sb hb6;have⟨tY,uz⟩:=eZ hb6 E L;have LC:=F.then LG (.inr F.size);refine av aG<|av aG<|aC<|aO<|ay<|av (au 9)<|aC<|Wr<|sR<|aJ (au 9) ?_;have c:jo t tn id par=9:=by unfold jo; rw[b_ q,b_ (j_ p),d_ ⟨G,by have:=j_ z; omega⟩]
 exact⟨oO c.symm,LC,.inl ⟨by rw[c]; decide,tY,uz⟩⟩
namespace Rt
def iY(o a:Int):Int:=if 1<=o/\o<=6/\1<=a/\a<1099511627776 then 1099511627776*o+a else 0
end Rt
theorem akC(o a:Int)(w:World) :
 Calls Tryz.prog 50 #[au o,aD a] w fun e w'=>e = .returned (aD (iY o a))/\w'=w:=by
 refine Kent Tryz.func50 24 ?_;refine ay<|av (aD 0)<|aC<|Ws<|ay<|av (au o) ?_;by_cases f:o<1
 ·refine Lv aG (gI f)<|av aG<|dw<|dw<|av aG<|av aG<|dw<|dw<|av aG<|av aG<|dw<|dw<|av aG<|aC<|aO<|ay<|av (aD 0)<|aC<|Wr<|sR<|aJ (aD 0) ?_;exact⟨K_ (fun q=>Ending.returned (Value.int .u64 q)) (Eq.symm (by unfold iY; rw[b_ (by omega)])),rfl⟩
 refine Lv aF (gJ f)<|av aF<|av (au o) ?_;by_cases g:6<o
 ·refine Lv aG (lH g)<|av aG<|av aG<|dw<|dw<|av aG<|av aG<|dw<|dw<|av aG<|aC<|aO<|ay<|av (aD 0)<|aC<|Wr<|sR<|aJ (aD 0) ?_;exact⟨K_ (fun q=>Ending.returned (Value.int .u64 q)) (Eq.symm (by unfold iY; rw[b_ (by omega)])),rfl⟩
 refine Lv aF (lI g)<|av aF<|av aF<|av (aD a) ?_;by_cases c:a<1
 ·refine Lv aG (gI c)<|av aG<|av aG<|dw<|dw<|av aG<|aC<|aO<|ay<|av (aD 0)<|aC<|Wr<|sR<|aJ (aD 0) ?_;exact⟨K_ (fun q=>Ending.returned (Value.int .u64 q)) (Eq.symm (by unfold iY; rw[b_ (by omega)])),rfl⟩
 refine Lv aF (gJ c)<|av aF<|av aF<|av (aD a) ?_;by_cases d:1099511627776<=a
 ·refine Lv aG (jW d)<|av aG<|aC<|aO<|ay<|av (aD 0)<|aC<|Wr<|sR<|aJ (aD 0) ?_;exact⟨K_ (fun q=>Ending.returned (Value.int .u64 q)) (Eq.symm (by unfold iY; rw[b_ (by omega)])),rfl⟩
 refine Lv aF (jQ d)<|av aF<|aC<|aK<|Wk<|sN<|ay<|av (au o)<|Lv (aD o) (dD rfl rfl (by kernel_rfl) Tryz.underlying28 (jJ (by omega) rfl))<|Lv (aD (1099511627776*o)) (Fx.JH (b:=40) rfl rfl rfl (by decide) (jJ (by omega) (by omega)))<|av (aD a)<|Lv (aD (1099511627776*o+a)) eT<|av (aD (1099511627776*o+a))<|aC<|Wr<|aJ (aD (1099511627776*o+a)) ?_;exact⟨K_ (fun q=>Ending.returned (Value.int .u64 q)) (Eq.symm (by unfold iY; rw[d_ (by omega)])),rfl⟩
theorem Zv(a:Option Addr)(n cap:Nat)(w:World) :
 Calls Tryz.prog 10 #[.slice a (n) (cap)] w fun e w'=>e = .returned (.bool (decide ((n:Int)<=60)))/\w'=w:=by
 refine Kent Tryz.func10 6 ?_;refine ay<|av aF<|aC<|ay<|av (.slice a (n) (cap))<|av (au n) ?_;by_cases b:(n:Int)<=60
 ·refine Lv aG (ny b)<|av aG<|aC<|Wr<|aJ aG ?_;exact⟨iw (Eq.symm (f_ b)),rfl⟩
 refine Lv aF (nS b)<|av aF<|aC<|Wr<|aJ aF ?_;exact⟨iw (Eq.symm (g_ b)),rfl⟩
section
theorem app0{s:Nat}{x y:Nat->Value}(j:Nat):iD x (0*s) y j=y j:=by unfold iD; rw[Nat.zero_mul,b_ (u_ _)]; rfl
theorem uH(id par:Int)(R:Nat->Int)(j:Nat):(lV id par R j).oneCell'=true:=by unfold lV; split <;> (try split) <;> rfl
theorem MG(id par:Int)(R:Nat->Int){q p:Nat}(h:q=p+2):lV id par R q=au (R p):=by subst h; unfold lV; rw[b_ (by omega),b_ (by omega),Nat.add_sub_cancel]
theorem sQ(x:Nat->Int)(j:Nat):(iX x j).oneCell'=true:=by unfold iX; split <;> (try split) <;> rfl
theorem Xh(m:kZ)(j:Nat):(Jt m j).oneCell'=true:=uH _ _ _ _
theorem Xi(m:kZ)(j:Nat):(IK m j).oneCell'=true:=sQ _ _
theorem Xj(m:CB)(j:Nat):(nK m j).oneCell'=true:=by unfold nK; repeat (first|rfl|split)
def su(m:kZ)(i:Nat):Value := .slice (m.ra i) (m.rn i) (m.rc i)
def vU(w:World)(B k:Nat)(m:kZ):Prop :=
 (∀ i,i<k->Fx.Own w B 28 1 (su m i) (m.rn i) (rv .u64 (m.rq i))) /\ ∀ i j,i<k->j<k->i≠j -> ∀ g,(su m i).ownBlock=some g->(su m j).ownBlock≠some g
section
variable {w w':World} {B k:Nat} {m:kZ}
theorem vU.up(h:vU w B k m)(a:Below w.heap.size w w'):vU w' B k m:=⟨fun i b=>(h.1 i b).up a,h.2⟩
instance:Rt.Tr w w' (vU w B k m) (vU w' B k m):=⟨fun b h=>h.up b⟩
theorem vU.kr{a:List TypeId}(h:vU w B k m)(c:iQ a w w')(d:a.contains 28=false):vU w' B k m:=⟨fun i b=>(h.1 i b).kr c d,h.2⟩
instance {a:List TypeId}:Rt.Tc a w w' (vU w B k m) (vU w' B k m) (!(a.contains 28)):=⟨fun b h e=>h.kr b (by simpa using e)⟩
theorem vU.zero(w:World)(B:Nat)(m:kZ):vU w B 0 m:=⟨fun _ h=>L_ h (u_ _),fun _ _ h=>L_ h (u_ _)⟩
theorem vU.fresh(h:vU w B k m){v:Value}(c:v = .slice none 0 0\/v.ownBlock=(Value.slice none 0 0).ownBlock\/v.ownBlock=some w.heap.size) : ∀ i,i<k -> ∀ g,(su m i).ownBlock=some g->v.ownBlock≠some g:=fun i b g a e=>by
 have d:=((h.1 i b).ge a).2
 rcases c with rfl|e2|e2
 ·cases e
 ·rw[e]at e2; cases e2
 ·rw[e]at e2; have:=B_ e2; omega
theorem vU.snoc{a:kZ}(h:vU w B k m)(c : ∀ i,i<k->su a i=su m i/\a.rn i=m.rn i/\a.rq i=m.rq i)(s:Fx.Own w B 28 1 (su a k) (a.rn k) (rv .u64 (a.rq k)))(l : ∀ i,i<k -> ∀ g,(su m i).ownBlock=some g->(su a k).ownBlock≠some g):vU w B (k+1) a:=by
 refine⟨fun i t => ?_,fun i j t u n g b => ?_⟩
 ·by_cases e:i=k
  ·subst e; exact s
  obtain⟨p,q,r⟩:=c i (by omega);rw[p,q,r]; exact h.1 i (by omega)
 by_cases o:i=k
 ·subst o;by_cases d:j=i
  ·exact L_ d.symm n
  intro f;rw[(c j (by omega)).1]at f;exact l j (by omega) g f b
 rw[(c i (by omega)).1]at b;by_cases d:j=k
 ·subst d; exact l i (by omega) g b
 rw[(c j (by omega)).1]; exact h.2 i j (by omega) (by omega) n g b
end
structure uY(w:World)(B p:Nat)(m:kZ):Prop where
 c:aQ w p 27 (mE m) 71
 n:Fx.Own w B 61 56 (.slice m.s.na m.s.nn m.s.nc) m.s.nn (Jt m)
 g:Fx.Own w B 66 5 (.slice m.s.ga m.s.gn m.s.gc) m.s.gn (IK m)
 tc:aQ w m.tb 1 (fun _ => .slice m.ta m.tn m.tc) 123
 t:Fx.Own w B 128 2 (.slice m.ta m.tn m.tc) m.tn (PX m.t)
 r:vU w B 6 m
 pB:B<=p
 tB:B<=m.tb
 bn:m.s.nn<=1000
 bg:m.s.gn<=1000000
 bt:m.tn<=1000
 br : ∀ i,i<6->m.rn i<=1000000
section
variable {w w':World} {B p:Nat} {m:kZ}
theorem uY.ldg(h:uY w B p m):CF w p m where
 c:=h.c.aI
 an:=h.n.arr
 ag:=h.g.arr
 tc:=h.tc.aI
 at2:=h.t.arr
 ar:=fun i a=>(h.r.1 i a).arr
 bn:=by have:=h.bn; omega
 bg:=h.bg
 bt:=by have:=h.bt; omega
 br:=h.br
theorem uY.up(h:uY w B p m)(a:Below w.heap.size w w'):uY w' B p m := { h with c:=h.c.cZ (Sb a) (t_ h.c.lt),n:=h.n.up a,g:=h.g.up a,tc:=h.tc.cZ (Sb a) (t_ h.tc.lt),t:=h.t.up a,r:=h.r.up a }
instance:Rt.Tr w w' (uY w B p m) (uY w' B p m):=⟨fun b h=>h.up b⟩
def Kn:List Nat := [71,61,66,123,128,28]
theorem uY.kr{e:List TypeId}(h:uY w B p m)(b:iQ e w w')(i:(Kn.all fun T => !e.contains T)=true):uY w' B p m:=by
 have a : ∀ d∈Kn,e.contains d=false:=fun d f=>by
  have:=List.all_eq_true.1 i d f
  simpa using this
 exact { h with
  c:=h.c.kr b (a _ (by decide)),n:=h.n.kr b (a _ (by decide)),g:=h.g.kr b (a _ (by decide)),tc:=h.tc.kr b (a _ (by decide)),t:=h.t.kr b (a _ (by decide)),r:=h.r.kr b (a _ (by decide)) }
instance {a:List TypeId}:Rt.Tc a w w' (uY w B p m) (uY w' B p m) (Kn.all fun T => !a.contains T):=⟨fun b h e=>h.kr b (by simpa using e)⟩
theorem uY.mono{b:Nat}(h:uY w B p m)(a:b<=B):uY w b p m := { h with n:=h.n.mono a,g:=h.g.mono a,t:=h.t.mono a,r:=⟨fun i c=>(h.r.1 i c).mono a,h.r.2⟩,pB:=m_ a h.pB,tB:=m_ a h.tB }
end
def Ko(m:kZ)(na:Option Addr)(nc:Nat)(ga:Option Addr)(gc tb:Nat)(ta:Option Addr)(tc:Nat)(ra:Nat->Option Addr)(rc:Nat->Nat)(k:Nat):kZ :=
 { m with s := { m.s with na:=na,nc:=nc,ga:=ga,gc:=gc },tb:=tb,ta:=ta,tc:=tc,ra:=fun i=>if i<k then ra i else none,rn:=fun i=>if i<k then m.rn i else 0,rc:=fun i=>if i<k then rc i else 0 }
def aH{a:Type}(f:Nat->a)(k:Nat)(v:a):Nat->a:=fun i=>if i=k then v else f i
section
variable {m:kZ} {na:Option Addr} {nc:Nat} {ga:Option Addr} {gc tb:Nat} {ta:Option Addr} {tc:Nat} {ra:Nat->Option Addr} {rc:Nat->Nat} {k:Nat}
theorem Xk{q:Nat}(h:q=k+21):mE (Ko m na nc ga gc tb ta tc ra rc k) q = .slice none 0 0:=by
 subst h;rw[vT (p:=k) _ rfl];show Value.slice (if k<k then ra k else none) (if k<k then m.rn k else 0) (if k<k then rc k else 0)=_;rw[b_ (Nat.lt_irrefl _),b_ (Nat.lt_irrefl _),b_ (Nat.lt_irrefl _)]
theorem yx{i:Nat}(h:i<k):su (Ko m na nc ga gc tb ta tc ra rc k) i = .slice (ra i) (m.rn i) (rc i):=by
 show Value.slice (if i<k then ra i else none) (if i<k then m.rn i else 0) (if i<k then rc i else 0)=_;rw[d_ h,d_ h,d_ h]
theorem Tz{a:Option Addr}{c q:Nat}(f:q=k+21):dB (mE (Ko m na nc ga gc tb ta tc ra rc k)) q (.slice a (m.rn k) c)=mE (Ko m na nc ga gc tb ta tc (aH ra k a) (aH rc k c) (k+1)):=by
 subst f
 funext p
 unfold dB;by_cases e:p=k+21
 ·subst e; rw[d_ rfl];rw[vT (p:=k) _ rfl];show _=Value.slice (if k<k+1 then aH ra k a k else none) (if k<k+1 then m.rn k else 0) (if k<k+1 then aH rc k c k else 0);simp[aH]
 rw[b_ e];unfold mE;by_cases h:p<20
 ·rw[d_ h,d_ h]; rfl
 rw[b_ h,b_ h];by_cases b:p=20
 ·rw[d_ b,d_ b]; rfl
 rw[b_ b,b_ b];show Value.slice (if p-21<k then ra (p-21)else none) (if p-21<k then m.rn (p-21)else 0) (if p-21<k then rc (p-21)else 0)=Value.slice (if p-21<k+1 then aH ra k a (p-21)else none) (if p-21<k+1 then m.rn (p-21)else 0) (if p-21<k+1 then aH rc k c (p-21)else 0);by_cases d:p-21<k
 ·simp[aH,d,show p-21<k+1 by omega,show ¬ p-21=k by omega]
 simp[d,show ¬ p-21<k+1 by omega]
theorem Xl{w:World}{B:Nat}{a:Option Addr}{c:Nat}(h:vU w B k (Ko m na nc ga gc tb ta tc ra rc k))(e:Fx.Own w B 28 1 (.slice a (m.rn k) c) (m.rn k) (rv .u64 (m.rq k)))
 (f : ∀ i,i<k -> ∀ g,(su (Ko m na nc ga gc tb ta tc ra rc k) i).ownBlock=some g->(Value.slice a (m.rn k) c).ownBlock≠some g):vU w B (k+1) (Ko m na nc ga gc tb ta tc (aH ra k a) (aH rc k c) (k+1)):=by
 have b:su (Ko m na nc ga gc tb ta tc (aH ra k a) (aH rc k c) (k+1)) k = .slice a (m.rn k) c:=by
  rw[yx (by omega)]; unfold aH; rw[d_ rfl,d_ rfl]
 refine h.snoc (fun i d=>⟨?_,?_,rfl⟩) ?_ ?_
 ·rw[yx (by omega),yx d]; unfold aH; rw[b_ (by omega),b_ (by omega)]
 ·show(if i<k+1 then m.rn i else 0)=(if i<k then m.rn i else 0);rw[d_ (by omega),d_ d]
 ·rw[b];show Fx.Own w B 28 1 _ (if k<k+1 then m.rn k else 0) _;rw[d_ (by omega)]; exact e
 rw[b]; exact f
end
def atM(m:kZ)(na:Option Addr)(nc:Nat)(ga:Option Addr)(gc tb:Nat)(ta:Option Addr)(tc:Nat)(ra:Nat->Option Addr)(rc:Nat->Nat):kZ :=
 { m with s := { m.s with na:=na,nc:=nc,ga:=ga,gc:=gc },tb:=tb,ta:=ta,tc:=tc,ra:=ra,rc:=rc }
section
variable {m:kZ} {na:Option Addr} {nc:Nat} {ga:Option Addr} {gc tb:Nat} {ta:Option Addr} {tc:Nat} {ra:Nat->Option Addr} {rc:Nat->Nat}
theorem afx : ∀ j,j<27->mE (Ko m na nc ga gc tb ta tc ra rc 6) j=mE (atM m na nc ga gc tb ta tc ra rc) j:=fun j b=>by
 unfold mE;by_cases h:j<20
 ·rw[d_ h,d_ h]; rfl
 ·rw[b_ h,b_ h];by_cases a:j=20
  ·rw[d_ a,d_ a]; rfl
  ·rw[b_ a,b_ a];show Value.slice (if j-21<6 then ra (j-21)else none) (if j-21<6 then m.rn (j-21)else 0) (if j-21<6 then rc (j-21)else 0)=Value.slice (ra (j-21)) (m.rn (j-21)) (rc (j-21));rw[d_ (by omega),d_ (by omega),d_ (by omega)]
theorem Xm{w:World}{B:Nat}(h:vU w B 6 (Ko m na nc ga gc tb ta tc ra rc 6)):vU w B 6 (atM m na nc ga gc tb ta tc ra rc):=by
 refine⟨fun i a => ?_,fun i j a b d g c => ?_⟩
 ·have:=h.1 i a;rw[yx a]at this;have e:(Ko m na nc ga gc tb ta tc ra rc 6).rn i=m.rn i:=by show(if i<6 then m.rn i else 0)=_; rw[d_ a]
  rw[e]at this;exact this
 have:=h.2 i j a b d g;rw[yx a,yx b]at this;exact this c
end
end
set_option maxRecDepth 20000 in
set_option maxHeartbeats 1000000 in
theorem abt(m:kZ)(p:Nat)(w:World)(h:CF w p m)(bn1:m.s.nn<=1000)(bt1:m.tn<=1000) :
 Calls Tryz.prog 53 #[(pt p)] w fun e w' => ∃ p' m',e = .returned (pt p')/\m'.core=m.core/\uY w' w.heap.size p' m'/\Below w.heap.size w w':=by
 have N:=h.c;have lp:p<w.heap.size:=N.lt (by omega);have bn:=h.bn;have bg:=h.bg;have bt:=h.bt;have han:=h.an;have hag:=h.ag;have hat:=h.at2;have htc:=h.tc;have QU:m.tb<w.heap.size:=htc.lt (by omega);refine Kent Tryz.func53 79 ?_;refine ay<|av (.pointer none)<|aC<|ay<|av (pt p)<|av (pt p)<|av (pt p)<|Lv (.agg (aA 20 (nK m.s))) (fG N 0 (fun j hj=>(show mE _ (0+j)=nK _ j by rw[E_]; exact lN _ hj rfl)))<|av (.agg (aA 1 (fun _ => .slice none 0 0)))<|qM fun b w1 kU m1 s1 z1 => ?_;have⟨m2,m3,b1⟩:=jG s1.old N htc (Below.refl w.heap.size w);have tC:=iq kU;have nD:p≠b:=by rw[kU]; exact t_ (N.lt (by omega))
 have Zw:m.tb≠b:=by rw[kU]; exact t_ (htc.lt (by omega))
 have uU:=m1.lt;refine av (.agg (aA 27 (bH (bH (fun o=>if o<12 then .bool false else if o<18 then aD 0 else if o<20 then .slice none 0 0 else if o<21 then .pointer none else .slice none 0 0) 0 20 (nK m.s)) 20 1 (fun _=>(pt b)))))<|Dz (m:=27) (y:=bH (bH (fun o=>if o<12 then .bool false else if o<18 then aD 0 else if o<20 then .slice none 0 0 else if o<21 then .pointer none else .slice none 0 0) 0 20 (nK m.s)) 20 1 (fun _=>(pt b))) (by rfl) rfl rfl (bI _ _) rfl fun a w2 V m4 s2 z2 => ?_;have⟨m5,m6,m7,b2⟩:=mK s2.old m2 m3 m1 b1;have rU:=jE V b1.size;have Zx:p≠a:=by rw[V]; exact t_ (m2.lt (by omega))
 have afy:m.tb≠a:=by rw[V]; exact t_ (m3.lt (by omega))
 have TA:=cK V m1.lt;have Av:=m4.lt;refine av (pt a)<|aC<|ay<|av (pt a)<|Fx.L.NI (s:=56) (by rfl) rfl Tryz.underlying50 (by kernel_rfl) rfl fun g3 w3 zI hO1 s3 => ?_;have P:Fx.Own w3 w.heap.size 61 56 (bM g3 0 0) 0 (Jt m):=hO1 _ _ (by rw[zI]; exact b2.size);have⟨m9,m10,m11,m12,S⟩:=wR s3.old m5 m6 m7 m4 b2;refine av (pt p)<|av (pt p)<|av (pt p)<|av (pf p 18)<|Lv (.slice m.s.na (m.s.nn) (m.s.nc)) (aN m9 18)<|Fx.L.Im (B:=w.heap.size) (s:=56) (bytes:=448) (k:=0) (m:=m.s.nn) (v:=bM g3 0 0) (x:=Jt m) (by rfl) rfl rfl rfl Tryz.underlying50 (by kernel_rfl) (by kernel_rfl) rfl rfl P (han.up S rfl) (fun j _=>Xh m j) (by omega) (by omega) S.size fun vv1 w4 ho1 X uo => ?_;rw[E_]at ho1;obtain⟨C,E,rfl⟩:=ho1.val;have gN:=yL X P;have m14:=m9.grown X (P.not (by omega));have m15:=m10.grown X (P.not (by omega));have⟨m16,m17⟩:=Dh gN m11 m12;have m13:Fx.Own w4 w.heap.size 61 56 (.slice C (m.s.nn) (E)) m.s.nn (Jt m):=(ho1.congr (fun j _=>app0 j));have b4:Below w.heap.size w w4:=yJ S X S.size (fun q l=>(P.ge l).1);refine av (pt a)<|av (pt a)<|av (pf a 18)<|jh m17 18 (.slice C (m.s.nn) (E)) fun w5 m18 s4 z3 => ?_;have m19:=m14.cZ s4 (by omega);have m20:=m15.cZ s4 (by omega);have jX:=iC s4 m17.ty;have⟨m21,m22⟩:=Dh jX m16 m13;have b5:=s4.below b4 b4.size (by omega);refine aC<|ay<|av (pt a)<|Fx.L.NI (s:=5) (by rfl) rfl Tryz.underlying51 (by kernel_rfl) rfl fun g4 w6 Mg hO2 s5 => ?_;have O:Fx.Own w6 w.heap.size 66 5 (bM g4 0 0) 0 (IK m):=hO2 _ _ (by rw[Mg]; exact b5.size);have⟨m24,mY,nQ,oJ,ou,T⟩:=sV s5.old m19 m20 m21 m22 m18 b5;refine av (pt p)<|av (pt p)<|av (pt p)<|av (pf p 19)<|Lv (.slice m.s.ga (m.s.gn) (m.s.gc)) (aN m24 19)<|Fx.L.Im (B:=w.heap.size) (s:=5) (bytes:=40) (k:=0) (m:=m.s.gn) (v:=bM g4 0 0) (x:=IK m) (by rfl) rfl rfl rfl Tryz.underlying51 (by kernel_rfl) (by kernel_rfl) rfl rfl O (hag.up T rfl) (fun j _=>Xi m j) (by omega) (by omega) T.size fun vv2 w7 ho2 Y MF => ?_;rw[E_]at ho2;obtain⟨D,F,rfl⟩:=ho2.val;have tF:=yL Y O;have oP:=m24.grown Y (O.not (by omega));have mV:=mY.grown Y (O.not (by omega));have⟨m32,oQ,nT⟩:=En tF nQ oJ ou;have qo:Fx.Own w7 w.heap.size 66 5 (.slice D (m.s.gn) (F)) m.s.gn (IK m):=(ho2.congr (fun j _=>app0 j));have b7:Below w.heap.size w w7:=yJ T Y T.size (fun q l=>(O.ge l).1);refine av (pt a)<|av (pt a)<|av (pf a 19)<|jh nT 19 (.slice D (m.s.gn) (F)) fun w8 pY s6 z4 => ?_;have qD:=oP.cZ s6 (by omega);have rQ:=mV.cZ s6 (by omega);have zD:=iC s6 nT.ty;have⟨rR,oU,rT⟩:=En zD m32 oQ qo;have b8:=s6.below b7 b7.size (by omega);refine aC<|Ws ?_;refine Aj [0,1,2,4,5,6,11,12,13,3,7,8,9,10,14,15,16,17,18,19,20,21] [0,0,0,1,0,0,0,4,0,0,4,0,0,0,4,0,0,4,2,0,0,3] (iQ [128]) vH Fx.iQ.trans (fE := [(21,3,[3]),(18,7,[10,9,8,7]),(21,7,[7]),(18,10,[10]),(21,10,[10]),(18,14,[17,16,15,14]),(21,14,[14]),(18,17,[17]),(21,17,[17]),(19,18,[18]),(20,18,[18]),(21,18,[18])]) (by kernel_rfl) (by kernel_rfl) (by kernel_rfl) (by kernel_rfl) (by kernel_rfl) fun I dM gY => ?_;have⟨mZ,mP,nR,qY,qE,nE,U⟩:=jM dM qD rQ rR oU rT pY b8;refine aY (pt a)<|aY (pt a)<|aY (pf a 20)<|aY (pt a)<|aY (pt a)<|aY (pf a 20)<|aY (pt p)<|aY (pt p)<|aY (pf p 20)<|Rd (v:=(pt b)) (by rfl) (by rfl) (vH _) (fun v1 hv1=>bA (x:=dB (dB (bH (bH (fun o=>if o<12 then .bool false else if o<18 then aD 0 else if o<20 then .slice none 0 0 else if o<21 then .pointer none else .slice none 0 0) 0 20 (nK m.s)) 20 1 (fun _=>(pt b))) 18 (.slice C (m.s.nn) (E))) 19 (.slice D (m.s.gn) (F))) rfl rfl (by kernel_rfl) (nE.kr hv1 (by decide)).aI (i:=20) (by omega) (by omega) (Fx.Ag (by omega) (Fx.Ag (by omega) (Fx.pW (j:=0) (by omega) (by omega) rfl)))) ?_;refine Rs (pt b) (aN nE.aI 20 (Fx.Ag (by omega) (Fx.Ag (by omega) (Fx.pW (j:=0) (by omega) (by omega) rfl)))) ?_;refine aY (pt b)<|aY (pt b)<|Rs (.slice none 0 0) (aN nR.aI 0) ?_;refine Rs (pt m.tb) (aN mZ 20) ?_;refine aY (pt m.tb)<|aY (pt m.tb)<|Rs (.slice m.ta (m.tn) (m.tc)) (aN mP 0) ?_;refine Bc<|Fx.L.Im (B:=w.heap.size) (s:=2) (bytes:=16) (k:=0) (m:=m.tn) (v := .slice none 0 0) (x:=PX m.t) (by rfl) rfl rfl rfl Tryz.underlying121 (by kernel_rfl) (by kernel_rfl) rfl rfl (wF I w.heap.size 128 2 (PX m.t)) (hat.up U rfl) (fun _ _=>rfl) (by omega) (by omega) U.size fun vv3 w9 ho3 A auF => ?_;rw[E_]at ho3
 obtain⟨u,z,rfl⟩:=ho3.val;have yN:=yL A (wF I w.heap.size 128 2 (PX m.t));have hq1:Below I.heap.size I w9:=⟨A.os,A.tape,A.output,A.size,fun q l=>A.block q l (fun e=>by cases e)⟩
 have wJ:=mZ.cZ (Sb hq1) (t_ (mZ.lt (by omega)));have hq2:Below I.heap.size I w9:=⟨A.os,A.tape,A.output,A.size,fun q l=>A.block q l (fun e=>by cases e)⟩
 have rY:=mP.cZ (Sb hq2) (t_ (mP.lt (by omega)));have⟨sJ,uV,uy,tY⟩:=Ma yN nR qY qE nE;have qF:Fx.Own w9 w.heap.size 128 2 (.slice u (m.tn) (z)) m.tn (PX m.t):=(ho3.congr (fun j _=>app0 j));have b10:Below w.heap.size w w9:=yJ U A U.size (fun q l=>((wF I w.heap.size 128 2 (PX m.t)).ge l).1);refine Ln ⟨yN,?_⟩;refine aY (pt b)<|aY (pt b)<|gK<|jh sJ 0 (.slice u (m.tn) (z)) fun tH uz s8 z5 => ?_;have xH:aQ tH b 1 (fun _ => .slice u (m.tn) (z)) 123:=dJ uz;have tZ:=wJ.cZ s8 (by omega);have sK:=rY.cZ s8 (by omega);have yO:=iC s8 sJ.ty;have⟨uf,xI,qb,wK⟩:=Ma yO uV uy tY qF;have b11:=s8.below b10 b10.size (by omega);refine Ln<|bQ<|Ws<|ay<|av (au 0)<|aC<|Wb ?_;have nY:aQ tH a 27 (mE (Ko m C E D F b u z (fun _=>none) (fun _=>0) 0)) 71:=qb.congr (fun j hj=>by rcases j with _|_|_|_|_|_|_|_|_|_|_|_|_|_|_|_|_|_|_|_|_|_|_|_|_|_|_|j <;> first|rfl|omega)
 have tJ:=vU.zero tH w.heap.size (Ko m C E D F b u z (fun _=>none) (fun _=>0) 0);refine Wo (fun f H => ∃ k:Nat,∃ ra:Nat->Option Addr,∃ rc:Nat->Nat,k<=6/\f 0=(pt p)/\f 3=(pt a)/\f 4=au (k:Int)/\iO H p 0 27 (mE m)/\Fx.Own H w.heap.size 61 56 (.slice C (m.s.nn) (E)) m.s.nn (Jt m)/\Fx.Own H w.heap.size 66 5 (.slice D (m.s.gn) (F)) m.s.gn (IK m)/\Fx.Own H w.heap.size 128 2 (.slice u (m.tn) (z)) m.tn (PX m.t)/\aQ H b 1 (fun _ => .slice u (m.tn) (z)) 123/\aQ H a 27 (mE (Ko m C E D F b u z ra rc k)) 71/\vU H w.heap.size k (Ko m C E D F b u z ra rc k)/\Below w.heap.size w H) (fun f _=>(6-(intOf (f 4)).toNat)) ⟨0,(fun _=>none),(fun _=>0),by omega,(by rfl),(by rfl),Fx.ic,tZ,uf,xI,wK,xH,nY,tJ,b11⟩ ?_;rintro f1 FT ⟨k,ra,rc,hk,h1,W,J,m64,wS,wL,wT,wU,rZ,uW,b12⟩;refine Ws<|ay<|aS J ?_;by_cases c57:(k:Int)<6
 ·refine Lv aG (gI c57)<|aC<|aO<|Wk<|sN<|Ws<|Wb ?_;have brk:=h.br k (by omega);have vN:=N.below b12 lp;refine Aj [0,1,2,3,4,5,6,8,9,10,11,12,15,16,7,13,14,17,18] [0,0,0,0,0,0,0,4,0,0,0,0,0,4,2,0,0,0,3] (iQ [28]) vH Fx.iQ.trans (fE := [(14,7,[7]),(18,7,[7]),(14,13,[13]),(18,13,[13]),(17,14,[14]),(18,14,[14])]) (by kernel_rfl) (by kernel_rfl) (by kernel_rfl) (by kernel_rfl) (by kernel_rfl) fun G gD nC => ?_;have⟨wM,uX,zk,wN,yP,yQ,yR,wZ,R⟩:=Bj gD m64 wS wL wT wU rZ uW vN b12;refine bU W<|bU J<|bU W<|bU J<|aY (pt a)<|aY (pf a 21)<|Rp (pf a (k+21)) (fun _=>jD 6 1)<|bU h1<|bU J<|aY (pt p)<|aY (pf p 21)<|Rp (pf p (k+21)) (fun _=>jD 6 1)<|aY (pt a)<|aY (pf a 21)<|Rs (.slice none 0 0) (aN yQ.aI (k+21) (Xk (by omega))) ?_;refine Rs (.slice (m.ra k) (m.rn k) (m.rc k)) (aN wM (k+21) (vT _ (by omega))) ?_;refine Bc<|Fx.L.Im (B:=w.heap.size) (s:=1) (bytes:=8) (k:=0) (m:=(m.rn k)) (v := .slice none 0 0) (x:=rv .u64 (m.rq k)) (by rfl) rfl rfl rfl Tryz.underlying63 (by kernel_rfl) (by kernel_rfl) rfl rfl (wF G w.heap.size 28 1 (rv .u64 (m.rq k))) ((h.ar k (by omega)).up R rfl) (fun _ _=>rfl) (by omega) (by omega) R.size fun vv4 Q ho4 d akF => ?_;rw[E_]at ho4;obtain⟨K,M,rfl⟩:=ho4.val;have Az:=yL d (wF G w.heap.size 28 1 (rv .u64 (m.rq k)));have hq3:Below G.heap.size G Q:=⟨d.os,d.tape,d.output,d.size,fun q l=>d.block q l (fun e=>by cases e)⟩
  have vO:=wM.cZ (Sb hq3) (t_ (wM.lt (by omega)));have⟨xJ,zF,xK,Aq,Ar⟩:=qV Az uX zk wN yP yQ;have hq4:Below G.heap.size G Q:=⟨d.os,d.tape,d.output,d.size,fun q l=>d.block q l (fun e=>by cases e)⟩
  have Ac:=yR.up hq4;have hq5:Below G.heap.size G Q:=⟨d.os,d.tape,d.output,d.size,fun q l=>d.block q l (fun e=>by cases e)⟩
  have zG:=wZ.cZ (Sb hq5) (t_ (wZ.lt (by omega)));have wV:Fx.Own Q w.heap.size 28 1 (.slice K (m.rn k) (M)) (m.rn k) (rv .u64 (m.rq k)):=(ho4.congr (fun j _=>app0 j));have b14:Below w.heap.size w Q:=yJ R d R.size (fun q l=>((wF G w.heap.size 28 1 (rv .u64 (m.rq k))).ge l).1);have hf1:=yR.fresh akF;refine Ln ⟨Az,?_⟩;refine Rp (pf a (k+21)) (fun _=>jD 6 1)<|gK<|jh Ar (k+21) (.slice K (m.rn k) (M)) fun Gz zH Z z6 => ?_;have Au:=vO.cZ Z (by omega);have EC:=iC Z Ar.ty;have⟨Ey,Dr,Bv,CJ,zM⟩:=qV EC xJ zF xK Aq Ac;have FU:=zG.cZ Z (by omega);have DT:=kY EC wV;have b15:=Z.below b14 b14.size (by omega);refine Ln<|Rn<|bO<|sN<|Wl<|aS J<|Lv (au ((k:Int)+1)) eT<|av (au ((k:Int)+1))<|Ln ?_;have FV:aQ Gz a 27 (mE (Ko m C E D F b u z (aH ra k K) (aH rc k M) (k+1))) 71:=zH.to (Tz (by omega));have F5:vU Gz w.heap.size (k+1) (Ko m C E D F b u z (aH ra k K) (aH rc k M) (k+1)):=Xl zM DT hf1
  skip
  refine gH ⟨k+1,(aH ra k K),(aH rc k M),by omega,h1,W,Fx.ic,Au,Ey,Dr,Bv,CJ,FV,F5,b15⟩ ?_;show(6-(intOf (au ((k:Int)+1))).toNat)<_;simp only[J,intOf]; omega
 refine Lv aF (gJ c57)<|aC<|aK<|Wx<|bY<|gG<|bZ<|sN<|ay<|aS W<|av (pt a)<|aC<|Wr<|aJ (pt a) ?_;have ek:k=6:=by omega
 subst ek;exact⟨a,atM m C E D F b u z ra rc,rfl,rfl,{ c:=rZ.congr afx,n:=wS,g:=wL,tc:=wU,t:=wT,r:=Xm uW,pB:=rU,tB:=tC,bn:=bn1,bg:=bg,bt:=bt1,br:=h.br },b12⟩
namespace Rt
def nL(id:Nat->Int)(o:Int):Nat->Nat
 | 0=>0
 | n+1=>nL id o n+if id n / 1099511627776=o then 1 else 0
theorem TD{id:Nat->Int}{o:Int}{c k:Nat}(h:c=nL id o k)(e:id k / 1099511627776=o):c+1=nL id o (k+1):=by unfold nL; rw[d_ e,h]
theorem Xn{id:Nat->Int}{o:Int}{c k:Nat}(h:c=nL id o k)(e : ¬ id k / 1099511627776=o):c=nL id o (k+1):=by unfold nL; rw[b_ e,h]; rfl
noncomputable def jY(L:fJ)(v:EvM):Int:=if 5<=nL L.id v.o L.nn\/140737488355328<v.aT then 6 else jo L.t L.tn (iY v.o v.seq) v.node
def rF(f:Nat->Int)(n:Nat)(x:Int):Nat:=down (fun i=>decide (x<f i)) n
def qc(L:fJ)(v:EvM):fJ :=
 { L with nn:=L.nn+1,id:=cB L.id (rF L.id L.nn (iY v.o v.seq)) (iY v.o v.seq),par:=cB L.par (rF L.id L.nn (iY v.o v.seq)) v.node,
          R:=cB L.R (rF L.id L.nn (iY v.o v.seq)) (upd (fun _=>0) (v.o-1).toNat v.aT),
          tn:=L.tn+1,t:=ow L.t (down (fun i=>decide (iY v.o v.seq<L.t i 0)) L.tn) (iY v.o v.seq) v.node }
theorem TF{id par:Int}(j:Nat):bH (bH (fun c=>if c<2 then aD 0 else au 0) 0 1 (fun _=>aD id)) 1 1 (fun _=>aD par) j=lV id par (fun _=>0) j:=by
 unfold bH lV;by_cases a:j=0
 ·subst a; rfl
 by_cases b:j=1
 ·subst b; rfl
 rw[b_ (by omega),b_ (by omega),b_ a,b_ b]; show(if j<2 then _ else _)=_; rw[b_ (by omega)]
theorem Oc{id par:Int}{R:Nat->Int}{a q:Nat}{x:Int}(d:q=a+2):dB (lV id par R) q (au x)=lV id par (upd R a x):=by
 subst d
 funext p
 unfold dB lV upd;by_cases h:p=a+2
 ·subst h; rw[d_ rfl,b_ (by omega),b_ (by omega),d_ (by omega)]
 rw[b_ h];by_cases b:p=0
 ·rw[d_ b,d_ b]
 by_cases c:p=1
 ·rw[b_ b,d_ c,b_ b,d_ c]
 rw[b_ b,b_ c,b_ b,b_ c,b_ (by omega)]
theorem Od{id par:Nat->Int}{R:Nat->Nat->Int}{k:Nat}{a b:Int}{c:Nat->Int}:Fx.Iq (fun d=>lV (id d) (par d) (R d)) k (lV a b c)=fun d=>lV (cB id k a d) (cB par k b d) (cB R k c d):=by
 funext i
 unfold Fx.Iq cB;by_cases h:i<k
 ·simp only[d_ h]
 by_cases e:i=k
 ·simp only[b_ h,d_ e]
 simp only[b_ h,b_ e]
theorem GN(m:kZ)(a:Option Addr)(n c:Nat):dB (mE m) 18 (.slice a n c)=mE { m with s := { m.s with na:=a,nn:=n,nc:=c } }:=by
 funext p
 unfold dB mE;by_cases h:p=18
 ·subst h; rfl
 rw[b_ h];by_cases e:p<20
 ·rw[d_ e,d_ e]; unfold nK;by_cases b:p<6
  ·rw[d_ b,d_ b]
  by_cases d:p<12
  ·rw[b_ b,d_ d,b_ b,d_ d]
  by_cases f:p<18
  ·rw[b_ b,b_ d,d_ f,b_ b,b_ d,d_ f]
  rw[b_ b,b_ d,b_ f,b_ h,b_ b,b_ d,b_ f,b_ h]
 rw[b_ e,b_ e]
theorem vV{s:Nat}{z y:Nat->Value}(hy : ∀ j,(y j).oneCell'=true) : ∀ j,j<1*s->(bH z (0*s) s y j).oneCell'=true:=fun j a=>by
 unfold bH; rw[d_ (by omega)]; exact hy _
theorem TG{f:Nat->Int}{n k j:Nat}{x:Int}(e:k=j+1)(h : ∀ i,k<=i->i<n->x<f i)(c:x<f j) : ∀ i,j<=i->i<n->x<f i:=fun i d b=>by
 by_cases a:i=j
 ·subst a; exact c
 ·exact h i (by omega) b
end Rt
theorem Rt.Kq{t:Nat->Nat->Int}{tn:Nat}{id par:Int}(h:jo t tn id par=0):tn+1<=33:=by
 unfold jo at h;split at h; · cases h
 split at h; · cases h
 split at h; · cases h
 split at h; · cases h
 rename_i h4
 rcases Nat.lt_or_ge tn 32 with h5|h5
 ·omega
 exact L_ (Or.inl h5) h4
set_option maxRecDepth 20000 in
set_option maxHeartbeats 2000000 in
theorem Xo(m:kZ)(B p a D:Nat)(v:EvM)(w:World)(C:uY w B p m)(u:B<=w.heap.size)(ha:a<6)(ho:v.o=(a:Int)+1)(bnn:m.s.nn<=900)(hD:bD m.t m.tn (bF m.t m.tn D v.node)<0)(hD2:D<=1000) :
 Calls Tryz.prog 78 #[(pt p),.agg (aA 14 (bR v))] w fun e w'=>e = .returned (au (jY m.core v))/\Below B w w'/\(jY m.core v=0 -> ∃ m',m'.core=qc m.core v/\uY w' B p m'):=by
 have TH:=C.c;have hLn:=C.n;have hLg:=C.g;have TI:=C.tc;have TJ:=C.t;have hLr:=C.r;have TK:=C.pB;have Dt:=C.tB;have bn:=C.bn;have bg:=C.bg;have bt:=C.bt;have lpp:p<w.heap.size:=TH.lt;have QU:m.tb<w.heap.size:=TI.lt;refine Kent Tryz.func78 132 ?_;refine ay<|qM fun I w1 kU m1 s1 z1 => ?_;have⟨m2,m3,m4,m5,m6,m7⟩:=sV s1.old TH hLn hLg TI TJ hLr;have b1:=eF s1.old (Below.refl B w) u;have tC:=jE kU (Below.refl B w).size;have⟨nD,wP⟩:=xD kU TH.lt TI.lt;have uU:=m1.lt;refine av (au 0)<|aC<|ay<|av (au 0)<|aC<|Ws<|ay<|av (au 0)<|aC<|Wb<|Wo (fun f z => ∃ k:Nat,∃ G:Nat,k<=m.s.nn/\G<=k/\G=nL m.id v.o k/\f 0=(pt p)/\f 3=(pt I)/\f 5=au (G:Int)/\f 6=au (k:Int)/\aQ z p 27 (mE m) 71/\Fx.Own z B 61 56 (.slice m.s.na (m.s.nn) (m.s.nc)) m.s.nn (Jt m)/\Fx.Own z B 66 5 (.slice m.s.ga (m.s.gn) (m.s.gc)) m.s.gn (IK m)/\aQ z m.tb 1 (fun _ => .slice m.ta m.tn m.tc) 123/\Fx.Own z B 128 2 (.slice m.ta (m.tn) (m.tc)) m.tn (PX m.t)/\vU z B 6 m/\aQ z I 14 (bR v) 32/\Below B w z) (fun f _=>(m.s.nn-(intOf (f 6)).toNat)) ⟨0,0,by omega,by omega,rfl,(by rfl),(by rfl),Fx.ic,Fx.ic,m2,m3,m4,m5,m6,m7,m1,b1⟩ ?_;rintro f1 O ⟨k,G,hk,hcl,aa,J,K,h3,Y,m8,m9,m10,m11,m12,m13,W,b2⟩;refine Ws<|ay<|aS Y<|aS J<|av (pt p)<|av (pt p)<|av (pf p 18)<|Lv (.slice m.s.na (m.s.nn) (m.s.nc)) (aN m8.aI 18)<|av (au m.s.nn) ?_;by_cases c18:(k:Int)<(m.s.nn:Int)
 ·refine Lv aG (gI c18)<|aC<|aO<|Wk<|sN<|Ws<|Wb<|Ws ?_;refine xC<|dX J<|aU (pt p)<|aU (pt p)<|aU (pf p 18)<|Qv (.slice m.s.na (m.s.nn) (m.s.nc)) (fun F E=>aN (m8.aI.dr E) 18)<|dX Y ?_;obtain⟨ED,eq1⟩:=m9.addr (by omega);have m15:Fx.Own O B 61 56 (bM ED m.s.nn m.s.nc) m.s.nn (Jt m):=m9.fF (K_ (fun q=>Value.slice q m.s.nn m.s.nc) eq1);refine Qv (pf ED (56*k)) (fun F E=>dh 56 (hx:=(rfl.trans (K_ (fun q=>Value.slice q (m.s.nn) (m.s.nc)) eq1))))<|aU (pf ED (56*k))<|Qv (aD (m.id k)) (fun F E=>aN (m15.aI.dr E) (56*k) (Fx.fQ (k:=k) (j:=0) (by omega) (by omega) rfl))<|Qv (aD ((m.id k) / 1099511627776)) (fun F E=>Fx.Y6 (b:=40) (q:=1099511627776) rfl rfl rfl (by decide) (by decide))<|Qv (pt I) (fun F E=>ji K 0)<|Qv (au v.o) (fun F E=>aN (W.aI.dr E) 0)<|Qv (aD v.o) (fun F E=>dD rfl rfl (by kernel_rfl) Tryz.underlying28 (jJ (by omega) rfl)) ?_;by_cases c34:((m.id k) / 1099511627776)=v.o
  ·refine Qv aG (fun F E=>eY c34)<|Qn ?_;rintro _ ⟨qd,rfl⟩;obtain⟨Cy,rG⟩ : ∃ F,F=World.drewN O qd:=⟨_,rfl⟩;rw[<- rG];have s2:Stp O.heap.size O Cy:=(by rw[rG]; exact Sb (jF O qd));have⟨m16,m17,m18,m19,m20,m21,m22⟩:=jM s2.old m8 m10 m11 m12 m13 W m15;have b3:=eF s2.old b2 u;clear rG;refine sN<|aO<|Wl<|aS h3<|Lv (au ((G:Int)+1)) eT<|av (au ((G:Int)+1))<|Ln<|bO<|sN<|Wl<|aS Y<|Lv (au ((k:Int)+1)) eT<|av (au ((k:Int)+1))<|Ln ?_;have m23:Fx.Own Cy B 61 56 (.slice m.s.na (m.s.nn) (m.s.nc)) m.s.nn (Jt m):=m22.fF (K_ (fun q=>Value.slice q m.s.nn m.s.nc) eq1.symm);refine gH ⟨k+1,G+1,by omega,by omega,(TD aa c34),J,K,Fx.ic,Fx.ic,m16,m23,m17,m18,m19,m20,m21,b3⟩ ?_;show(m.s.nn-(intOf (au ((k:Int)+1))).toNat)<_;simp only[Y,intOf]; omega
  refine Qv aF (fun F E=>gy c34)<|Qn ?_;rintro _ ⟨qd,rfl⟩;obtain⟨wq2,vW⟩ : ∃ F,F=World.drewN O qd:=⟨_,rfl⟩;rw[<- vW];have s3:Stp O.heap.size O wq2:=by rw[vW]; exact Sb (jF O qd)
  have⟨m24,mY,nQ,oJ,ou,qo,oP⟩:=jM s3.old m8 m10 m11 m12 m13 W m15;have b4:=eF s3.old b2 u;clear vW;refine sN<|aK<|Wk<|bO<|sN<|Wl<|aS Y<|Lv (au ((k:Int)+1)) eT<|av (au ((k:Int)+1))<|Ln ?_;have mV:Fx.Own wq2 B 61 56 (.slice m.s.na (m.s.nn) (m.s.nc)) m.s.nn (Jt m):=oP.fF (K_ (fun q=>Value.slice q m.s.nn m.s.nc) eq1.symm);refine gH ⟨k+1,G,by omega,by omega,(Xn aa c34),J,K,(h3.trans Fx.ic),Fx.ic,m24,mV,mY,nQ,oJ,ou,qo,b4⟩ ?_;show(m.s.nn-(intOf (au ((k:Int)+1))).toNat)<_;simp only[Y,intOf]; omega
 refine Lv aF (gJ c18)<|aC<|aK<|Wx<|bY<|gG<|bZ<|sN<|Ws<|ay<|aS h3 ?_;by_cases c38:5<=(G:Int)
 ·refine Lv aG (jW c38)<|av aG<|dw<|dw<|dw<|av aG<|aC<|aO<|ay<|av (au 6)<|aC<|Wr<|sR<|aJ (au 6) ?_;have N:k=m.s.nn:=by omega
  subst N;have H:jY m.core v=6:=d_ (.inl (by rw[show nL m.core.id v.o m.core.nn=G from aa.symm]; omega));exact⟨oO H.symm,b2,fun U=>by rw[H]at U; cases U⟩
 refine Lv aF (jQ c38)<|av aF<|Lv (pf I 11) (ji K 11)<|Lv (au v.aT) (aN W.aI 11) ?_;by_cases R5:140737488355328<v.aT
 ·refine Lv aG (lH R5)<|av aG<|aC<|aO<|ay<|av (au 6)<|aC<|Wr<|sR<|aJ (au 6) ?_;have N:k=m.s.nn:=by omega
  subst N;have H:jY m.core v=6:=d_ (.inr (by omega));exact⟨oO H.symm,b2,fun U=>by rw[H]at U; cases U⟩
 refine Lv aF (lI R5)<|av aF<|aC<|aK<|Wk<|sN<|ay<|Lv (pt I) (ji K 0)<|Lv (au v.o) (aN W.aI 0)<|Lv (pf I 1) (ji K 1)<|Lv (aD v.seq) (aN W.aI 1)<|lW (akC v.o v.seq _) _ rfl<|av (aD (iY v.o v.seq))<|aC<|Ws ?_;refine jP [0,1,2,4,5,3,6,7,8] [0,0,0,4,0,0,4,3,0] [(7,3,[3]),(7,6,[6]),(8,7,[7])] fun oI dM gY => ?_;have⟨m32,oQ,nT,pY,qD,rQ,rR⟩:=jM dM m8 m9 m10 m11 m12 m13 W;have b5:=eF dM b2 u;refine bU J<|aY (pt p)<|aY (pf p 20)<|aY (aD (iY v.o v.seq))<|Rp (pf I 9) (fun _=>ji K 9)<|Rs (pt m.tb) (aN m32.aI 20) ?_;refine Rs (aD v.node) (aN rR.aI 9) ?_;refine gK<|dP (aft B m.tb m.ta m.tn m.tc m.t (iY v.o v.seq) v.node D _ pY qD (fun e=>Fx.Ty.ne (qD.ty e) pY.ty (by decide) rfl) (m_ u b5.size) bt hD hD2) _ rfl ?_;rintro X ⟨afC,hcs1⟩;have hc1:iQ [123,128] oI X:=Fx.iQ.Ru afC (by rintro k (rfl|e) <;> first|exact⟨_,pY.ty,by decide⟩|exact⟨_,qD.ty e,by decide⟩)
 have oU:aQ X p 27 (mE m) 71:=m32.kr hc1 (by decide);have rT:Fx.Own X B 61 56 (.slice m.s.na (m.s.nn) (m.s.nc)) m.s.nn (Jt m):=oQ.kr hc1 (by decide);have mZ:Fx.Own X B 66 5 (.slice m.s.ga (m.s.gn) (m.s.gc)) m.s.gn (IK m):=nT.kr hc1 (by decide);have mP:vU X B 6 m:=rQ.kr hc1 (by decide);have nR:aQ X I 14 (bR v) 32:=rR.kr hc1 (by decide);have b6:Below B w X:=Fx.jL.below b5 afC (by rintro k (rfl|e) <;> first|exact Dt|exact(qD.ge e).1) (m_ u b5.size)
 rcases hcs1 with ⟨Q,hT1,hO1⟩|⟨Q,g9,Xp,hT1,hO1,hne1⟩
 ·refine Ln<|aY (au (jo m.t m.tn (iY v.o v.seq) v.node))<|bQ<|Ws<|ay<|av (au (jo m.t m.tn (iY v.o v.seq) v.node))<|Lv aG (lJ Q)<|aC<|aO<|ay<|av (au (jo m.t m.tn (iY v.o v.seq) v.node))<|av (au (jo m.t m.tn (iY v.o v.seq) v.node))<|aC<|Wr<|sR<|aJ (au (jo m.t m.tn (iY v.o v.seq) v.node)) ?_;have N:k=m.s.nn:=by omega
  subst N;have H:jY m.core v=jo m.t m.tn (iY v.o v.seq) v.node:=b_ (fun h=>h.elim (fun h=>by rw[show nL m.core.id v.o m.core.nn=G from aa.symm]at h; omega) (fun h=>by omega));exact⟨oO H.symm,b6,fun U=>L_ (H.symm.trans U) Q⟩
 refine Ln<|aY (au (jo m.t m.tn (iY v.o v.seq) v.node))<|bQ<|Ws<|ay<|av (au (jo m.t m.tn (iY v.o v.seq) v.node))<|Lv aF (jd Q)<|aC<|aK<|Wk<|sN<|ay<|av (aD (iY v.o v.seq))<|Lv (pf I 9) (ji K 9)<|Lv (aD v.node) (aN nR.aI 9)<|av (.agg (aA 56 (bH (bH (fun L=>if L<2 then aD 0 else au 0) 0 1 (fun _=>aD (iY v.o v.seq))) 1 1 (fun _=>aD v.node))))<|wX 56 (fun L=>if L<2 then aD 0 else au 0) fun M w4 Ad qY s5 z2 => ?_;have⟨qE,nE,qF,wJ,rY,sJ,uV⟩:=jM s5.old oU rT mZ mP nR hT1 hO1;have b7:=eF s5.old b6 u;have rU:=jE Ad b6.size;have akH:=cK Ad oU.lt;have EF:(.slice m.s.na (m.s.nn) (m.s.nc):Value).ownBlock≠some M:=by rw[Ad]; exact rT.jK (z_ _)
 have⟨akI,akJ,abv⟩:=JL Ad nR.lt hT1.lt hO1.lt;have Av:=qY.lt;refine fH qY 0 (h1:=(bV (bV (fun jq _=>by show((fun L=>if L<2 then aD 0 else au 0:Nat->Value) jq).oneCell'=true; simp only[]; repeat (first|rfl|split)) (fun _ _=>rfl)) (fun _ _=>rfl))) fun w5 uy s6 z3 => ?_
 have tY:aQ w5 M 56 (bH (bH (fun L=>if L<2 then aD 0 else au 0) 0 1 (fun _=>aD (iY v.o v.seq))) 1 1 (fun _=>aD v.node)) 61:=aX uy;have gN:=iC s6 qY.ty;have uz:=kY gN qE;have xH:=nE.cZ s6 EF;have⟨tZ,sK,uf,xI,qb⟩:=qV gN qF wJ rY sJ uV;have b8:=s6.below b7 (m_ u b7.size) (by omega);refine aC<|Ws ?_;have wK:aQ w5 M 56 (lV (iY v.o v.seq) v.node (fun _=>0)) 61:=tY.congr (fun j hj=>TF j);refine Wl<|Lv (pt I) (ji K 0)<|Lv (au v.o) (aN uf.aI 0)<|Lv (au a) fU<|Lv (pf I 11) (ji K 11)<|Lv (au v.aT) (aN uf.aI 11)<|av (pf M 2)<|av (pf M 2)<|Lv (pf M (a+2)) (jD 6 1)<|jh wK (a+2) (au v.aT) fun w6 nY s7 z4 => ?_;have tJ:aQ w6 M 56 (lV (iY v.o v.seq) v.node (upd (fun _=>0) a v.aT)) 61:=nY.to (Oc (by omega));have jX:=iC s7 wK.ty;have m64:=kY jX uz;have wS:=xH.cZ s7 EF;have⟨wL,wT,wU,rZ,uW⟩:=qV jX tZ sK uf xI qb;have b9:=s7.below b8 (m_ u b8.size) (by omega);refine aC<|Ws ?_;have ek0:k=m.s.nn:=by omega
 obtain⟨cn0,afE,hc38⟩ : ∃ cn0,cn0=nL m.id v.o m.s.nn /\ ¬ (5:Int)<=(cn0:Int):=⟨G,by rw[<- ek0]; exact aa,c38⟩;clear aa hcl ek0;refine Wl<|aS J<|av (pt p)<|av (pt p)<|av (pf p 18)<|Lv (.slice m.s.na (m.s.nn) (m.s.nc)) (aN m64.aI 18)<|av (au m.s.nn)<|av (au m.s.nn)<|aC<|Ws ?_;refine Aj [0,1,2,3,4,5,6,7,8,9,10,11,12] [0,0,0,0,0,1,4,2,2,0,0,0,3] (iQ [61]) vH Fx.iQ.trans (fE := [(12,5,[5]),(7,6,[6]),(8,6,[7,6]),(12,6,[6]),(8,7,[7]),(9,7,[7]),(10,7,[7]),(11,7,[7]),(12,7,[7]),(9,8,[8]),(10,8,[8]),(11,8,[8]),(12,8,[8])]) (by kernel_rfl) (by kernel_rfl) (by kernel_rfl) (by kernel_rfl) (by kernel_rfl) fun Cw gD nC => ?_;have⟨vN,wM,uX,zk,wN,yP,yQ,yR⟩:=mM gD m64 wS wL wT wU rZ uW tJ;have b10:=eF gD b9 u;refine bU J<|bU J<|aY (pt p)<|aY (pt p)<|aY (pf p 18)<|Rd (v := .slice m.s.na (m.s.nn) (m.s.nc)) (by rfl) (by rfl) (vH _) (fun F E=>bA (x:=mE m) rfl rfl (by kernel_rfl) (vN.kr E (by decide)).aI (i:=18) (by omega) (by omega) rfl) ?_;refine Rs (.agg (aA 56 (lV (iY v.o v.seq) v.node (upd (fun _=>0) a v.aT)))) (fG yR.aI 0) ?_;refine Bc<|yc (vs := [(0,.agg (aA 56 (lV (iY v.o v.seq) v.node (upd (fun _=>0) a v.aT))))]) (s:=56) (zc:=fun L=>if L<2 then aD 0 else au 0) (y:=bH (fun j=>(fun L=>if L<2 then aD 0 else au 0) (j % 56)) (0*56) 56 (lV (iY v.o v.seq) v.node (upd (fun _=>0) a v.aT))) (by rfl) rfl rfl Tryz.underlying50 (by kernel_rfl) (by rfl) (by rfl) (by kernel_rfl) (by rw[bC (off:=0*56) (s:=56) (y:=lV (iY v.o v.seq) v.node (upd (fun _=>0) a v.aT)) rfl (bI _ _) (by rfl)]; rfl) rfl fun g3 w7 zI wZ s9 z5 => ?_;have⟨wV,vO,xJ,zF,xK,Aq,Ar,Ac⟩:=mM s9.old vN wM uX zk wN yP yQ yR;have b11:=eF s9.old b10 u;have Es:=jE zI b10.size;have akL:=cK zI vN.lt;have akM:(.slice m.s.na (m.s.nn) (m.s.nc):Value).ownBlock≠some g3:=by rw[zI]; exact wM.jK (z_ _)
 have⟨akN,abw,IU,abx⟩:=aar zI wN.lt yP.lt yQ.lt yR.lt;have Mr:=wZ.lt;refine Ln ⟨Fx.iQ.of_below s9.old,?_⟩;refine Bc<|yK (B:=B) (s:=56) (bytes:=448) (k:=m.s.nn) (m:=1) (v := .slice m.s.na (m.s.nn) (m.s.nc)) (x:=Jt m) (by rfl) rfl rfl rfl Tryz.underlying50 (by kernel_rfl) (by kernel_rfl) rfl rfl vO wZ.aI (vV (uH _ _ _)) (by omega) (by omega) (by omega) (m_ u b11.size) fun l A w8 ho1 hg1 uo hlt1 => ?_;have tF:=yL hg1 vO;have⟨zH,Au,Ey,Dr,Bv,CJ⟩:=Rx tF wV xJ zF xK Aq Ar;have zM:=Ac.grown hg1 EF;have akO:M≠l:=fun e=>uo.elim (fun e2=>EF (by rw[e]; exact e2)) (fun e2=>by have:=Ac.lt; omega);have zG:Fx.Own w8 B 61 56 (bM l (m.s.nn+1) A) (m.s.nn+1) (flat 56 (Fx.JJ (fun d=>lV (m.id d) (m.par d) (m.R d)) (lV (iY v.o v.seq) v.node (upd (fun _=>0) a v.aT)) m.s.nn m.s.nn)):=(ho1.congr (fun j hj=>(Fx.xu j hj).trans (bK (fun i V q _=>Fx.xw i V q) j hj)));have b12:Below B w w8:=yJ b11 hg1 (m_ u b11.size) (fun q hq=>(vO.ge hq).1);refine Ln ⟨tF,?_⟩;refine aY (pt p)<|aY (pt p)<|aY (pf p 18)<|gK<|jh zH 18 (bM l (m.s.nn+1) A) fun w9 FU s10 z6 => ?_;have zD:=iC s10 zH.ty;have⟨DT,FV,F5,vX,xM,vY,tK⟩:=Ry zD Au Ey Dr Bv CJ zM zG;have b13:=s10.below b12 (m_ u b12.size) (by omega);refine Ln<|bQ<|Ws<|Wb<|Wo (fun f z => ∃ k:Nat,k<=m.s.nn/\(∀ i,k<=i->i<m.s.nn->(iY v.o v.seq)<m.id i)/\f 0=(pt p)/\f 7=aD (iY v.o v.seq)/\f 9=(pt M)/\f 10=au (k:Int)/\Fx.Own z B 66 5 (.slice m.s.ga (m.s.gn) (m.s.gc)) m.s.gn (IK m)/\vU z B 6 m/\aQ z I 14 (bR v) 32/\aQ z m.tb 1 (fun _=>bM g9 (m.tn+1) Xp) 123/\Fx.Own z B 128 2 (bM g9 (m.tn+1) Xp) (m.tn+1) (rv .u64 (kL (ow m.t (down (fun i=>decide ((iY v.o v.seq)<m.t i 0)) m.tn) (iY v.o v.seq) v.node)))/\aQ z M 56 (lV (iY v.o v.seq) v.node (upd (fun _=>0) a v.aT)) 61/\aQ z p 27 (dB (mE m) 18 (bM l (m.s.nn+1) A)) 71/\Fx.Own z B 61 56 (bM l (m.s.nn+1) A) (m.s.nn+1) (flat 56 (Fx.JJ (fun d=>lV (m.id d) (m.par d) (m.R d)) (lV (iY v.o v.seq) v.node (upd (fun _=>0) a v.aT)) m.s.nn k))/\Below B w z) (fun f _=>(intOf (f 10)).toNat) ⟨m.s.nn,by omega,(fun i J K=>L_ J (by omega)),J,Fx.ic,(by rfl),Fx.ic,DT,FV,F5,vX,xM,vY,FU,tK,b13⟩ ?_;rintro f2 tH ⟨k,hk,hgt,Z,h6,h7,P,oZ,oz,qg,pz,qG,rH,uI,qH,b14⟩;refine Ws<|ay<|aS P ?_;by_cases c91:0<(k:Int)
 ·obtain⟨j,ej⟩ : ∃ j,k=j+1:=⟨k-1,by omega⟩;refine Lv aG (lH c91)<|av aG<|aS Z<|av (pt p)<|av (pt p)<|av (pf p 18)<|Lv (bM l (m.s.nn+1) A) (aN uI.aI 18 (Fx.kW (by omega)))<|aS P<|Lv (au j) fU<|Lv (pf l (56*j)) (dh 56)<|av (pf l (56*j))<|Lv (aD (m.id j)) (aN qH.aI (56*j) (Fx.fQ (k:=j) (j:=0) (by omega) (by omega) ((congrFun (Fx.za (by omega) (by omega)) 0).trans rfl)))<|aS h6 ?_;by_cases Xq:(iY v.o v.seq)<(m.id j)
  ·refine Lv aG (lH Xq)<|av aG<|aC<|aO<|Wk<|sN<|Wb<|Ws ?_;refine jP [0,1,2,3,5,6,7,8,9,11,12,4,10,13,14,15,16] [0,0,0,0,4,0,0,0,0,0,4,0,0,0,4,0,3] [(16,4,[4]),(16,10,[10]),(16,14,[14])] fun QV lD Ao => ?_;have⟨tL,yS,uJ,yT,Bz,wW,tN,qh⟩:=mM lD oZ oz qg pz qG rH uI qH;have b15:=eF lD b14 u;refine bU Z<|aY (pt p)<|aY (pt p)<|aY (pf p 18)<|bU P<|bU Z<|aY (pt p)<|aY (pt p)<|aY (pf p 18)<|bU P<|Rp (au j) (fun _=>fU)<|Rs (bM l (m.s.nn+1) A) (aN tN.aI 18 (Fx.kW (by omega))) ?_;refine Rs (bM l (m.s.nn+1) A) (aN tN.aI 18 (Fx.kW (by omega))) ?_;refine Rp (pf l (56*j)) (fun _=>dh 56)<|Rs (.agg (aA 56 (lV (m.id j) (m.par j) (m.R j)))) (fG qh.aI (56*j) (fun jq hjq=>(Fx.gW (k:=j) (by omega) hjq).trans (congrFun (Fx.za (by omega) (by omega)) jq))) ?_;refine Rp (pf l (56*k)) (fun _=>dh 56)<|gK<|zB qh (56*k) (h1:=(fun j _=>uH _ _ _ j)) fun FT xO s12 z7 => ?_;have yN:=iC s12 qh.JI;have⟨xP,tO,BA,IV,EG⟩:=qV yN tL yS uJ yT Bz;have AA:=wW.cZ s12 (by omega);have EH:=kY yN tN;have b16:=s12.below b15 (m_ u b15.size) qh.blk.1;have F6:Fx.Own FT B 61 56 (bM l (m.s.nn+1) A) (m.s.nn+1) (flat 56 (Fx.JJ (fun d=>lV (m.id d) (m.par d) (m.R d)) (lV (iY v.o v.seq) v.node (upd (fun _=>0) a v.aT)) m.s.nn j)):=xO.congr (fun T S=>(Fx.uj (k:=k) (by omega) T S).trans (bK (fun i V q _=>Fx.yg ej (by omega) i V q) T S));refine Ln<|bQ<|Wl<|aS P<|Lv (au j) fU<|av (au j)<|Ln<|bO<|gH ⟨j,by omega,(TG ej hgt Xq),Z,(h6.trans Fx.ic),h7,Fx.ic,xP,tO,BA,IV,EG,AA,EH,F6,b16⟩ ?_;show(intOf (au j)).toNat<_;simp only[P,intOf]; omega
  refine Lv aF (lI Xq)<|av aF<|aC<|aK<|Wx<|bY<|gG<|bZ<|sN<|Ws ?_;refine jP [0,1,2,3,5,4,6,7,8] [0,0,0,0,4,0,4,0,3] [(8,4,[4]),(8,6,[6])] fun wt4 qm Gy => ?_;have⟨BD,zN,Kt,EI,EJ,F7,F8⟩:=jM qm oZ oz pz qG rH uI qH;have b17:=eF qm b14 u;refine bU Z<|aY (pt p)<|aY (pt p)<|aY (pf p 18)<|bU P<|Rs (bM l (m.s.nn+1) A) (aN F7.aI 18 (Fx.kW (by omega))) ?_;refine Rs (.agg (aA 56 (lV (iY v.o v.seq) v.node (upd (fun _=>0) a v.aT)))) (fG EJ.aI 0 (ha:=h7)) ?_;refine Rp (pf l (56*k)) (fun _=>dh 56)<|gK<|zB F8 (56*k) (h1:=(fun j _=>uH _ _ _ j)) fun Dn BF Dm z8 => ?_;have yO:=iC Dm F8.JI;have⟨EK,BG,EL,zO⟩:=Ma yO BD zN Kt EI;have BH:=EJ.cZ Dm (by omega);have AB:=kY yO F7;have b18:=Dm.below b17 (m_ u b17.size) F8.blk.1;have IW:Fx.Own Dn B 61 56 (bM l (m.s.nn+1) A) (m.s.nn+1) (flat 56 (Fx.Iq (fun d=>lV (m.id d) (m.par d) (m.R d)) k (lV (iY v.o v.seq) v.node (upd (fun _=>0) a v.aT)))):=BF.congr (fun T S=>(Fx.uj (k:=k) (by omega) T S).trans (bK (fun i V q _=>Fx.sF (by omega) i V q) T S));refine Ln<|bQ<|ay<|av (au 0)<|aC<|Wr<|aJ (au 0) ?_;have H:jY m.core v=jo m.t m.tn (iY v.o v.seq) v.node:=b_ (fun h=>h.elim (fun h=>by rw[show nL m.core.id v.o m.core.nn=cn0 from afE.symm]at h; omega) (fun h=>by omega));have N:k=rF m.id m.s.nn (iY v.o v.seq):=Fx.oG hk (fun i a b=>f_ (hgt i a b)) (.inr (fun j2 e=>by rw[show j2=j by omega]; exact g_ Xq));have TL:Fx.Own Dn B 61 56 (bM l (m.s.nn+1) A) (m.s.nn+1) (flat 56 fun d=>lV (cB m.id k (iY v.o v.seq) d) (cB m.par k v.node d) (cB m.R k (upd (fun _=>0) a v.aT) d)):=by rw[<- Od]; exact IW
  have eR:(upd (fun _=>0) a v.aT)=upd (fun _=>0) (v.o-1).toNat v.aT:=by rw[show(v.o-1).toNat=a by omega]
  have bn9:m.tn+1<=33:=Kq Q;refine⟨oO (Q.symm.trans H.symm),b18,fun _=>⟨{ m with s := { m.s with na:=some ⟨l,0,none⟩,nn:=m.s.nn+1,nc:=A },id:=cB m.id k (iY v.o v.seq),par:=cB m.par k v.node,R:=cB m.R k (upd (fun _=>0) a v.aT),ta:=some ⟨g9,0,none⟩,tn:=m.tn+1,tc:=Xp,t:=ow m.t (down (fun i=>decide ((iY v.o v.seq)<m.t i 0)) m.tn) (iY v.o v.seq) v.node },?_,?_⟩⟩
  ·unfold qc; rw[show rF m.core.id m.core.nn (iY v.o v.seq)=k from N.symm,<- eR]; rfl
  exact { c:=AB.to (GN m _ _ _),n:=TL,g:=EK,tc:=EL,t:=zO,r:=BG,pB:=TK,tB:=Dt,bn:=(by have:=bnn; show m.s.nn+1<=1000; omega),bg:=bg,bt:=(by show m.tn+1<=1000; omega),br:=C.br }
 refine Lv aF (lI c91)<|av aF<|dw<|dw<|dw<|dw<|dw<|dw<|dw<|dw<|dw<|dw<|dw<|dw<|av aF<|aC<|aK<|Wx<|bY<|gG<|bZ<|sN<|Ws ?_;refine jP [0,1,2,3,5,4,6,7,8] [0,0,0,0,4,0,4,0,3] [(8,4,[4]),(8,6,[6])] fun wt5 zi R9 => ?_;have⟨TM,TN,TP,aby,TQ,P6,TR⟩:=jM zi oZ oz pz qG rH uI qH;have b19:=eF zi b14 u;refine bU Z<|aY (pt p)<|aY (pt p)<|aY (pf p 18)<|bU P<|Rs (bM l (m.s.nn+1) A) (aN P6.aI 18 (Fx.kW (by omega))) ?_;refine Rs (.agg (aA 56 (lV (iY v.o v.seq) v.node (upd (fun _=>0) a v.aT)))) (fG TQ.aI 0 (ha:=h7)) ?_;refine Rp (pf l (56*k)) (fun _=>dh 56)<|gK<|zB TR (56*k) (h1:=(fun j _=>uH _ _ _ j)) fun Gz TS s16 z9 => ?_;have Az:=iC s16 TR.JI;have⟨abz,abA,P7,abB⟩:=Ma Az TM TN TP aby;have afF:=TQ.cZ s16 (by omega);have abC:=kY Az P6;have b20:=s16.below b19 (m_ u b19.size) TR.blk.1;have abD:Fx.Own Gz B 61 56 (bM l (m.s.nn+1) A) (m.s.nn+1) (flat 56 (Fx.Iq (fun d=>lV (m.id d) (m.par d) (m.R d)) k (lV (iY v.o v.seq) v.node (upd (fun _=>0) a v.aT)))):=TS.congr (fun T S=>(Fx.uj (k:=k) (by omega) T S).trans (bK (fun i V q _=>Fx.sF (by omega) i V q) T S));refine Ln<|bQ<|ay<|av (au 0)<|aC<|Wr<|aJ (au 0) ?_;have H:jY m.core v=jo m.t m.tn (iY v.o v.seq) v.node:=b_ (fun h=>h.elim (fun h=>by rw[show nL m.core.id v.o m.core.nn=cn0 from afE.symm]at h; omega) (fun h=>by omega));have N:k=rF m.id m.s.nn (iY v.o v.seq):=Fx.oG hk (fun i a b=>f_ (hgt i a b)) (.inl (by omega));have abE:Fx.Own Gz B 61 56 (bM l (m.s.nn+1) A) (m.s.nn+1) (flat 56 fun d=>lV (cB m.id k (iY v.o v.seq) d) (cB m.par k v.node d) (cB m.R k (upd (fun _=>0) a v.aT) d)):=by rw[<- Od]; exact abD
 have eR:(upd (fun _=>0) a v.aT)=upd (fun _=>0) (v.o-1).toNat v.aT:=by rw[show(v.o-1).toNat=a by omega]
 have bn9:m.tn+1<=33:=Kq Q;refine⟨oO (Q.symm.trans H.symm),b20,fun _=>⟨{ m with s := { m.s with na:=some ⟨l,0,none⟩,nn:=m.s.nn+1,nc:=A },id:=cB m.id k (iY v.o v.seq),par:=cB m.par k v.node,R:=cB m.R k (upd (fun _=>0) a v.aT),ta:=some ⟨g9,0,none⟩,tn:=m.tn+1,tc:=Xp,t:=ow m.t (down (fun i=>decide ((iY v.o v.seq)<m.t i 0)) m.tn) (iY v.o v.seq) v.node },?_,?_⟩⟩
 ·unfold qc; rw[show rF m.core.id m.core.nn (iY v.o v.seq)=k from N.symm,<- eR]; rfl
 exact { c:=abC.to (GN m _ _ _),n:=abE,g:=abz,tc:=P7,t:=abB,r:=abA,pB:=TK,tB:=Dt,bn:=(by have:=bnn; show m.s.nn+1<=1000; omega),bg:=bg,bt:=(by show m.tn+1<=1000; omega),br:=C.br }
namespace Rt
theorem nM(x:Nat->Int)(n:Int)(is:Bool)(a:Int)(off:Nat) :
 ((bT x n is a off).1=zero/\(bT x n is a off).2≠0 /\ ¬ (may x=true/\1<=n/\n<=1125899906842624/\is=true/\a=0/\x off+n<=1125899906842624)) \/
 ((may x=true/\1<=n/\n<=1125899906842624/\is=true/\a=0/\x off+n<=1125899906842624)/\bT x n is a off=(upd x off (x off+n),0)):=by
 unfold bT;by_cases f:may x=true
 ·by_cases c:1<=n
  ·by_cases d:n<=1125899906842624
   ·rw[f,f_ c,f_ d];simp only[Bool.and_self,if_true]
    cases is
    ·left; exact⟨rfl,(by show(10:Int)≠0; decide),fun h=>by cases h.2.2.2.1⟩
    by_cases b:a=0
    ·by_cases e:x off+n<=1125899906842624
     ·right; exact⟨⟨trivial,c,d,rfl,b,e⟩,by rw[d_ rfl,d_ b,d_ e]⟩
     left; rw[d_ rfl,d_ b,b_ e]; exact⟨rfl,by decide,fun h=>e h.2.2.2.2.2⟩
    left; rw[d_ rfl,b_ b]; exact⟨rfl,b,fun h=>b h.2.2.2.2.1⟩
   left; rw[g_ d,H_,b_ (by decide)]; exact⟨rfl,by decide,fun h=>d h.2.2.1⟩
  left; rw[g_ c,H_,Bool.false_and,b_ (by decide)]; exact⟨rfl,by decide,fun h=>c h.2.1⟩
 left; rw[show may x=false by simpa using f,Bool.false_and,Bool.false_and,b_ (by decide)]; exact⟨rfl,by decide,fun h=>by cases h.1⟩
theorem MH{x:Nat->Int}(h:PW x){off:Nat}{n:Int}(h1:1<=n)(c:x off+n<=1125899906842624)(a:off<54):PW (upd x off (x off+n)):=by
 intro p b;unfold upd;split
 ·have:=h off a; omega
 exact h p b
theorem qI{i:Int}(h:gP i=true) : ∃ a:Nat,a<6/\i=(a:Int)+1/\i.toNat-1=a:=by
 have:1<=i/\i<=6:=by unfold gP at h; simpa using h
 exact⟨(i-1).toNat,by omega,by omega,by omega⟩
structure Moved(x y:Nat->Int)(a b:Nat)(n:Int):Prop where
 may:may y=true
 l : ∀ k,k<6->L y k=L x k+(if k=b then n else 0)-(if k=a then n else 0)
 g:sj y=sj x
 u:nJ y=nJ x
theorem AJ{x:Nat->Int}{i j n:Int}(h:(dn x i j n).2=0) : ∃ a b:Nat,a<6/\b<6/\a≠b/\i=(a:Int)+1/\j=(b:Int)+1/\1<=n/\n<=1125899906842624/\n<=L x a/\Moved x (dn x i j n).1 a b n/\(dn x i j n).1=upd x (18+a*6+b) (x (18+a*6+b)+n):=by
 unfold dn at *
 rcases nM x n (gP i&&gP j) (nH x i j n) (kK i j)with ⟨_,f,_⟩|⟨⟨hm,h1,f,hr,he,hx⟩,heq⟩
 ·exact L_ h f
 rw[R_]at hr;obtain⟨a,g,l,D⟩:=qI hr.1;obtain⟨b,m,q,E⟩:=qI hr.2;have s:kK i j=18+a*6+b:=by unfold kK; rw[D,E]
 rw[s]at heq hx;rw[s];have B:a≠b:=by
  intro z;unfold nH at he;rw[d_ (by rw[l,q,z])]at he
  cases he
 have y:n<=L x a:=by
  unfold nH at he;rw[b_ (by omega)]at he;by_cases d:fI x i<n
  ·rw[f_ d]at he; cases he
  ·rw[l,nI hm a g]at d; omega
 obtain⟨e,t,w⟩:=(ku x).1 hm;have d:=abm x a b g m n;have c : ∀ p,p<18->upd x (18+a*6+b) (x (18+a*6+b)+n) p=x p:=fun p I=>gF _ _ _ _ (by omega);have o:sj (upd x (18+a*6+b) (x (18+a*6+b)+n))=sj x:=by unfold sj G; rw[c 0 (by omega),c 1 (by omega),c 2 (by omega),c 3 (by omega),c 4 (by omega),c 5 (by omega)]
 have A:(bT x n (gP i&&gP j) (nH x i j n) (18+a*6+b)).1=upd x (18+a*6+b) (x (18+a*6+b)+n):=by rw[heq]
 rw[A];refine⟨a,b,g,m,B,l,q,h1,f,y,⟨?_,d,o,?_⟩,rfl⟩
 ·rw[ku];refine⟨MH e h1 hx (by omega),fun k r => ?_,by rw[o]; exact w⟩;obtain⟨H,u,v⟩:=t k r;refine⟨?_,?_,?_⟩
  ·rw[d k r];split
   ·split <;> omega
   split
   ·rename_i hka; subst hka; omega
   omega
  ·unfold F C at *; rw[c _ (by omega),c _ (by omega)]; exact u
  unfold R at *; rw[gF _ _ _ _ (by omega)]; exact v
 unfold nJ C F; simp only[c _ (show 6+0<18 by omega),c _ (show 6+1<18 by omega),c _ (show 6+2<18 by omega),c _ (show 6+3<18 by omega),c _ (show 6+4<18 by omega),c _ (show 6+5<18 by omega),c _ (show 12+0<18 by omega),c _ (show 12+1<18 by omega),c _ (show 12+2<18 by omega),c _ (show 12+3<18 by omega),c _ (show 12+4<18 by omega),c _ (show 12+5<18 by omega)]
theorem EM(x:Nat->Int)(off:Nat)(c:off<18)(v:Int)(a b:Nat):R (upd x off v) a b=R x a b:=gF _ _ _ _ (by omega)
theorem TT(x:Nat->Int)(off:Nat)(a:off<18)(v:Int)(k:Nat):L (upd x off v) k=L x k+(G (upd x off v) k-G x k)+(F (upd x off v) k-F x k)-(C (upd x off v) k-C x k):=by
 unfold L;simp only[EM x off a v];omega
theorem afG(x:Nat->Int)(a:Nat)(n:Int)(k:Nat):C (upd x (6+a) (x (6+a)+n)) k=C x k+(if k=a then n else 0):=by
 unfold C upd;by_cases h:k=a
 ·subst h; simp
 rw[b_ (by omega),b_ h]; omega
theorem afH(x:Nat->Int)(a:Nat)(n:Int)(k:Nat):F (upd x (12+a) (x (12+a)+n)) k=F x k+(if k=a then n else 0):=by
 unfold F upd;by_cases h:k=a
 ·subst h; simp
 rw[b_ (by omega),b_ h]; omega
theorem afI(x:Nat->Int)(a:Nat)(n:Int)(k:Nat):G (upd x a (x a+n)) k=G x k+(if k=a then n else 0):=by
 unfold G upd;by_cases h:k=a
 ·subst h; simp
 rw[b_ h,b_ h]; omega
theorem six(a:Nat)(ha:a<6)(n:Int):(if 0=a then n else 0)+(if 1=a then n else 0)+(if 2=a then n else 0)+(if 3=a then n else 0)+(if 4=a then n else 0)+(if 5=a then n else 0)=n:=by
 have:a=0\/a=1\/a=2\/a=3\/a=4\/a=5:=by omega
 rcases this with h|h|h|h|h|h <;> subst h <;> simp
theorem IX{x:Nat->Int}{i n:Int}(h:(bB x i n).2=0) : ∃ a:Nat,a<6/\i=(a:Int)+1/\1<=n/\n<=1125899906842624/\n<=L x a/\C x a+n<=1125899906842624/\may (bB x i n).1=true /\
 (∀ k,k<6->L (bB x i n).1 k=L x k-(if k=a then n else 0))/\sj (bB x i n).1=sj x/\nJ (bB x i n).1=nJ x+n/\(bB x i n).1=upd x (6+a) (x (6+a)+n):=by
 unfold bB at *
 rcases nM x n (gP i) (qp x i n) (6+(i.toNat-1))with ⟨_,j,_⟩|⟨⟨hm,h1,j,hr,he,hx⟩,heq⟩
 ·exact L_ h j
 obtain⟨a,l,o,p⟩:=qI hr;rw[p]at heq hx;rw[p];have t:n<=L x a:=by
  unfold qp at he;by_cases g:fI x i<n
  ·rw[f_ g]at he; cases he
  ·rw[o,nI hm a l]at g; omega
 obtain⟨e,q,s⟩:=(ku x).1 hm;have u:(bT x n (gP i) (qp x i n) (6+a)).1=upd x (6+a) (x (6+a)+n):=by rw[heq]
 rw[u];have b:=afG x a n;have f : ∀ k,k<6->G (upd x (6+a) (x (6+a)+n)) k=G x k:=fun k d=>gF _ _ _ _ (by omega);have c : ∀ k,k<6->F (upd x (6+a) (x (6+a)+n)) k=F x k:=fun k d=>gF _ _ _ _ (by omega);have g : ∀ k,k<6->L (upd x (6+a) (x (6+a)+n)) k=L x k-(if k=a then n else 0):=by
  intro k d;rw[TT x (6+a) (by omega),f k d,c k d,b k]; omega
 have m:sj (upd x (6+a) (x (6+a)+n))=sj x:=by unfold sj; rw[f 0 (by omega),f 1 (by omega),f 2 (by omega),f 3 (by omega),f 4 (by omega),f 5 (by omega)]
 refine⟨a,l,o,h1,j,t,hx,?_,g,m,?_,rfl⟩
 ·rw[ku];refine⟨MH e h1 hx (by omega),fun k d => ?_,by rw[m]; exact s⟩;obtain⟨v,w,r⟩:=q k d;refine⟨?_,?_,?_⟩
  ·rw[g k d];split
   ·rename_i hka; subst hka; omega
   omega
  ·rw[c k d,b k]; split <;> omega
  rw[EM x (6+a) (by omega)]; exact r
 unfold nJ;rw[c 0 (by omega),c 1 (by omega),c 2 (by omega),c 3 (by omega),c 4 (by omega),c 5 (by omega),b 0,b 1,b 2,b 3,b 4,b 5];have:=six a l n;omega
theorem IY{x:Nat->Int}{i n:Int}(h:(bE x i n).2=0) : ∃ a:Nat,a<6/\i=(a:Int)+1/\1<=n/\n<=1125899906842624/\n<=C x a-F x a/\may (bE x i n).1=true /\
 (∀ k,k<6->L (bE x i n).1 k=L x k+(if k=a then n else 0))/\sj (bE x i n).1=sj x/\nJ (bE x i n).1=nJ x-n/\(bE x i n).1=upd x (12+a) (x (12+a)+n):=by
 unfold bE at *
 rcases nM x n (gP i) (qw x i n) (12+(i.toNat-1))with ⟨_,j,_⟩|⟨⟨hm,h1,j,hr,he,hx⟩,heq⟩
 ·exact L_ h j
 obtain⟨a,m,u,l⟩:=qI hr;rw[l]at heq hx;rw[l];have s:n<=C x a-F x a:=by
  unfold qw at he;rw[l]at he;by_cases g:C x a-F x a<n
  ·rw[f_ g]at he; cases he
  ·omega
 obtain⟨e,p,r⟩:=(ku x).1 hm;have t:(bT x n (gP i) (qw x i n) (12+a)).1=upd x (12+a) (x (12+a)+n):=by rw[heq]
 rw[t];have c:=afH x a n;have f : ∀ k,k<6->G (upd x (12+a) (x (12+a)+n)) k=G x k:=fun k d=>gF _ _ _ _ (by omega);have b : ∀ k,k<6->C (upd x (12+a) (x (12+a)+n)) k=C x k:=fun k d=>gF _ _ _ _ (by omega);have g : ∀ k,k<6->L (upd x (12+a) (x (12+a)+n)) k=L x k+(if k=a then n else 0):=by
  intro k d;rw[TT x (12+a) (by omega),f k d,c k,b k d]; omega
 have o:sj (upd x (12+a) (x (12+a)+n))=sj x:=by unfold sj; rw[f 0 (by omega),f 1 (by omega),f 2 (by omega),f 3 (by omega),f 4 (by omega),f 5 (by omega)]
 refine⟨a,m,u,h1,j,s,?_,g,o,?_,rfl⟩
 ·rw[ku];refine⟨MH e h1 hx (by omega),fun k d => ?_,by rw[o]; exact r⟩;obtain⟨v,w,q⟩:=p k d;refine⟨?_,?_,?_⟩
  ·rw[g k d]; split <;> omega
  ·rw[c k,b k d];split
   ·rename_i hka; subst hka; omega
   omega
  rw[EM x (12+a) (by omega)]; exact q
 unfold nJ;rw[b 0 (by omega),b 1 (by omega),b 2 (by omega),b 3 (by omega),b 4 (by omega),b 5 (by omega),c 0,c 1,c 2,c 3,c 4,c 5];have:=six a m n;omega
end Rt
section
namespace Rt
def dz(f:(Nat->Int)->(Nat->Int) × Int)(idx:Nat->Nat)(R:Nat->Nat->Int):Nat->(Nat->Nat->Int) × Int
 | 0=>(R,0)
 | j+1=>if(dz f idx R j).2=0 then(if(f ((dz f idx R j).1 (idx j))).2=0 then(aH (dz f idx R j).1 (idx j) (f ((dz f idx R j).1 (idx j))).1,0)else((dz f idx R j).1,(f ((dz f idx R j).1 (idx j))).2))else dz f idx R j
section
variable {f:(Nat->Int)->(Nat->Int) × Int} {idx:Nat->Nat} {R Rk:Nat->Nat->Int} {k q:Nat}
theorem EN(h:dz f idx R k=(Rk,0))(e:idx k=q)(a:(f (Rk q)).2=0):dz f idx R (k+1)=(aH Rk q (f (Rk q)).1,0):=by
 unfold dz; rw[h,d_ rfl,e,d_ a]
theorem GQ(h:dz f idx R k=(Rk,0))(e:idx k=q)(a : ¬ (f (Rk q)).2=0):(dz f idx R (k+1)).2=(f (Rk q)).2:=by
 unfold dz; rw[h,d_ rfl,e,b_ a]
theorem zP(a : ¬ (dz f idx R k).2=0) : ∀ n,k<=n->dz f idx R n=dz f idx R k
 | 0,h=>by obtain rfl:k=0:=by omega
           rfl
 | n+1,h=>by
   by_cases e:k=n+1
   ·rw[e]
   ·have:=zP a n (by omega);rw[dz,this,b_ a]
end
def lead(P:Nat->Bool):Nat->Nat
 | 0=>0
 | n+1=>if lead P n=n/\P n=true then n+1 else lead P n
theorem IZ(P:Nat->Bool) : ∀ n,lead P n<=n
 | 0=>z_ _
 | n+1=>by
   unfold lead; split
   ·exact z_ _
   ·have:=IZ P n; omega
theorem Ku{P:Nat->Bool} : ∀ {n:Nat},(∀ i,i<n->P i=true)->lead P n=n
 | 0,_=>rfl
 | n+1,h=>by unfold lead; rw[d_ ⟨Ku fun i a=>h i (by omega),h n (by omega)⟩]
theorem Oe{P:Nat->Bool}{K:Nat}(h1 : ∀ i,i<K->P i=true)(a:P K=false) : ∀ {n:Nat},K<=n->lead P n=K
 | 0,h=>by unfold lead; omega
 | n+1,h=>by
   unfold lead;by_cases e:K=n+1
   ·rw[d_ ⟨Ku fun i d=>h1 i (by omega),h1 n (by omega)⟩]; exact e.symm
   ·rw[Oe h1 a (n:=n) (by omega),b_];rintro ⟨c,b⟩;subst c; rw[a]at b; cases b
def fu(t:Nat->Nat->Int)(tn:Nat)(x:Int):Nat:=lead (fun i=>decide (0<=bD t tn (bF t tn i x))) 1000
theorem uK{t:Nat->Nat->Int}{tn K D:Nat}{x:Int}(h1 : ∀ i,i<K->0<=bD t tn (bF t tn i x))(c:bD t tn (bF t tn K x)<0)(d:bD t tn (bF t tn D x)<0)(e:D<=1000):K=fu t tn x:=by
 have a:K<=1000:=by
  rcases Nat.lt_or_ge D K with h|h
  ·have:=h1 D h; omega
  ·omega
 exact(Oe (fun i b=>f_ (h1 i b)) (g_ (by omega)) a).symm
end Rt
def fJ.node(L:fJ)(x:Int):Int:=gX (fun i=>decide (L.id i=x)) L.nn
def fJ.grant(L:fJ)(o r:Int):Int:=gX (fun i=>decide (L.g i 0=o)&&decide (L.g i 1=r)) L.gn
def fJ.kM(L:fJ)(a:Nat)(r:Int):Int:=gX (fun i=>decide (L.rq a i=r)) (L.rn a)
namespace Rt
def nU(L:fJ)(x:Int)(i:Nat):Nat:=(L.node (bF L.t L.tn i x)).toNat
def pV(v:EvM):Nat->Int:=fun j=>if j=0 then v.o else if j=1 then v.req else if j=2 then v.node else if j=3 then v.aT else 0
def EO(v:EvM)(x:Nat->Int):Bool:=decide (v.o<x 0) || (decide (x 0=v.o)&&decide (v.req<x 1))
def aL(v:EvM):Nat:=(v.o-1).toNat
def mR(L:fJ)(v:EvM):(Nat->Nat->Int) × Int:=dz (fun x=>bB x v.o v.aT) (nU L v.node) L.R (fu L.t L.tn v.node)
def iR(L:fJ)(v:EvM):Int:=if 0<=L.kM (aL v) v.req then 14 else if fu L.t L.tn v.node=0 then 9 else(mR L v).2
def qj(L:fJ)(a:Nat)(r:Int):fJ := { L with rn:=aH L.rn a (L.rn a+1),rq:=aH L.rq a (aH (L.rq a) (L.rn a) r) }
def lQ(L:fJ)(v:EvM):fJ :=
 qj { L with R:=(mR L v).1,gn:=L.gn+1,g:=cB L.g (down (fun i=>EO v (L.g i)) L.gn) (pV v) } (aL v) v.req
theorem BI{n q:Nat}{id par:Nat->Int}{R:Nat->Nat->Int}{r:Nat->Int} : ∀ i,i<n -> ∀ j,j<56->Fx.qB (fun a=>lV (id a) (par a) (R a)) q (bH (lV (id q) (par q) (R q)) 2 54 (rv .i64 r)) i j=lV (id i) (par i) (aH R q r i) j:=fun i _ j d=>by
 unfold Fx.qB aH;by_cases h:i=q
 ·subst h;rw[d_ rfl,d_ rfl];unfold bH lV rv;by_cases b:j=0
  ·subst b; rfl
  ·by_cases c:j=1
   ·subst c; rfl
   ·rw[d_ (by omega),b_ b,b_ c]
 ·rw[b_ h,b_ h]
theorem Xr{g:Nat->Nat->Int}{k:Nat}{x:Nat->Int}:Fx.Iq (fun a=>iX (g a)) k (iX x)=fun a=>iX (cB g k x a):=by
 funext i
 unfold Fx.Iq cB;by_cases h:i<k
 ·simp only[d_ h]
 by_cases b:i=k
 ·simp only[b_ h,d_ b]
 simp only[b_ h,b_ b]
theorem MI(m:kZ)(a:Option Addr)(n c:Nat):dB (mE m) 19 (.slice a n c)=mE { m with s := { m.s with ga:=a,gn:=n,gc:=c } }:=by
 funext p
 unfold dB mE;by_cases h:p=19
 ·subst h; rfl
 rw[b_ h];by_cases e:p<20
 ·rw[d_ e,d_ e]; unfold nK;by_cases b:p<6
  ·rw[d_ b,d_ b]
  by_cases d:p<12
  ·rw[b_ b,d_ d,b_ b,d_ d]
  by_cases f:p<18
  ·rw[b_ b,b_ d,d_ f,b_ b,b_ d,d_ f]
  rw[b_ b,b_ d,b_ f,d_ (by omega),b_ b,b_ d,b_ f,d_ (by omega)]
 rw[b_ e,b_ e]
theorem Kv(m:kZ){i q:Nat}(f:q=i+21)(a:Option Addr)(n c:Nat):dB (mE m) q (.slice a n c)=mE { m with ra:=aH m.ra i a,rn:=aH m.rn i n,rc:=aH m.rc i c }:=by
 subst f
 funext p
 unfold dB mE;by_cases h:p=i+21
 ·subst h;rw[d_ rfl,b_ (by omega),b_ (by omega),Nat.add_sub_cancel];simp[aH]
 rw[b_ h];by_cases b:p<20
 ·rw[d_ b,d_ b]
 rw[b_ b,b_ b];by_cases d:p=20
 ·rw[d_ d,d_ d]
 rw[b_ d,b_ d];have e : ¬ p-21=i:=by omega
 simp[aH,e]
theorem vU.app{w w':World}{B a g cap:Nat}{r:Int}{m d:kZ}(h:vU w B 6 m)(_ha:a<6)(h1:d.ra=aH m.ra a (some ⟨g,0,none⟩))(l:d.rn=aH m.rn a (m.rn a+1))(t:d.rc=aH m.rc a cap)(u:d.rq=aH m.rq a (aH (m.rq a) (m.rn a) r))
 (z:Fx.Own w' B 28 1 (bM g (m.rn a+1) cap) (m.rn a+1) (rv .u64 (aH (m.rq a) (m.rn a) r))) (A:w.grownBy w' (su m a).ownBlock) (C:(su m a).ownBlock=some g\/g=w.heap.size):vU w' B 6 d:=by
 have k : ∀ i,i≠a->su d i=su m i:=fun i c=>by unfold su; rw[h1,l,t]; simp[aH,c]
 have n:su d a=bM g (m.rn a+1) cap:=by unfold su; rw[h1,l,t]; simp[aH]
 have y : ∀ i,i<6->i≠a -> ∀ q,(su m i).ownBlock=some q->q≠g:=fun i c D q b e=>by
  subst e
  rcases C with f|f
  ·exact h.2 i a c _ha D q b f
  ·have:=((h.1 i c).ge b).2; omega
 refine⟨fun i c => ?_,fun i j c v p q b => ?_⟩
 ·by_cases e:i=a
  ·subst e; rw[n,l,u]; simp only[aH,if_true]; exact z
  rw[k i e,l,u];simp only[aH,b_ e];refine World.ownsRow.kept (h.1 i c) A ?_;by_cases x:(su m i).ownBlock=none
  ·exact .inl x
  right;intro f
  cases b:(su m i).ownBlock with
  | none=>exact x b
  | some q=>rw[b]at f; exact h.2 i a c _ha e q b f.symm
 by_cases e:i=a
 ·subst e;rw[n]at b;rw[k j (fun e=>p e.symm)];intro o;exact y j v (fun e=>p e.symm) q o (B_ b).symm
 rw[k i e]at b;by_cases s:j=a
 ·subst s; rw[n]; intro o; exact y i c e q b (B_ o).symm
 rw[k j s]; exact h.2 i j c v p q b
end Rt
end
def Ju(a:World)(l:List (Nat × (Nat->Int)))(w':World):Prop:=(∀ p∈l,w'.heap[p.1]? = some (.cells (aR .i64 54 p.2) 59 (0,0)))/\Below a.heap.size a w'
theorem Ju.up{b w w':World}{l:List (Nat × (Nat->Int))}(h:Ju b l w)(a:Below w.heap.size w w'):Ju b l w':=⟨fun p c=>Rj (h.1 p c) a,Jp h.2 a⟩
instance {a w w':World} {l:List (Nat × (Nat->Int))}:Rt.Tr w w' (Ju a l w) (Ju a l w'):=⟨fun b h=>h.up b⟩
theorem Ju.drew{a w:World}{l:List (Nat × (Nat->Int))}(h:Ju a l w):Ju a l w.drew:=⟨h.1,bN h.2 1⟩
theorem Ju.drop{a w:World}{p:Nat × (Nat->Int)}{l:List (Nat × (Nat->Int))}(h:Ju a (p::l) w):Ju a l w:=⟨fun q b=>h.1 q (by simp[b]),h.2⟩
theorem Ju.row{b w:World}{l:List (Nat × (Nat->Int))}(h:Ju b l w)(g:Nat)(x:Nat->Int)(a:(g,x)∈l):w.heap[g]? = some (.cells (aR .i64 54 x) 59 (0,0)):=h.1 (g,x) a
theorem Ju.add{b w:World}{l:List (Nat × (Nat->Int))}(h:Ju b l w){g:Nat}{x:Nat->Int}(c:w.heap[g]? = some (.cells (aR .i64 54 x) 59 (0,0))):Ju b ((g,x)::l) w :=
 ⟨fun p a=>by
  rcases List.mem_cons.1 a with rfl|a
  ·exact c
  ·exact h.1 p a,h.2⟩
theorem Ju.start(w:World)(x:Nat->Int):Ju w [(w.heap.size,x)] (w.alloc (.cells (aR .i64 54 x) 59)):=⟨fun p a=>by
 obtain rfl:p=(w.heap.size,x):=by simpa using a
 exact heap_alloc_new w _,(Below.refl _ _).alloc (z_ _) _⟩
namespace Rt
def uL(x:Nat->Int)(k:Nat):Nat->Int
 | 0=>G x k-C x k+F x k
 | j+1=>uL x k j+R x j k-R x k j
theorem abF(x:Nat->Int)(k:Nat):uL x k 6=L x k:=by simp only[uL,L]; omega
theorem Og{x:Nat->Int}(h:PW x)(k:Nat)(d:k<6) : ∀ j:Nat,j<=6 -> -(1125899906842624*((j:Int)+1))<=uL x k j/\uL x k j<=1125899906842624*((j:Int)+2)
 | 0,_=>by
   have a:=h k (by omega); have b:=h (6+k) (by omega); have c:=h (12+k) (by omega);simp only[uL,G,C,F]; omega
 | j+1,hj=>by
   have:=Og h k d j (by omega);have a:=h (18+j*6+k) (by omega); have b:=h (18+k*6+j) (by omega);simp only[uL,R]; omega
end Rt
theorem mX(n:Int)(w:World) :
 Calls Tryz.prog 113 #[au n] w fun e w'=>e = .returned (.bool (zC n))/\w'=w:=by
 refine Kent Tryz.func113 9 ?_;refine ay<|av aF<|aC<|ay<|av (au n) ?_;by_cases a:0<=n
 ·refine Lv aG (jW a)<|av aG<|av (au n) ?_;by_cases b:n<=1125899906842624
  ·refine Lv aG (ny b)<|av aG<|av aG<|aC<|Wr<|aJ aG ?_;exact⟨iw (by simp only[zC]; first|(symm; simp; omega)|(symm; simp; done)),rfl⟩
  refine Lv aF (nS b)<|av aF<|av aF<|aC<|Wr<|aJ aF ?_;exact⟨iw (by simp only[zC]; first|(symm; simp; omega)|(symm; simp; done)),rfl⟩
 refine Lv aF (jQ a)<|av aF<|dw<|dw<|av aF<|av aF<|aC<|Wr<|aJ aF ?_;exact⟨iw (by simp only[zC]; first|(symm; simp; omega)|(symm; simp; done)),rfl⟩
theorem yA(n:Int)(w:World) :
 Calls Tryz.prog 83 #[au n] w fun e w'=>e = .returned (.bool (gP n))/\w'=w:=by
 refine Kent Tryz.func83 9 ?_;refine ay<|av aF<|aC<|ay<|av (au n) ?_;by_cases a:1<=n
 ·refine Lv aG (jW a)<|av aG<|av (au n) ?_;by_cases b:n<=6
  ·refine Lv aG (ny b)<|av aG<|av aG<|aC<|Wr<|aJ aG ?_;exact⟨iw (by simp only[gP]; first|(symm; simp; omega)|(symm; simp; done)),rfl⟩
  refine Lv aF (nS b)<|av aF<|av aF<|aC<|Wr<|aJ aF ?_;exact⟨iw (by simp only[gP]; first|(symm; simp; omega)|(symm; simp; done)),rfl⟩
 refine Lv aF (jQ a)<|av aF<|dw<|dw<|av aF<|av aF<|aC<|Wr<|aJ aF ?_;exact⟨iw (by simp only[gP]; first|(symm; simp; omega)|(symm; simp; done)),rfl⟩
theorem Rt.P8(x:Nat->Int)(k j:Nat):uL x k (j+1)=uL x k j+x (18+j*6+k)-x (18+k*6+j):=rfl
theorem Rt.P9(x:Nat->Int)(k:Nat):uL x k 0=x k-x (6+k)+x (12+k):=rfl
theorem EP(x:Nat->Int)(k:Nat)(w:World)(E:k<6)(d:PW x) :
 Calls Tryz.prog 84 #[.agg (aA 54 (rv .i64 x)),au ((k:Int)+1)] w fun e w'=>e = .returned (au (L x k))/\Below w.heap.size w w':=by
 have B:uL x k 6=L x k:=abF x k;have A:=fun j=>Og d k E j;have S:uL x k 0=x k-x (k+6)+x (k+12):=by rw[P9,Nat.add_comm 6 k,Nat.add_comm 12 k]
 have O:=d k (by omega);have P:=d (k+6) (by omega);have Q:=d (k+12) (by omega);refine Kent Tryz.func84 44 ?_;refine ay<|qM fun c l D h H X => ?_;have s:=bG H.old (Below.refl w.heap.size w);have U:=iq D;have W:=h.lt;refine av (au 0)<|aC<|ay<|av (au ((k:Int)+1))<|Lv (au k) fU<|av (au k)<|aC<|Ws ?_;refine xC<|aU (au k)<|aU (pt c)<|Qv (pf c k) (fun b a=>jD 6 1)<|Qv (au (x k)) (fun b a=>aN (h.aI.dr a) k)<|aU (au k)<|aU (pf c 6)<|Qv (pf c (k+6)) (fun b a=>jD 6 1)<|Qv (au (x (k+6))) (fun b a=>aN (h.aI.dr a) (k+6))<|Qv (au ((x k)-(x (k+6)))) (fun b a=>fU)<|aU (au k)<|aU (pf c 12)<|Qv (pf c (k+12)) (fun b a=>jD 6 1)<|Qv (au (x (k+12))) (fun b a=>aN (h.aI.dr a) (k+12))<|Qv (au (((x k)-(x (k+6)))+(x (k+12)))) (fun b a=>eT)<|aU (au (((x k)-(x (k+6)))+(x (k+12))))<|Qn ?_;rintro _ ⟨i,rfl⟩;obtain⟨K,n⟩ : ∃ b,b=World.drewN l i:=⟨_,rfl⟩;rw[<- n];have I:Stp l.heap.size l K:=by rw[n]; exact Sb (jF l i)
 have⟨F,t⟩:=eZ I.old h s;clear n;refine sN<|Ws<|ay<|av (au 0)<|aC<|Wb<|Wo (fun f z => ∃ j:Nat,j<=6/\f 2=(pt c)/\f 5=au (k:Int)/\f 6=au (uL x k j)/\f 7=au (j:Int)/\aQ z c 54 (rv .i64 x) 59/\Below w.heap.size w z) (fun f _=>(6-(intOf (f 7)).toNat)) ⟨0,by omega,(by rfl),Fx.ic,Fx.ic,Fx.ic,F,t⟩ ?_;rintro R m ⟨j,V,p,q,y,g,r,u⟩;have T:=A j (by omega);have N:uL x k (j+1)=uL x k j+x (6*j+k+18)-x (j+6*k+18):=by rw[P8,show 18+j*6+k=6*j+k+18 by omega,show 18+k*6+j=j+6*k+18 by omega]
 have s:=d (6*j+k+18);have t:=d (j+6*k+18);refine Ws<|ay<|aS g ?_;by_cases v:(j:Int)<6
 ·refine Lv aG (gI v)<|aC<|aO<|Wk<|sN<|Ws<|Wb ?_;refine xC<|dX y<|dX g<|dX q<|Qv (pf c 18) (fun b a=>ji p 18)<|Qv (pf c (6*j+18)) (fun b a=>jD 6 6)<|Qv (pf c (6*j+k+18)) (fun b a=>jD 6 1)<|Qv (au (x (6*j+k+18))) (fun b a=>aN (r.aI.dr a) (6*j+k+18))<|Qv (au ((uL x k j)+(x (6*j+k+18)))) (fun b a=>eT)<|dX q<|dX g<|Qv (pf c 18) (fun b a=>ji p 18)<|Qv (pf c (6*k+18)) (fun b a=>jD 6 6)<|Qv (pf c (j+6*k+18)) (fun b a=>jD 6 1)<|Qv (au (x (j+6*k+18))) (fun b a=>aN (r.aI.dr a) (j+6*k+18))<|Qv (au (((uL x k j)+(x (6*j+k+18)))-(x (j+6*k+18)))) (fun b a=>fU)<|aU (au (((uL x k j)+(x (6*j+k+18)))-(x (j+6*k+18))))<|Qn ?_;rintro _ ⟨i,rfl⟩;obtain⟨M,o⟩ : ∃ b,b=World.drewN m i:=⟨_,rfl⟩;rw[<- o];have J:Stp m.heap.size m M:=by rw[o]; exact Sb (jF m i)
  have⟨G,C⟩:=eZ J.old r u;clear o;refine bO<|sN<|Wl<|aS g<|Lv (au ((j:Int)+1)) eT<|av (au ((j:Int)+1))<|Ln<|gH ⟨j+1,by omega,p,(q.trans Fx.ic),Fx.ic,Fx.ic,G,C⟩ ?_;show(6-(intOf (au ((j:Int)+1))).toNat)<_;simp only[g,intOf]; omega
 refine Lv aF (gJ v)<|aC<|aK<|Wx<|bY<|gG<|bZ<|sN<|ay<|aS y<|av (au (uL x k j))<|aC<|Wr<|aJ (au (uL x k j)) ?_;exact⟨oO (by rw[<- B]; exact K_ _ (by omega)),u⟩
namespace Rt
def TU(x:Nat->Int)(i:Nat):Prop:=zC (x i)=true/\zC (x (i+6))=true/\zC (x (i+12))=true/\x (i+12)<=x (i+6)/\x (7*i+18)=0
def ER(x:Nat->Int)(i j:Nat):Prop := ∀ q,q<j->zC (x (6*i+q+18))=true
def Kw(x:Nat->Int)(i:Nat):Prop := ∀ k,k<i->TU x k/\ER x k 6
def yU(x:Nat->Int):Nat->Int
 | 0=>0
 | i+1=>yU x i+x i
theorem Qa(x:Nat->Int):Kw x 0:=fun _ h=>L_ h (by omega)
theorem MJ(x:Nat->Int)(i:Nat):ER x i 0:=fun _ h=>L_ h (by omega)
theorem MK{x:Nat->Int}{i j:Nat}(h:ER x i j)(a:zC (x (6*i+j+18))=true):ER x i (j+1):=fun q b=>by
 by_cases e:q=j
 ·subst e; exact a
 ·exact h q (by omega)
theorem Qb{x:Nat->Int}{i:Nat}(h:Kw x i)(hr:TU x i)(a:ER x i 6):Kw x (i+1):=fun k b=>by
 by_cases e:k=i
 ·subst e; exact⟨hr,a⟩
 ·exact h k (by omega)
theorem Ky{x:Nat->Int}(h:Kw x 6):PW x:=fun p d=>by
 by_cases a:p<6
 ·exact zK (h p a).1.1
 ·by_cases b:p<12
  ·have:=zK (h (p-6) (by omega)).1.2.1; rwa [show p-6+6=p by omega]at this
  ·by_cases c:p<18
   ·have:=zK (h (p-12) (by omega)).1.2.2.1; rwa [show p-12+12=p by omega]at this
   ·have:=zK ((h ((p-18) / 6) (by omega)).2 ((p-18) % 6) (by omega)); rwa [show 6*((p-18) / 6)+(p-18) % 6+18=p by omega]at this
theorem Oh{x:Nat->Int} : ∀ {i:Nat},Kw x i->0<=yU x i/\yU x i<=1125899906842624*(i:Int)
 | 0,_=>by simp[yU]
 | i+1,h=>by
   have a:=Oh (i:=i) (fun k c=>h k (by omega));have b:=zK (h i (by omega)).1.1;simp only[yU]; omega
theorem I4{x:Nat->Int}{p:Nat}(a:p<54)(h:zC (x p)=false):may x=false:=by
 cases hm:may x
 ·rfl
 have:=(ku x).1 hm |>.1 p a;unfold zC at h; simp at h; omega
theorem afJ{x:Nat->Int}{i:Nat}(hi:i<6)(h:x (i+6)<x (i+12)):may x=false:=by
 cases hm:may x
 ·rfl
 have:=((ku x).1 hm |>.2.1 i hi).2.1;unfold F C at this; rw[Nat.add_comm 12 i,Nat.add_comm 6 i]at this; omega
theorem afK{x:Nat->Int}{i:Nat}(hi:i<6)(h : ¬ x (7*i+18)=0):may x=false:=by
 cases hm:may x
 ·rfl
 have:=((ku x).1 hm |>.2.1 i hi).2.2;unfold R at this; rw[show 18+i*6+i=7*i+18 by omega]at this; exact L_ this h
theorem abG{x:Nat->Int}{i:Nat}(hi:i<6)(h:L x i<0):may x=false:=by
 cases hm:may x
 ·rfl
 have:=((ku x).1 hm |>.2.1 i hi).1;omega
theorem TV{x:Nat->Int}{m:Nat}(h : ∀ k,k<m->0<=L x k)(a:0<=L x m) : ∀ k,k<m+1->0<=L x k:=fun k b=>by
 by_cases e:k=m
 ·rw[e]; exact a
 ·exact h k (by omega)
theorem Oi{x:Nat->Int}(ha:Kw x 6)(b : ∀ k,k<6->0<=L x k):may x=decide (yU x 6<=1125899906842624):=by
 have c:yU x 6=sj x:=by simp only[yU,sj,G]; omega
 rw[c,Bool.eq_iff_iff,ku,O_];refine⟨fun h=>h.2.2,fun h=>⟨Ky ha,fun k a=>⟨b k a,?_,?_⟩,h⟩⟩
 ·have:=(ha k a).1.2.2.2.1; unfold F C; rwa [Nat.add_comm 12 k,Nat.add_comm 6 k]
 have:=(ha k a).1.2.2.2.2; unfold R; rwa [show 18+k*6+k=7*k+18 by omega]
end Rt
set_option maxRecDepth 10000 in
set_option maxHeartbeats 1000000 in
theorem TW(x:Nat->Int)(w:World) :
 Calls Tryz.prog 82 #[.agg (aA 54 (rv .i64 x))] w fun e w'=>e = .returned (.bool (may x))/\Below w.heap.size w w':=by
 refine Kent Tryz.func82 81 ?_;refine ay<|qM fun c w1 kU m1 s1 z1 => ?_;have b1:=bG s1.old (Below.refl w.heap.size w);have tC:=iq kU;have uU:=m1.lt;refine av aF<|aC<|ay<|av (au 0)<|aC<|Ws<|ay<|av (au 0)<|aC<|Wb<|Wo (fun f q => ∃ i:Nat,i<=6/\Kw x i/\f 1=(pt c)/\f 3=au (yU x i)/\f 4=au (i:Int)/\aQ q c 54 (rv .i64 x) 59/\Below w.heap.size w q) (fun f _=>(6-(intOf (f 4)).toNat)) ⟨0,by omega,Qa x,(by rfl),Fx.ic,Fx.ic,m1,b1⟩ ?_;rintro f1 d ⟨i,hi,B,n,h2,l,o,r⟩;have hG:=Oh B;have HG:yU x (i+1)=yU x i+x i:=rfl;refine Ws<|ay<|aS l ?_;by_cases Z:(i:Int)<6
 ·refine Lv aG (gI Z)<|aC<|aO<|Wk<|sN<|Ws<|Wb<|Ws<|Ws ?_;refine xC<|dX l<|Qv (pt c) (fun a b=>ji n 0)<|Qv (pf c i) (fun a b=>jD 6 1)<|Qv (au (x i)) (fun a b=>aN (o.aI.dr b) i) ?_;by_cases s:(zC (x i))=true
  ·refine pQ (fun _ _=>mX (x i) _) aG (by rw[s])<|aU aF<|aU aF<|dX l<|Qv (pf c 6) (fun a b=>ji n 6)<|Qv (pf c (i+6)) (fun a b=>jD 6 1)<|Qv (au (x (i+6))) (fun a b=>aN (o.aI.dr b) (i+6)) ?_;by_cases v:(zC (x (i+6)))=true
   ·refine pQ (fun _ _=>mX (x (i+6)) _) aG (by rw[v])<|aU aF<|aU aF<|aU aF<|dX l<|Qv (pf c 12) (fun a b=>ji n 12)<|Qv (pf c (i+12)) (fun a b=>jD 6 1)<|Qv (au (x (i+12))) (fun a b=>aN (o.aI.dr b) (i+12)) ?_;by_cases y:(zC (x (i+12)))=true
    ·refine pQ (fun _ _=>mX (x (i+12)) _) aG (by rw[y])<|aU aF<|aU aF<|aU aF<|dX l<|Qv (pf c 12) (fun a b=>ji n 12)<|Qv (pf c (i+12)) (fun a b=>jD 6 1)<|Qv (au (x (i+12))) (fun a b=>aN (o.aI.dr b) (i+12))<|dX l<|Qv (pf c 6) (fun a b=>ji n 6)<|Qv (pf c (i+6)) (fun a b=>jD 6 1)<|Qv (au (x (i+6))) (fun a b=>aN (o.aI.dr b) (i+6)) ?_;by_cases H:(x (i+6))<(x (i+12))
     ·refine Qv aG (fun a b=>lH H)<|aU aG<|aU aG<|aP<|aP<|aP<|aP<|aP<|aP<|aP<|aU aG<|Qn ?_;rintro _ ⟨g,rfl⟩;obtain⟨Cy,K⟩ : ∃ a,a=World.drewN d g:=⟨_,rfl⟩;rw[<- K];have s2:Stp d.heap.size d Cy:=(by rw[K]; exact Sb (jF d g));have b3:=bG s2.old r;clear K;refine sN (aO (ay (av aF (aC (Wr (sR (bL (sR (pO (bL (sR (aJ aF (⟨iw (Eq.symm ?_),b3⟩)))))))))))));exact afJ (i:=i) (by omega) H
     refine Qv aF (fun a b=>lI H)<|aU aF<|aU aF<|dX l<|dX l<|Qv (pf c 18) (fun a b=>ji n 18)<|Qv (pf c (6*i+18)) (fun a b=>jD 6 6)<|Qv (pf c (7*i+18)) (fun a b=>jD 6 1)<|Qv (au (x (7*i+18))) (fun a b=>aN (o.aI.dr b) (7*i+18)) ?_;by_cases C:(x (7*i+18))=0
     ·refine Qv aF (fun a b=>jd C)<|aU aF<|Qn ?_;rintro _ ⟨g,rfl⟩;obtain⟨wq2,M⟩ : ∃ a,a=World.drewN d g:=⟨_,rfl⟩;rw[<- M];have s3:Stp d.heap.size d wq2:=(by rw[M]; exact Sb (jF d g));have⟨m4,b4⟩:=eZ s3.old o r;clear M;refine sN<|aK<|Wk<|sN<|Ws ?_;have hR:TU x i:=⟨s,v,y,by omega,C⟩;have b15:=zK s;refine Wl<|aS h2<|aS l<|Lv (pt c) (ji n 0)<|Lv (pf c i) (jD 6 1)<|Lv (au (x i)) (aN m4.aI i)<|Lv (au ((yU x i)+(x i))) eT<|av (au ((yU x i)+(x i)))<|aC<|ay<|av (au 0)<|aC<|Wb<|Wo (fun f q => ∃ j:Nat,j<=6/\ER x i j/\f 1=(pt c)/\f 3=au (yU x (i+1))/\f 4=au (i:Int)/\f 5=au (j:Int)/\aQ q c 54 (rv .i64 x) 59/\Below w.heap.size w q) (fun f _=>(6-(intOf (f 5)).toNat)) ⟨0,by omega,MJ x i,n,Fx.ic,(l.trans Fx.ic),Fx.ic,m4,b4⟩ ?_;rintro f2 w3 ⟨j,hj,T,R,h5,S,E,U,G⟩;refine Ws<|ay<|aS E ?_;by_cases X:(j:Int)<6
      ·refine Lv aG (gI X)<|aC<|aO<|Wk<|sN<|Ws<|Wb<|ay<|aS S<|aS E<|Lv (pf c 18) (ji R 18)<|Lv (pf c (6*i+18)) (jD 6 6)<|Lv (pf c (6*i+j+18)) (jD 6 1)<|Lv (au (x (6*i+j+18))) (aN U.aI (6*i+j+18)) ?_;by_cases z:(zC (x (6*i+j+18)))=true
       ·refine lW (mX (x (6*i+j+18)) _) aG (by rw[z])<|av aF<|aC<|aK<|Wk<|bO<|sN<|Wl<|aS E<|Lv (au ((j:Int)+1)) eT<|av (au ((j:Int)+1))<|Ln<|gH ⟨j+1,by omega,MK T z,R,(h5.trans Fx.ic),(S.trans Fx.ic),Fx.ic,U,G⟩ ?_;show(6-(intOf (au ((j:Int)+1))).toNat)<_;simp only[E,intOf]; omega
       rw[S_]at z;refine lW (mX (x (6*i+j+18)) _) aF (by rw[z]) (av aG (aC (aO (ay (av aF (aC (Wr (bL (sR (pO (bL (bL (sR (pO (bL (sR (aJ aF (⟨iw (Eq.symm ?_),G⟩))))))))))))))))));exact I4 (p:=6*i+j+18) (by omega) z
      refine Lv aF (gJ X)<|aC<|aK<|Wx<|bY<|gG<|bZ<|bO<|sN<|Wl<|aS S<|Lv (au ((i:Int)+1)) eT<|av (au ((i:Int)+1))<|Ln ?_;have A:j=6:=(by omega);have hT6:ER x i 6:=(by rw[A]at T; exact T);refine gH ⟨i+1,by omega,Qb B hR hT6,R,(h5.trans Fx.ic),Fx.ic,U,G⟩ ?_;show(6-(intOf (au ((i:Int)+1))).toNat)<_;simp only[l,intOf]; omega
     refine Qv aG (fun a b=>lJ C)<|aU aG<|Qn ?_;rintro _ ⟨g,rfl⟩;obtain⟨Qc,N⟩ : ∃ a,a=World.drewN d g:=⟨_,rfl⟩;rw[<- N];have s4:Stp d.heap.size d Qc:=(by rw[N]; exact Sb (jF d g));have b6:=bG s4.old r;clear N;refine sN (aO (ay (av aF (aC (Wr (sR (bL (sR (pO (bL (sR (aJ aF (⟨iw (Eq.symm ?_),b6⟩)))))))))))));exact afK (i:=i) (by omega) C
    rw[S_]at y;refine pQ (fun _ _=>mX (x (i+12)) _) aF (by rw[y])<|aU aG<|aU aG<|aU aG<|aP<|aP<|aP<|aP<|aP<|aP<|aP<|aP<|aP<|aU aG<|aU aG<|aP<|aP<|aP<|aP<|aP<|aP<|aP<|aU aG<|Qn ?_;rintro _ ⟨g,rfl⟩;obtain⟨wq4,O⟩ : ∃ a,a=World.drewN d g:=⟨_,rfl⟩;rw[<- O];have s5:Stp d.heap.size d wq4:=(by rw[O]; exact Sb (jF d g));have b7:=bG s5.old r;clear O;refine sN (aO (ay (av aF (aC (Wr (sR (bL (sR (pO (bL (sR (aJ aF (⟨iw (Eq.symm ?_),b7⟩)))))))))))));exact I4 (p:=i+12) (by omega) y
   rw[S_]at v;refine pQ (fun _ _=>mX (x (i+6)) _) aF (by rw[v])<|aU aG<|aU aG<|aU aG<|aP<|aP<|aP<|aP<|aP<|aP<|aU aG<|aU aG<|aP<|aP<|aP<|aP<|aP<|aP<|aP<|aP<|aP<|aU aG<|aU aG<|aP<|aP ?_;refine aP<|aP<|aP<|aP<|aP<|aU aG<|Qn ?_;rintro _ ⟨g,rfl⟩;obtain⟨wq5,P⟩ : ∃ a,a=World.drewN d g:=⟨_,rfl⟩;rw[<- P];have s6:Stp d.heap.size d wq5:=(by rw[P]; exact Sb (jF d g));have b8:=bG s6.old r;clear P;refine sN (aO (ay (av aF (aC (Wr (sR (bL (sR (pO (bL (sR (aJ aF (⟨iw (Eq.symm ?_),b8⟩)))))))))))));exact I4 (p:=i+6) (by omega) v
  rw[S_]at s;refine pQ (fun _ _=>mX (x i) _) aF (by rw[s])<|aU aG<|aU aG<|aP<|aP<|aP<|aP<|aP<|aP<|aU aG<|aU aG<|aP<|aP<|aP<|aP<|aP<|aP<|aU aG<|aU aG<|aP<|aP<|aP<|aP<|aP<|aP ?_;refine aP<|aP<|aP<|aU aG<|aU aG<|aP<|aP<|aP<|aP<|aP<|aP<|aP<|aU aG<|Qn ?_;rintro _ ⟨g,rfl⟩;obtain⟨wq6,Q⟩ : ∃ a,a=World.drewN d g:=⟨_,rfl⟩;rw[<- Q];have s7:Stp d.heap.size d wq6:=by rw[Q]; exact Sb (jF d g)
  have b9:=bG s7.old r;clear Q;refine sN (aO (ay (av aF (aC (Wr (sR (bL (sR (pO (bL (sR (aJ aF (⟨iw (Eq.symm ?_),b9⟩)))))))))))));exact I4 (p:=i) (by omega) s
 refine Lv aF (gJ Z)<|aC<|aK<|Wx<|bY<|gG<|bZ<|sN<|Ws<|ay<|av (au 1)<|aC<|Wb ?_;have A:i=6:=by omega
 rw[A]at B;have HE:=Ky B;have V:Kw x 6:=B;refine Wo (fun f q => ∃ m:Nat,m<=6/\(∀ k,k<m->0<=L x k)/\f 1=(pt c)/\f 3=au (yU x i)/\f 6=au ((m:Int)+1)/\aQ q c 54 (rv .i64 x) 59/\Below w.heap.size w q) (fun f _=>(7-(intOf (f 6)).toNat)) ⟨0,by omega,(fun _ h=>L_ h (by omega)),n,(h2.trans Fx.ic),Fx.ic,o,r⟩ ?_;rintro f3 w4 ⟨m,hm,u,h8,h9,D,m10,F⟩;refine Ws<|ay<|aS D ?_;by_cases Y:((m:Int)+1)<=6
 ·refine Lv aG (ny Y)<|aC<|aO<|Wk<|sN<|Ws<|Wb<|ay<|Lv (.agg (aA 54 (rv .i64 x))) (fG m10.aI 0 (ha:=h8))<|aS D<|dP (EP x m _ (by omega) HE) _ rfl ?_;intro w5 hb1;have⟨m11,W⟩:=eZ hb1 m10 F;by_cases I:(L x m)<0
  ·refine Lv aG (gI I) (aC (aO (ay (av aF (aC (Wr (bL (sR (pO (bL (sR (aJ aF (⟨iw (Eq.symm ?_),W⟩)))))))))))));exact abG (i:=m) (by omega) I
  refine Lv aF (gJ I)<|aC<|aK<|Wk<|bO<|sN<|Wl<|aS D<|Lv (au ((m:Int)+2)) eT<|av (au ((m:Int)+2))<|Ln<|gH ⟨m+1,by omega,TV u (by omega),h8,(h9.trans Fx.ic),Fx.ic,m11,W⟩ ?_;show(7-(intOf (au ((m:Int)+2))).toNat)<_;simp only[D,intOf]; omega
 refine Lv aF (nS Y)<|aC<|aK<|Wx<|bY<|gG<|bZ<|sN<|ay<|aS h9 ?_;by_cases t:(yU x i)<=1125899906842624
 ·refine Lv aG (ny t) (av aG (aC (Wr (aJ aG (⟨iw (Eq.symm ?_),F⟩)))));have J:m=6:=by omega
  rw[J]at u;rw[A]at t;rw[Oi V u]; exact f_ t
 refine Lv aF (nS t) (av aF (aC (Wr (aJ aF (⟨iw (Eq.symm ?_),F⟩)))));have J:m=6:=by omega
 rw[J]at u;rw[A]at t;rw[Oi V u]; exact g_ t
namespace Rt
def eB(x:Nat->Int)(i n:Int):Int:=if may x&&decide (1<=n)&&decide (n<=1125899906842624)then(if gP i then 0 else 10)else 1
end Rt
theorem ES(x:Nat->Int)(i n:Int)(w:World) :
 Calls Tryz.prog 112 #[.agg (aA 54 (rv .i64 x)),au i,au n] w fun e w'=>e = .returned (au (eB x i n))/\Below w.heap.size w w':=by
 refine Kent Tryz.func112 21 ?_;refine ay<|qM fun p s k h o v => ?_;have d:=bG o.old (Below.refl w.heap.size w);have q:=iq k;have r:=h.lt;refine av (au 0)<|aC<|Ws<|ay<|Lv (.agg (aA 54 (rv .i64 x))) (fG h.aI 0) ?_;by_cases a:(may x)=true
 ·refine dP (TW x _) aG (by rw[a]) ?_;intro t l;have c:=bG l d;refine av aF<|av aF<|av (au n) ?_;by_cases f:n<1
  ·refine Lv aG (gI f) (av aG (av aG (dw (dw (av aG (aC (aO (ay (av (au 1) (aC (Wr (sR (aJ (au 1) (⟨oO ?_,c⟩))))))))))))));unfold eB; rw[a,g_ (show ¬ 1<=n by omega)]; simp
  refine Lv aF (gJ f)<|av aF<|av aF<|av (au n) ?_;by_cases g:1125899906842624<n
  ·refine Lv aG (lH g) (av aG (aC (aO (ay (av (au 1) (aC (Wr (sR (aJ (au 1) (⟨oO ?_,c⟩))))))))));unfold eB; rw[a,f_ (show 1<=n by omega),g_ (show ¬ n<=1125899906842624 by omega)]; simp
  refine Lv aF (lI g)<|av aF<|aC<|aK<|Wk<|sN<|Ws<|ay<|av (au i) ?_;by_cases b:(gP i)=true
  ·refine lW (yA i _) aG (by rw[b]) (av aF (aC (aK (Wk (sN (ay (av (au 0) (aC (Wr (aJ (au 0) (⟨oO ?_,c⟩)))))))))));unfold eB; rw[a,f_ (show 1<=n by omega),f_ (show n<=1125899906842624 by omega),b]; simp
  rw[S_]at b;refine lW (yA i _) aF (by rw[b]) (av aG (aC (aO (ay (av (au 10) (aC (Wr (sR (aJ (au 10) (⟨oO ?_,c⟩))))))))));unfold eB; rw[a,f_ (show 1<=n by omega),f_ (show n<=1125899906842624 by omega),b]; simp
 rw[S_]at a;refine dP (TW x _) aF (by rw[a]) ?_;intro u m;have j:=bG m d;refine av aG (av aG (dw (dw (av aG (av aG (dw (dw (av aG (aC (aO (ay (av (au 1) (aC (Wr (sR (aJ (au 1) (⟨oO ?_,j⟩)))))))))))))))));unfold eB; rw[a]; simp
namespace Rt
theorem ET{x:Nat->Int}{i n:Int}(h:eB x i n=0):may x=true/\1<=n/\n<=1125899906842624/\gP i=true:=by
 unfold eB at h;by_cases a:may x=true
 ·by_cases b:1<=n
  ·by_cases c:n<=1125899906842624
   ·rw[a,f_ b,f_ c]at h
    cases h4:gP i
    ·rw[h4]at h; simp at h
    exact⟨a,b,c,rfl⟩
   rw[g_ c]at h; simp at h
  rw[g_ b]at h; simp at h
 rw[show may x=false by simpa using a]at h; simp at h
theorem Kz{x:Nat->Int}{i n b:Int}{off:Nat}(h : ¬ eB x i n=0):bT x n (gP i) b off=(zero,eB x i n):=by
 unfold eB at *;unfold bT;by_cases a:(may x&&decide (1<=n)&&decide (n<=1125899906842624))=true
 ·simp only[d_ a]at *
  cases h4:gP i
  ·simp
  simp[h4]at h
 simp only[b_ a]at *
theorem BJ{x:Nat->Int}{n a:Int}{is:Bool}{off:Nat}(h1:may x=true)(b:1<=n)(c:n<=1125899906842624)(d:is=true) :
 bT x n is a off=if a=0 then(if x off+n<=1125899906842624 then(upd x off (x off+n),0)else(zero,6))else(zero,a):=by
 unfold bT; rw[h1,f_ b,f_ c,d]; simp
theorem zQ{x:Nat->Int}{n a:Int}{is:Bool}{off:Nat}(h1:may x=true)(b:1<=n)(c:n<=1125899906842624)(d:is=true)(e:a=0)(f:x off+n<=1125899906842624):bT x n is a off=(upd x off (x off+n),0):=by
 rw[BJ h1 b c d,d_ e,d_ f]
theorem CK{x:Nat->Int}{n a:Int}{is:Bool}{off:Nat}(h1:may x=true)(b:1<=n)(c:n<=1125899906842624)(d:is=true)(e:a=0)(f : ¬ x off+n<=1125899906842624):bT x n is a off=(zero,6):=by
 rw[BJ h1 b c d,d_ e,b_ f]
theorem vZ{x:Nat->Int}{n a e:Int}{is:Bool}{off:Nat}(h1:may x=true)(b:1<=n)(c:n<=1125899906842624)(d:is=true)(f:a=e)(g:e≠0):bT x n is a off=(zero,e):=by
 rw[BJ h1 b c d,f,b_ g]
theorem Qe{x:Nat->Int}{n a:Int}{off:Nat}(h1:may x=true)(b:1<=n)(c:n<=1125899906842624):bT x n false a off=(zero,10):=by
 unfold bT; rw[h1,f_ b,f_ c]; simp
theorem pl(k:Nat):((k:Int)+1).toNat-1=k:=by omega
theorem Qf{x:Nat->Int}{i j n:Int}(h : ¬ eB x i n=0):dn x i j n=(zero,eB x i n):=by
 unfold dn;unfold eB at *;unfold bT;by_cases a:(may x&&decide (1<=n)&&decide (n<=1125899906842624))=true
 ·simp only[d_ a]at *
  cases h4:gP i
  ·simp
  simp[h4]at h
 simp only[b_ a]at *
theorem KA(k q:Nat):kK ((k:Int)+1) ((q:Int)+1)=6*k+q+18:=by unfold kK; omega
theorem TY{x:Nat->Int}{k:Nat}(a:may x=true)(b:k<6):x (k+6)<=1125899906842624:=(mD a (k+6) (by omega)).2
end Rt
set_option maxRecDepth 10000 in
theorem Xt(x:Nat->Int)(i n:Int)(w:World) :
 Calls Tryz.prog 109 #[.agg (aA 54 (rv .i64 x)),au i,au n] w fun e w'=>e = .returned (.tuple #[.agg (aA 54 (rv .i64 (bB x i n).1)),au (bB x i n).2])/\Below w.heap.size w w':=by
 refine Kent Tryz.func109 42 ?_;refine ay<|qM fun b w1 Q p s1 z1 => ?_;have u:=bG s1.old (Below.refl w.heap.size w);have tC:=iq Q;have uU:=p.lt;refine wX 54 (rv .i64 (fun _=>0)) fun l w2 z B s2 z2 => ?_;have⟨C,K⟩:=eZ s2.old p u;have rU:=jE z u.size;have Ka:=cK z p.lt;have Av:=B.lt;refine av (au 0)<|aC<|ay<|Lv (.agg (aA 54 (rv .i64 x))) (fG C.aI 0)<|av (au i)<|av (au n)<|dP (ES x i n _) _ rfl ?_;intro w3 S;have⟨q,D,m⟩:=jG S C B K;refine av (au (eB x i n))<|aC<|Ws<|ay<|av (au (eB x i n)) ?_;by_cases j:(eB x i n)=0
 ·refine Lv aF (jd j)<|aC<|aK<|Wk<|sN<|Ws<|Ws ?_;obtain⟨a,s,t,h⟩:=ET j;have J:=mD a;obtain⟨k,o,R,_⟩:=qI h;subst R;refine Wl<|av (au n)<|Lv (.agg (aA 54 (rv .i64 x))) (fG q.aI 0)<|av (au ((k:Int)+1))<|dP (EP x k _ (by omega) (mD a)) _ rfl ?_;intro w4 T;have⟨g,r,d⟩:=jG T q D m;by_cases f:(L x k)<n
  ·refine Lv aG (lH f)<|aC<|aO<|ay<|av (.agg (aA 54 (rv .i64 (fun _=>0))))<|fH r 0 fun w5 m8 E z3 => ?_;have m9:aQ w5 l 54 (rv .i64 (fun _=>0)) 59:=aX m8;have m10:=g.cZ E (by omega);have M:=E.below d d.size (by omega);refine av (au 11) (aC (Wr (sR (⟨.tuple #[.agg (aA 54 (rv .i64 (fun _=>0))),au 11],gV Tryz.results109 ⟨_,rfl,aW m9.aI (by kernel_rfl) (by kernel_rfl)⟩ (by exact rfl),?_⟩))));refine⟨?_,M⟩;have c:bB x ((k:Int)+1) n=(zero,11):=by
    unfold bB qp;rw[nI a k o,f_ f];exact vZ a s t h rfl (by decide)
   rw[c]
   all_goals rfl
  refine Lv aF (lI f)<|aC<|aK<|Wk<|sN<|Ws<|Ws ?_;have q1:=J (k+6);refine Wl<|av (au ((k:Int)+1))<|Lv (au k) fU<|av (pf b 6)<|Lv (pf b (k+6)) (jD 6 1)<|Lv (au (x (k+6))) (aN g.aI (k+6))<|av (au n)<|Lv (au ((x (k+6))+n)) eT ?_;by_cases y:1125899906842624<((x (k+6))+n)
  ·refine Lv aG (lH y)<|aC<|aO<|ay<|av (.agg (aA 54 (rv .i64 (fun _=>0))))<|fH r 0 fun w6 U F z4 => ?_;have V:aQ w6 l 54 (rv .i64 (fun _=>0)) 59:=aX U;have m13:=g.cZ F (by omega);have N:=F.below d d.size (by omega);refine av (au 6) (aC (Wr (sR (⟨.tuple #[.agg (aA 54 (rv .i64 (fun _=>0))),au 6],gV Tryz.results109 ⟨_,rfl,aW V.aI (by kernel_rfl) (by kernel_rfl)⟩ (by exact rfl),?_⟩))));refine⟨?_,N⟩;have c:bB x ((k:Int)+1) n=(zero,6):=by
    unfold bB qp;rw[nI a k o,g_ f,pl,Nat.add_comm 6 k];exact CK a s t h rfl (by omega)
   rw[c]
   all_goals rfl
  refine Lv aF (lI y)<|aC<|aK<|Wk<|sN<|ay<|av (au ((k:Int)+1))<|Lv (au k) fU<|av (pf b 6)<|Lv (pf b (k+6)) (jD 6 1)<|Lv (au (x (k+6))) (aN g.aI (k+6))<|av (au n)<|Lv (au ((x (k+6))+n)) eT<|av (pf b 6)<|Lv (pf b (k+6)) (jD 6 1)<|jh g (k+6) (au ((x (k+6))+n)) fun w7 W G z5 => ?_;have A:aQ w7 b 54 (rv .i64 (upd x (k+6) ((x (k+6))+n))) 59:=W.to (Fx.vg _ _ _ _);have X:=r.cZ G (by omega);have v:=G.below d d.size (by omega);refine aC<|ay<|Lv (.agg (aA 54 (rv .i64 (upd x (k+6) ((x (k+6))+n))))) (fG A.aI 0)<|fH X 0 fun w8 Y H z6 => ?_;have Z:aQ w8 l 54 (rv .i64 (upd x (k+6) ((x (k+6))+n))) 59:=aX Y;have m19:=A.cZ H (by omega);have O:=H.below v v.size (by omega);refine av (au 0) (aC (Wr (⟨.tuple #[.agg (aA 54 (rv .i64 (upd x (k+6) ((x (k+6))+n)))),au 0],gV Tryz.results109 ⟨_,rfl,aW Z.aI (by kernel_rfl) (by kernel_rfl)⟩ (by exact rfl),?_⟩)));refine⟨?_,O⟩;have c:bB x ((k:Int)+1) n=(upd x (k+6) (x (k+6)+n),0):=by
   unfold bB qp;rw[nI a k o,g_ f,pl,Nat.add_comm 6 k];exact zQ a s t h rfl (by omega)
  rw[c]
  all_goals rfl
 refine Lv aG (lJ j)<|aC<|aO<|ay<|av (.agg (aA 54 (rv .i64 (fun _=>0))))<|av (au (eB x i n))<|fH D 0 fun w9 aa I z7 => ?_;have ab:aQ w9 l 54 (rv .i64 (fun _=>0)) 59:=aX aa;have m22:=q.cZ I (by omega);have P:=I.below m m.size (by omega);refine av (au (eB x i n)) (aC (Wr (sR (⟨.tuple #[.agg (aA 54 (rv .i64 (fun _=>0))),au (eB x i n)],gV Tryz.results109 ⟨_,rfl,aW ab.aI (by kernel_rfl) (by kernel_rfl)⟩ (by exact rfl),?_⟩))));refine⟨?_,P⟩;have c:bB x i n=(zero,eB x i n):=by
  exact Kz j
 rw[c]
 all_goals rfl
set_option maxRecDepth 10000 in
theorem Xu(x:Nat->Int)(i n:Int)(w:World) :
 Calls Tryz.prog 111 #[.agg (aA 54 (rv .i64 x)),au i,au n] w fun e w'=>e = .returned (.tuple #[.agg (aA 54 (rv .i64 (bE x i n).1)),au (bE x i n).2])/\Below w.heap.size w w':=by
 refine Kent Tryz.func111 41 ?_;refine ay<|qM fun c w1 T t s1 z1 => ?_;have y:=bG s1.old (Below.refl w.heap.size w);have tC:=iq T;have uU:=t.lt;refine wX 54 (rv .i64 (fun _=>0)) fun s w2 D H s2 z2 => ?_;have⟨I,P⟩:=eZ s2.old t y;have rU:=jE D y.size;have Ka:=cK D t.lt;have Av:=H.lt;refine av (au 0)<|aC<|ay<|Lv (.agg (aA 54 (rv .i64 x))) (fG I.aI 0)<|av (au i)<|av (au n)<|dP (ES x i n _) _ rfl ?_;intro d V;have⟨g,u,l⟩:=jG V I H P;refine av (au (eB x i n))<|aC<|Ws<|ay<|av (au (eB x i n)) ?_;by_cases m:(eB x i n)=0
 ·refine Lv aF (jd m)<|aC<|aK<|Wk<|sN<|Ws<|Ws ?_;obtain⟨j,J,K,p⟩:=ET m;have v:=mD j;obtain⟨k,W,U,_⟩:=qI p;subst U;have q1:=v (k+6);have q2:=v (k+12);refine xC<|aU (au n)<|aU (au ((k:Int)+1))<|Qv (au k) (fun a b=>fU)<|aU (pf c 6)<|Qv (pf c (k+6)) (fun a b=>jD 6 1)<|Qv (au (x (k+6))) (fun a b=>aN (g.aI.dr b) (k+6))<|aU (au ((k:Int)+1))<|Qv (au k) (fun a b=>fU)<|aU (pf c 12)<|Qv (pf c (k+12)) (fun a b=>jD 6 1)<|Qv (au (x (k+12))) (fun a b=>aN (g.aI.dr b) (k+12))<|Qv (au ((x (k+6))-(x (k+12)))) (fun a b=>fU) ?_;by_cases o:((x (k+6))-(x (k+12)))<n
  ·refine Qv aG (fun a b=>lH o)<|Qn ?_;rintro _ ⟨h,rfl⟩;obtain⟨Cy,q⟩ : ∃ a,a=World.drewN d h:=⟨_,rfl⟩;rw[<- q];have s4:Stp d.heap.size d Cy:=(by rw[q]; exact Sb (jF d h));have⟨m6,m7,z⟩:=jG s4.old g u l;clear q;refine sN<|aO<|ay<|av (.agg (aA 54 (rv .i64 (fun _=>0))))<|fH m7 0 fun w4 m8 L z3 => ?_;have m9:aQ w4 s 54 (rv .i64 (fun _=>0)) 59:=aX m8;have m10:=m6.cZ L (by omega);have Q:=L.below z z.size (by omega);refine av (au 12) (aC (Wr (sR (⟨.tuple #[.agg (aA 54 (rv .i64 (fun _=>0))),au 12],gV Tryz.results111 ⟨_,rfl,aW m9.aI (by kernel_rfl) (by kernel_rfl)⟩ (by exact rfl),?_⟩))));refine⟨?_,Q⟩;have f:bE x ((k:Int)+1) n=(zero,12):=by
    unfold bE qw C F;rw[pl,Nat.add_comm 6 k,Nat.add_comm 12 k,f_ o];exact vZ j J K p rfl (by decide)
   rw[f]
   all_goals rfl
  refine Qv aF (fun a b=>lI o)<|Qn ?_;rintro _ ⟨h,rfl⟩;obtain⟨wq2,r⟩ : ∃ a,a=World.drewN d h:=⟨_,rfl⟩;rw[<- r];have s6:Stp d.heap.size d wq2:=by rw[r]; exact Sb (jF d h)
  have⟨E,X,A⟩:=jG s6.old g u l;clear r;refine sN<|aK<|Wk<|sN<|ay<|av (au ((k:Int)+1))<|Lv (au k) fU<|av (pf c 12)<|Lv (pf c (k+12)) (jD 6 1)<|Lv (au (x (k+12))) (aN E.aI (k+12))<|av (au n)<|Lv (au ((x (k+12))+n)) eT<|av (pf c 12)<|Lv (pf c (k+12)) (jD 6 1)<|jh E (k+12) (au ((x (k+12))+n)) fun w5 Y M z4 => ?_;have G:aQ w5 c 54 (rv .i64 (upd x (k+12) ((x (k+12))+n))) 59:=Y.to (Fx.vg _ _ _ _);have Z:=X.cZ M (by omega);have B:=M.below A A.size (by omega);refine aC<|ay<|Lv (.agg (aA 54 (rv .i64 (upd x (k+12) ((x (k+12))+n))))) (fG G.aI 0)<|fH Z 0 fun w6 aa N z5 => ?_;have ab:aQ w6 s 54 (rv .i64 (upd x (k+12) ((x (k+12))+n))) 59:=aX aa;have m18:=G.cZ N (by omega);have R:=N.below B B.size (by omega);refine av (au 0) (aC (Wr (⟨.tuple #[.agg (aA 54 (rv .i64 (upd x (k+12) ((x (k+12))+n)))),au 0],gV Tryz.results111 ⟨_,rfl,aW ab.aI (by kernel_rfl) (by kernel_rfl)⟩ (by exact rfl),?_⟩)));refine⟨?_,R⟩;have f:bE x ((k:Int)+1) n=(upd x (k+12) (x (k+12)+n),0):=by
   unfold bE qw C F;rw[pl,Nat.add_comm 6 k,Nat.add_comm 12 k,g_ o];exact zQ j J K p rfl (by have:=TY j W; omega)
  rw[f]
  all_goals rfl
 refine Lv aG (lJ m)<|aC<|aO<|ay<|av (.agg (aA 54 (rv .i64 (fun _=>0))))<|av (au (eB x i n))<|fH u 0 fun w7 ac O z6 => ?_;have ad:aQ w7 s 54 (rv .i64 (fun _=>0)) 59:=aX ac;have m21:=g.cZ O (by omega);have S:=O.below l l.size (by omega);refine av (au (eB x i n)) (aC (Wr (sR (⟨.tuple #[.agg (aA 54 (rv .i64 (fun _=>0))),au (eB x i n)],gV Tryz.results111 ⟨_,rfl,aW ad.aI (by kernel_rfl) (by kernel_rfl)⟩ (by exact rfl),?_⟩))));refine⟨?_,S⟩;have f:bE x i n=(zero,eB x i n):=by
  exact Kz m
 rw[f]
 all_goals rfl
set_option maxRecDepth 10000 in
theorem Xv(x:Nat->Int)(i j n:Int)(w:World) :
 Calls Tryz.prog 81 #[.agg (aA 54 (rv .i64 x)),au i,au j,au n] w fun e w'=>e = .returned (.tuple #[.agg (aA 54 (rv .i64 (dn x i j n).1)),au (dn x i j n).2])/\Below w.heap.size w w':=by
 refine Kent Tryz.func81 59 ?_;refine ay<|qM fun c w1 aa z s1 z1 => ?_;have B:=bG s1.old (Below.refl w.heap.size w);have tC:=iq aa;have uU:=z.lt;refine wX 54 (rv .i64 (fun _=>0)) fun h w2 F H s2 z2 => ?_;have⟨J,W⟩:=eZ s2.old z B;have rU:=jE F B.size;have Ka:=cK F z.lt;have Av:=H.lt;refine av (au 0)<|aC<|ay<|Lv (.agg (aA 54 (rv .i64 x))) (fG J.aI 0)<|av (au i)<|av (au n)<|dP (ES x i n _) _ rfl ?_;intro w3 hb1;have⟨p,u,f⟩:=jG hb1 J H W;refine av (au (eB x i n))<|aC<|Ws<|ay<|av (au (eB x i n)) ?_;by_cases t:(eB x i n)=0
 ·refine Lv aF (jd t)<|aC<|aK<|Wk<|sN<|Ws<|Ws ?_;obtain⟨b,r,s,l⟩:=ET t;have S:=mD b;obtain⟨k,y,ei,_⟩:=qI l;subst ei;refine Wl<|av (au j) ?_;by_cases d:(gP j)=true
  ·refine lW (yA j _) aG (by rw[d])<|av aF<|aC<|aK<|Wk<|sN<|Ws<|Ws ?_;obtain⟨q,hq,ej,_⟩:=qI d;subst ej;refine Wl<|av (au ((k:Int)+1))<|av (au ((q:Int)+1)) ?_;by_cases g:((k:Int)+1)=((q:Int)+1)
   ·refine Lv aG (eY g)<|aC<|aO<|ay<|av (.agg (aA 54 (rv .i64 (fun _=>0))))<|fH u 0 fun w4 m6 O z3 => ?_;have m7:aQ w4 h 54 (rv .i64 (fun _=>0)) 59:=aX m6;have m8:=p.cZ O (by omega);have X:=O.below f f.size (by omega);refine av (au 1) (aC (Wr (sR (⟨.tuple #[.agg (aA 54 (rv .i64 (fun _=>0))),au 1],gV Tryz.results81 ⟨_,rfl,aW m7.aI (by kernel_rfl) (by kernel_rfl)⟩ (by exact rfl),?_⟩))));refine⟨?_,X⟩;have a:dn x ((k:Int)+1) ((q:Int)+1) n=(zero,1):=by
     unfold dn nH;rw[d_ g];exact vZ b r s (by rw[l,d]; rfl) rfl (by decide)
    rw[a]
    all_goals rfl
   refine Lv aF (gy g)<|aC<|aK<|Wk<|sN<|Ws<|ay<|av (au n)<|Lv (.agg (aA 54 (rv .i64 x))) (fG p.aI 0)<|av (au ((k:Int)+1))<|dP (EP x k _ (by omega) (mD b)) _ rfl ?_;intro w5 hb2;have⟨v,A,m⟩:=jG hb2 p u f;by_cases o:(L x k)<n
   ·refine Lv aG (lH o)<|aC<|aO<|ay<|av (.agg (aA 54 (rv .i64 (fun _=>0))))<|fH A 0 fun w6 m11 P z4 => ?_;have m12:aQ w6 h 54 (rv .i64 (fun _=>0)) 59:=aX m11;have m13:=v.cZ P (by omega);have Y:=P.below m m.size (by omega);refine av (au 11) (aC (Wr (sR (⟨.tuple #[.agg (aA 54 (rv .i64 (fun _=>0))),au 11],gV Tryz.results81 ⟨_,rfl,aW m12.aI (by kernel_rfl) (by kernel_rfl)⟩ (by exact rfl),?_⟩))));refine⟨?_,Y⟩;have a:dn x ((k:Int)+1) ((q:Int)+1) n=(zero,11):=by
     unfold dn nH;rw[b_ g,nI b k y,f_ o];exact vZ b r s (by rw[l,d]; rfl) rfl (by decide)
    rw[a]
    all_goals rfl
   refine Lv aF (lI o)<|aC<|aK<|Wk<|sN<|Ws<|Ws ?_;have q1:=S (6*k+q+18);refine Wl<|av (au ((k:Int)+1))<|Lv (au k) fU<|av (au ((q:Int)+1))<|Lv (au q) fU<|av (pf c 18)<|Lv (pf c (6*k+18)) (jD 6 6)<|Lv (pf c (6*k+q+18)) (jD 6 1)<|Lv (au (x (6*k+q+18))) (aN v.aI (6*k+q+18))<|av (au n)<|Lv (au ((x (6*k+q+18))+n)) eT ?_;by_cases E:1125899906842624<((x (6*k+q+18))+n)
   ·refine Lv aG (lH E)<|aC<|aO<|ay<|av (.agg (aA 54 (rv .i64 (fun _=>0))))<|fH A 0 fun w7 m14 Q z5 => ?_;have m15:aQ w7 h 54 (rv .i64 (fun _=>0)) 59:=aX m14;have m16:=v.cZ Q (by omega);have Z:=Q.below m m.size (by omega);refine av (au 6) (aC (Wr (sR (⟨.tuple #[.agg (aA 54 (rv .i64 (fun _=>0))),au 6],gV Tryz.results81 ⟨_,rfl,aW m15.aI (by kernel_rfl) (by kernel_rfl)⟩ (by exact rfl),?_⟩))));refine⟨?_,Z⟩;have a:dn x ((k:Int)+1) ((q:Int)+1) n=(zero,6):=by
     unfold dn nH;rw[b_ g,nI b k y,g_ o,KA];exact CK b r s (by rw[l,d]; rfl) rfl (by omega)
    rw[a]
    all_goals rfl
   refine Lv aF (lI E)<|aC<|aK<|Wk<|sN<|Ws ?_;refine Wt 13 (by kernel_rfl) (by kernel_rfl) fun oI dM gY => ?_;have⟨G,m18,C⟩:=jG dM v A m;refine El (au ((k:Int)+1))<|ql (au k) fU<|El (au ((q:Int)+1))<|ql (au q) fU<|El (pf c 18)<|ql (pf c (6*k+18)) (jD 6 6)<|ql (pf c (6*k+q+18)) (jD 6 1)<|ql (au (x (6*k+q+18))) (aN G.aI (6*k+q+18))<|El (au n)<|ql (au ((x (6*k+q+18))+n)) eT<|El (pf c 18)<|ql (pf c (6*k+18)) (jD 6 6)<|ql (pf c (6*k+q+18)) (jD 6 1)<|Fx.St.nil ?_;refine jh G (6*k+q+18) (au ((x (6*k+q+18))+n)) fun w8 m19 R z6 => ?_;have I:aQ w8 c 54 (rv .i64 (upd x (6*k+q+18) ((x (6*k+q+18))+n))) 59:=m19.to (Fx.vg _ _ _ _);have m21:=m18.cZ R (by omega);have D:=R.below C C.size (by omega);refine aC<|ay<|Lv (.agg (aA 54 (rv .i64 (upd x (6*k+q+18) ((x (6*k+q+18))+n))))) (fG I.aI 0)<|fH m21 0 fun w9 m22 K z7 => ?_;have m23:aQ w9 h 54 (rv .i64 (upd x (6*k+q+18) ((x (6*k+q+18))+n))) 59:=aX m22;have m24:=I.cZ K (by omega);have T:=K.below D D.size (by omega);refine av (au 0) (aC (Wr (⟨.tuple #[.agg (aA 54 (rv .i64 (upd x (6*k+q+18) ((x (6*k+q+18))+n)))),au 0],gV Tryz.results81 ⟨_,rfl,aW m23.aI (by kernel_rfl) (by kernel_rfl)⟩ (by exact rfl),?_⟩)));refine⟨?_,T⟩;have a:dn x ((k:Int)+1) ((q:Int)+1) n=(upd x (6*k+q+18) (x (6*k+q+18)+n),0):=by
    unfold dn nH;rw[b_ g,nI b k y,g_ o,KA];exact zQ b r s (by rw[l,d]; rfl) rfl (by omega)
   rw[a]
   all_goals rfl
  rw[S_]at d;refine lW (yA j _) aF (by rw[d])<|av aG<|aC<|aO<|ay<|av (.agg (aA 54 (rv .i64 (fun _=>0))))<|fH u 0 fun tH mY M z8 => ?_;have nQ:aQ tH h 54 (rv .i64 (fun _=>0)) 59:=aX mY;have oJ:=p.cZ M (by omega);have U:=M.below f f.size (by omega);refine av (au 10) (aC (Wr (sR (⟨.tuple #[.agg (aA 54 (rv .i64 (fun _=>0))),au 10],gV Tryz.results81 ⟨_,rfl,aW nQ.aI (by kernel_rfl) (by kernel_rfl)⟩ (by exact rfl),?_⟩))));refine⟨?_,U⟩;have a:dn x ((k:Int)+1) j n=(zero,10):=by
   unfold dn;rw[d,H_];exact Qe b r s
  rw[a]
  all_goals rfl
 refine Lv aG (lJ t)<|aC<|aO<|ay<|av (.agg (aA 54 (rv .i64 (fun _=>0))))<|av (au (eB x i n))<|fH u 0 fun FT ou N z9 => ?_;have qo:aQ FT h 54 (rv .i64 (fun _=>0)) 59:=aX ou;have oP:=p.cZ N (by omega);have V:=N.below f f.size (by omega);refine av (au (eB x i n)) (aC (Wr (sR (⟨.tuple #[.agg (aA 54 (rv .i64 (fun _=>0))),au (eB x i n)],gV Tryz.results81 ⟨_,rfl,aW qo.aI (by kernel_rfl) (by kernel_rfl)⟩ (by exact rfl),?_⟩))));refine⟨?_,V⟩;have a:dn x i j n=(zero,eB x i n):=by
  exact Qf t
 rw[a]
 all_goals rfl
namespace Rt
theorem DU{m:kZ}{x:Int}(h:0<=m.node x) : ∃ q:Nat,q<m.s.nn/\gX (fun i=>decide (m.id i=x)) m.s.nn=(q:Int)/\m.id q=x:=by
 rcases jH (fun i=>decide (m.id i=x)) m.s.nn with ⟨q,b,e,a⟩|⟨e,_⟩
 ·exact⟨q,b,e,h_ a⟩
 unfold kZ.node at h; omega
theorem Oj{n:Nat}{x:Nat->Int}{r:Int} : ∀ j,j<(n+1)*1->iD (rv .u64 x) (n*1) (bH (fun j=>rv .u64 (fun _=>0) (j % 1)) (0*1) 1 (fun _=>aD r)) j=rv .u64 (aH x n r) j:=by
 intro j a;unfold iD rv aH;by_cases h:j<n*1
 ·rw[d_ h,b_ (by omega)]
 rw[b_ h,d_ (by omega)];unfold bH;rw[d_ (by omega)]
theorem KC{P:Nat->Bool}{n k j:Nat}(e:k=j+1)(h : ∀ i,k<=i->i<n->P i=true)(c:P j=true) : ∀ i,j<=i->i<n->P i=true:=fun i d b=>by
 by_cases a:i=j
 ·subst a; exact c
 ·exact h i (by omega) b
end Rt
theorem AL(m:kZ)(p a:Nat)(o r:Int)(w:World)(h:CF w p m)(ha:a<6)(b:o=(a:Int)+1) :
 Calls Tryz.prog 108 #[(pt p),au o,aD r] w fun e w'=>e = .returned (.bool (decide (0<=m.kM a r)))/\Below w.heap.size w w':=by
 subst b; exact Xg m p a r w h ha
set_option maxRecDepth 20000 in
set_option maxHeartbeats 2000000 in
theorem Xw(m:kZ)(B p a D:Nat)(v:EvM)(w:World)(O:uY w B p m)(G:B<=w.heap.size)(ha:a<6)(ho:v.o=(a:Int)+1)(bgg:m.s.gn<=900000)(Zy : ∀ i,i<6->m.rn i<=900000)(hTN : ∀ x,m.node x=bD m.t m.tn x)(hD:bD m.t m.tn (bF m.t m.tn D v.node)<0)(hD2:D<=1000) :
 Calls Tryz.prog 79 #[(pt p),.agg (aA 14 (bR v))] w fun e w'=>e = .returned (au (iR m.core v))/\Below B w w'/\(iR m.core v=0 -> ∃ m',m'.core=lQ m.core v/\uY w' B p m'):=by
 have TH:=O.c;have hLn:=O.n;have hLg:=O.g;have TI:=O.tc;have TJ:=O.t;have hLr:=O.r;have TK:=O.pB;have Dt:=O.tB;have bn:=O.bn;have bg:=O.bg;have bt:=O.bt;have lpp:p<w.heap.size:=TH.lt;have QU:m.tb<w.heap.size:=TI.lt;refine Kent Tryz.func79 188 ?_;refine ay<|qM fun I w1 kU m1 s1 z1 => ?_;have⟨m2,m3,m4,m5,m6,m7⟩:=sV s1.old TH hLn hLg TI TJ hLr;have b1:=eF s1.old (Below.refl B w) G;have tC:=jE kU (Below.refl B w).size;have⟨nD,wP⟩:=xD kU TH.lt TI.lt;have uU:=m1.lt;refine av (au 0)<|aC<|Ws<|ay<|av (pt p)<|av (pt I)<|Lv (au v.o) (aN m1.aI 0)<|av (pf I 12)<|Lv (aD v.req) (aN m1.aI 12) ?_;have ML:CF w1 p m := { c:=m2.aI,an:=m3.arr,ag:=m4.arr,tc:=m5.aI,at2:=m6.arr,ar:=fun i N=>(m7.1 i N).arr,bn:=(by show m.s.nn<=1000000; omega),bg:=bg,bt:=(by show m.tn<=1000000; omega),br:=O.br };by_cases c17:(decide (0<=m.kM a v.req))=true
 ·refine dP (AL m p a v.o v.req _ ML ha ho) aG (by rw[c17]) ?_;intro w2 hb1;have b2:=eF hb1 b1 G;refine aC<|aO<|ay<|av (au 14)<|aC<|Wr<|sR<|aJ (au 14) ?_;have eN:aL v=a:=by unfold aL; omega
  have Y:iR m.core v=14:=by unfold iR; rw[eN]; exact d_ (h_ c17)
  exact⟨oO Y.symm,b2,fun h0=>by rw[Y]at h0; cases h0⟩
 rw[S_]at c17;refine dP (AL m p a v.o v.req _ ML ha ho) aF (by rw[c17]) ?_;intro w3 hb2;have⟨m15,m16,m17,m18,m19,m20,m21⟩:=jM hb2 m2 m3 m4 m5 m6 m7 m1;have b3:=eF hb2 b1 G;refine aC<|aK<|Wk<|sN<|Ws ?_;refine jP [0,1,2,4,3,5,6,7] [0,0,0,4,0,4,3,0] [(6,3,[3]),(6,5,[5]),(7,6,[6])] fun oI dM gY => ?_;have⟨m22,m23,m24,mY,nQ,oJ,ou⟩:=jM dM m15 m16 m17 m18 m19 m20 m21;have b4:=eF dM b3 G;refine aY (pt p)<|aY (pt p)<|aY (pf p 20)<|aY (pf I 9)<|Rs (pt m.tb) (aN m22.aI 20) ?_;refine Rs (aD v.node) (aN ou.aI 9) ?_;refine gK<|lK (IQ m.tb m.ta m.tn m.tc m.t v.node D _ (sP mY nQ bt) hD hD2) ?_;rintro e w4 ⟨K,vv,he,hown,qZ,hK1,hb3⟩;obtain⟨a1,C,rfl⟩:=hown.val;refine⟨.slice a1 K C,he,?_⟩;clear he;have Wm:K=fu m.t m.tn v.node:=uK qZ hK1 hD hD2;have hKD:K<=1000:=by rw[Wm]; exact IZ _ _
 have⟨qo,oP,mV,m32,oQ,nT,pY⟩:=jM hb3 m22 m23 m24 mY nQ oJ ou;have b5:=eF hb3 b4 G;refine Ln<|aY (.slice a1 (K) (C))<|bQ<|Ws<|ay<|av (.slice a1 (K) (C))<|av (au K) ?_;by_cases c27:(K:Int)=0
 ·refine Lv aG (eY c27)<|aC<|aO<|ay<|av (au 9)<|aC<|Wr<|sR<|aJ (au 9) ?_;have eN:aL v=a:=by unfold aL; omega
  have ne1 : ¬ 0<=m.core.kM (aL v) v.req:=by rw[eN]; exact j_ c17
  have Y:iR m.core v=9:=by unfold iR; rw[b_ ne1]; exact d_ (Wm.symm.trans (by omega))
  exact⟨oO Y.symm,b5,fun h0=>by rw[Y]at h0; cases h0⟩
 refine Lv aF (gy c27)<|aC<|aK<|Wk<|sN<|Ws<|ay<|av (au 0)<|aC<|Wb<|Wo (fun f H => ∃ k:Nat,∃ Rk:Nat->Nat->Int,k<=K/\dz (fun x=>bB x v.o v.aT) (nU m.core v.node) m.R k=(Rk,0)/\f 0=(pt p)/\f 3=(pt I)/\f 5 = .slice a1 (K) (C)/\f 6=au (k:Int)/\aQ H p 27 (mE m) 71/\Fx.Own H B 66 5 (.slice m.s.ga (m.s.gn) (m.s.gc)) m.s.gn (IK m)/\aQ H m.tb 1 (fun _ => .slice m.ta m.tn m.tc) 123/\Fx.Own H B 128 2 (.slice m.ta (m.tn) (m.tc)) m.tn (PX m.t)/\vU H B 6 m/\aQ H I 14 (bR v) 32/\Fx.Own H oI.heap.size 28 1 (.slice a1 (K) (C)) K (rv .u64 (fun i=>bF m.t m.tn i v.node))/\Fx.Own H B 61 56 (.slice m.s.na (m.s.nn) (m.s.nc)) m.s.nn (flat 56 (fun l=>lV (m.id l) (m.par l) (Rk l)))/\Below B w H) (fun f _=>(K-(intOf (f 6)).toNat)) ⟨0,m.R,by omega,rfl,(by rfl),(by rfl),(by rfl),Fx.ic,qo,mV,m32,oQ,nT,pY,hown,oP,b5⟩ ?_;rintro f1 w5 ⟨k,Rk,hk,hRk,h1,Q,h3,h4,qD,rQ,rR,oU,rT,mZ,mP,nR,b6⟩;refine Ws<|ay<|aS h4<|aS h3<|av (au K) ?_;by_cases c31:(k:Int)<(K:Int)
 ·refine Lv aG (gI c31)<|aC<|aO<|Wk<|sN<|Ws<|Wb<|Ws ?_;obtain⟨q,hq,eq0,_⟩:=DU (m:=m) (x:=bF m.t m.tn k v.node) (by rw[hTN]; exact qZ k (by omega));have ex1:nU m.core v.node k=q:=by show(gX (fun i=>decide (m.id i=bF m.t m.tn k v.node)) m.s.nn).toNat=q; rw[eq0]; rfl
  refine Wl<|aS h1<|aS h3<|aS h4 ?_;obtain⟨ED,eq1⟩:=mP.addr (by omega);have qY:Fx.Own w5 oI.heap.size 28 1 (bM ED K C) K (rv .u64 (fun i=>bF m.t m.tn i v.node)):=mP.fF (K_ (fun q=>Value.slice q K C) eq1);refine Lv (pf ED k) (dh 1 (hx:=(rfl.trans (K_ (fun q=>Value.slice q (K) (C)) eq1))))<|Lv (aD (bF m.t m.tn k v.node)) (aN qY.aI k) ?_;have qE:Fx.Own w5 oI.heap.size 28 1 (.slice a1 (K) (C)) K (rv .u64 (fun i=>bF m.t m.tn i v.node)):=qY.fF (K_ (fun q=>Value.slice q K C) eq1.symm);have Ua:CF w5 p { m with R:=Rk } := { c:=qD.aI,an:=nR.arr,ag:=rQ.arr,tc:=rR.aI,at2:=oU.arr,ar:=fun i N=>(rT.1 i N).arr,bn:=(by show m.s.nn<=1000000; omega),bg:=bg,bt:=(by show m.tn<=1000000; omega),br:=O.br };refine dP ((IL { m with R:=Rk } p (bF m.t m.tn k v.node) _ Ua).mono (fun e w2 Q=>(⟨Q.1.trans (oO eq0),Q.2⟩:e = .returned (au (q:Int))/\_))) _ rfl ?_;intro w6 hb4;have⟨nE,qF,wJ,rY,sJ,uV,uy,tY⟩:=mM hb4 qD rQ rR oU rT mZ nR qE;have b7:=eF hb4 b6 G;refine av (au q)<|aC<|Ws ?_;obtain⟨V,DV⟩:=uy.addr (by omega);have uz:Fx.Own w6 B 61 56 (bM V m.s.nn m.s.nc) m.s.nn (flat 56 (fun l=>lV (m.id l) (m.par l) (Rk l))):=uy.fF (K_ (fun q=>Value.slice q m.s.nn m.s.nc) DV);refine qR (T:=59) (T':=59) (a := .tmp 8) (v := .tmp 55) (m:=54) (z:=rv .i64 (fun _=>0)) (y:=rv .i64 ((bB (Rk q) v.o v.aT).1)) (u := .agg (aA 54 (rv .i64 ((bB (Rk q) v.o v.aT).1)))) 17 18 (List.replicate 20 (0,2,[],[])) #[(pt p),(pt p),(pt p),(pf p 18),.slice m.s.na (m.s.nn) (m.s.nc),au (q:Int),(pf V (56*q)),(pf V (56*q+2)),.agg (aA 54 (rv .i64 (Rk q))),(pt I),au v.o,(pf I 11),au v.aT,.tuple #[.agg (aA 54 (rv .i64 ((bB (Rk q) v.o v.aT).1))),au ((bB (Rk q) v.o v.aT).2)],.tuple #[.agg (aA 54 (rv .i64 ((bB (Rk q) v.o v.aT).1))),au ((bB (Rk q) v.o v.aT).2)],.agg (aA 54 (rv .i64 ((bB (Rk q) v.o v.aT).1))),au ((bB (Rk q) v.o v.aT).2),undef,undef,au ((bB (Rk q) v.o v.aT).2)] (by kernel_rfl) (by kernel_rfl) (by kernel_rfl) (by kernel_rfl) (by kernel_rfl) (by kernel_rfl) rfl (by kernel_rfl) rfl rfl (by kernel_rfl) (fun Z=>(show ev _ (.tmp 8)=(pt Z)from by kernel_rfl)) (fun Z=>(show ev _ (.tmp 55) = .agg (aA 54 (rv .i64 ((bB (Rk q) v.o v.aT).1)))from by kernel_rfl)) (bI _ _) (fun _ _=>rfl) (by kernel_rfl) (fun Z => ?_) ?_
  ·refine⟨?_,?_,?_,?_,?_,?_,?_,?_,?_,?_,?_,?_,?_,?_,?_,?_,?_,?_,?_,?_,trivial⟩
   ·exact .inr (.inr (rX (pt p) fun d b=>fC rfl ((bX (by kernel_rfl)).trans h1)))
   ·exact .inr (.inr pU)
   ·exact .inr (.inr pU)
   ·exact .inr (.inr pU)
   ·exact .inr (.inr (rX (.slice m.s.na (m.s.nn) (m.s.nc)) fun d b=>bA (x:=mE m) rfl (show ev _ (.tmp 44)=(pf p 18)from by kernel_rfl) (by kernel_rfl) (nE.aI.below b (by have:=nE.lt; omega)) (i:=18) (by omega) (by omega) rfl))
   ·exact .inr (.inr pU)
   ·exact .inr (.inr (rX (pf V (56*q)) fun d b=>dS rfl ((show ev _ (.tmp 45) = .slice m.s.na (m.s.nn) (m.s.nc)from by kernel_rfl).trans (K_ (fun q=>Value.slice q (m.s.nn) (m.s.nc)) DV)) (show ev _ (.tmp 46)=au (q:Int)from by kernel_rfl) Tryz.underlying50 (s:=56) (by kernel_rfl) (by omega) (by omega) (by omega)))
   ·exact .inr (.inr pU)
   ·exact .inr (.inr (rX (.agg (aA 54 (rv .i64 (Rk q)))) fun d b=>eG (x:=flat 56 (fun l=>lV (m.id l) (m.par l) (Rk l))) (y:=rv .i64 (Rk q)) rfl (show ev _ (.tmp 48)=(pf V (56*q+2))from by kernel_rfl) (by kernel_rfl) (by kernel_rfl) (uz.aI.below b (by have:=uz.lt; omega)) (i:=56*q+2) (by omega) (by omega) (fun jq hjq=>(Fx.gW (k:=q) (j:=2+jq) (by omega) (by omega)).trans ((fun jq _=>IJ _ _ _ jq) jq hjq))))
   ·exact .inr (.inr (rX (pt I) fun d b=>fK rfl ((bX (by kernel_rfl)).trans Q) Tryz.underlying32 rfl (s:=1) (by kernel_rfl) rfl rfl))
   ·exact .inr (.inr (rX (au v.o) fun d b=>bA (x:=bR v) rfl (show ev _ (.tmp 50)=(pt I)from by kernel_rfl) (by kernel_rfl) (uV.aI.below b (by have:=uV.lt; omega)) (i:=0) (by omega) (by omega) rfl))
   ·exact .inr (.inr (rX (pf I 11) fun d b=>fK rfl ((bX (by kernel_rfl)).trans Q) Tryz.underlying32 rfl (s:=1) (by kernel_rfl) rfl (by show _+11=_; omega)))
   ·exact .inr (.inr (rX (au v.aT) fun d b=>bA (x:=bR v) rfl (show ev _ (.tmp 52)=(pf I 11)from by kernel_rfl) (by kernel_rfl) (uV.aI.below b (by have:=uV.lt; omega)) (i:=11) (by omega) (by omega) rfl))
   ·exact .inr (.inr (Fx.Ik (v := .tuple #[.agg (aA 54 (rv .i64 ((bB (Rk q) v.o v.aT).1))),au ((bB (Rk q) v.o v.aT).2)]) (by kernel_rfl) (by kernel_rfl) (Fx.qbC (fun d b=>rC (args := [.agg (aA 54 (rv .i64 (Rk q))),au v.o,au v.aT]) rfl (Fx.NC (show ev _ (.tmp 49) = .agg (aA 54 (rv .i64 (Rk q)))from by kernel_rfl) (show ev _ (.tmp 51)=au v.o from by kernel_rfl) (show ev _ (.tmp 53)=au v.aT from by kernel_rfl)) Tryz.func109 rfl rfl) (fun d b=>(Xt (Rk q) v.o v.aT _).mono fun e v2 h=>⟨h.1,h.2⟩))))
   ·exact .inr (.inr pU)
   ·exact .inr (.inr pU)
   ·exact .inr (.inr pU)
   ·exact .inl rfl
   ·exact .inr (.inl rfl)
   exact .inr (.inr pU)
  rintro Z w7 E A rU xH hb5;have EF:p≠Z:=t_ (n_ (nE.lt) rU);have akR:m.tb≠Z:=t_ (n_ (wJ.lt) rU);have abv:I≠Z:=t_ (n_ (uV.lt) rU);have akS:V≠Z:=t_ (n_ (uz.lt) rU);have⟨tZ,sK,uf,xI,qb,wK,nY,tJ⟩:=mM hb5 nE qF wJ rY sJ uV tY uz;have b8:=eF hb5 b7 G;have rU:w.heap.size<=Z:=m_ b7.size rU;have Av:=xH.lt;have q1:E 0=(pt p):=by rw[A]; exact(bX (by kernel_rfl)).trans h1
  have q2:E 3=(pt I):=by rw[A]; exact(bX (by kernel_rfl)).trans Q
  have q3:E 5 = .slice a1 (K) (C):=by rw[A]; exact(bX (by kernel_rfl)).trans h3
  have q4:E 6=au (k:Int):=by rw[A]; exact(bX (by kernel_rfl)).trans h4
  have q5:E 28=au (k:Int):=by rw[A]; kernel_rfl
  have q6:E 29 = .slice a1 (K) (C):=by rw[A]; kernel_rfl
  have q7:E 30=au (K:Int):=by rw[A]; kernel_rfl
  have q8:E 31 = .bool true:=by rw[A]; kernel_rfl
  have q9:E 34=(pt p):=by rw[A]; kernel_rfl
  have q10:E 35 = .slice a1 (K) (C):=by rw[A]; kernel_rfl
  have q11:E 36=au (k:Int):=by rw[A]; kernel_rfl
  have q12:E 37=(pf ED k):=by rw[A]; kernel_rfl
  have q13:E 38=aD (bF m.t m.tn k v.node):=by rw[A]; kernel_rfl
  have q14:E 39=au (q:Int):=by rw[A]; kernel_rfl
  have q15:E 7=au (q:Int):=by rw[A]; kernel_rfl
  have q16:E 41=(pt p):=by rw[A]; kernel_rfl
  have q17:E 42=(pt p):=by rw[A]; kernel_rfl
  have q18:E 43=(pt p):=by rw[A]; kernel_rfl
  have q19:E 44=(pf p 18):=by rw[A]; kernel_rfl
  have q20:E 45 = .slice m.s.na (m.s.nn) (m.s.nc):=by rw[A]; kernel_rfl
  have q21:E 46=au (q:Int):=by rw[A]; kernel_rfl
  have q22:E 47=(pf V (56*q)):=by rw[A]; kernel_rfl
  have q23:E 48=(pf V (56*q+2)):=by rw[A]; kernel_rfl
  have q24:E 49 = .agg (aA 54 (rv .i64 (Rk q))):=by rw[A]; kernel_rfl
  have q25:E 50=(pt I):=by rw[A]; kernel_rfl
  have q26:E 51=au v.o:=by rw[A]; kernel_rfl
  have q27:E 52=(pf I 11):=by rw[A]; kernel_rfl
  have q28:E 53=au v.aT:=by rw[A]; kernel_rfl
  have q29:E 54 = .tuple #[.agg (aA 54 (rv .i64 ((bB (Rk q) v.o v.aT).1))),au ((bB (Rk q) v.o v.aT).2)]:=by rw[A]; kernel_rfl
  have q30:E 40 = .tuple #[.agg (aA 54 (rv .i64 ((bB (Rk q) v.o v.aT).1))),au ((bB (Rk q) v.o v.aT).2)]:=by rw[A]; kernel_rfl
  have q31:E 55 = .agg (aA 54 (rv .i64 ((bB (Rk q) v.o v.aT).1))):=by rw[A]; kernel_rfl
  have q32:E 56=au ((bB (Rk q) v.o v.aT).2):=by rw[A]; kernel_rfl
  have q33:E 8=(pt Z):=by rw[A]; kernel_rfl
  have q34:E 9=au ((bB (Rk q) v.o v.aT).2):=by rw[A]; kernel_rfl
  clear A;refine sN<|Ws<|ay<|aS q34 ?_;by_cases c58:((bB (Rk q) v.o v.aT).2)=0
  ·refine Lv aF (jd c58)<|aC<|aK<|Wk<|sN ?_;refine jP [0,1,2,3,5,4,6,7,8,9] [0,0,0,0,4,0,4,0,0,3] [(9,4,[4]),(9,6,[6])] fun Cw gD nC => ?_;have⟨m64,wS,wL,wT,wU,rZ,uW,vN,wM⟩:=Bj gD tZ sK uf xI qb wK nY tJ xH;have b9:=eF gD b8 G;refine bU q1<|aY (pt p)<|aY (pt p)<|aY (pf p 18)<|bU q15<|Rs (.slice m.s.na (m.s.nn) (m.s.nc)) (aN m64.aI 18) ?_;refine Rs (.agg (aA 54 (rv .i64 ((bB (Rk q) v.o v.aT).1)))) (fG wM.aI 0 (ha:=q33)) ?_;refine Rp (pf V (56*q)) (fun _=>dh 56 (hx:=(rfl.trans (K_ (fun q=>Value.slice q (m.s.nn) (m.s.nc)) DV))))<|aY (pf V (56*q+2))<|gK<|zB vN (56*q+2) fun w8 uX s9 z2 => ?_;have gN:=iC s9 vN.JI;have⟨zk,wN,yP,yQ,yR,wZ,wV⟩:=Ry gN m64 wS wL wT wU rZ uW;have b10:=s9.below b9 (m_ G b9.size) vN.blk.1;have xJ:Fx.Own w8 B 61 56 (bM V m.s.nn m.s.nc) m.s.nn (flat 56 (fun l=>lV (m.id l) (m.par l) (aH Rk q ((bB (Rk q) v.o v.aT).1) l))):=uX.congr (fun X W=>(Fx.Bh (k:=q) (j:=2) (by omega) (by omega) X W).trans (bK (fun i N j hj=>BI i N j hj) X W));refine Ln<|Rn<|bO<|sN<|Wl<|aS q4<|Lv (au ((k:Int)+1)) eT<|av (au ((k:Int)+1))<|Ln ?_;have zF:Fx.Own w8 B 61 56 (.slice m.s.na (m.s.nn) (m.s.nc)) m.s.nn (flat 56 (fun l=>lV (m.id l) (m.par l) (aH Rk q ((bB (Rk q) v.o v.aT).1) l))):=xJ.fF (K_ (fun q=>Value.slice q m.s.nn m.s.nc) DV.symm);refine gH ⟨k+1,(aH Rk q (bB (Rk q) v.o v.aT).1),by omega,(EN hRk ex1 (by first|exact c58|exact Classical.not_not.1 c58)),q1,q2,q3,Fx.ic,zk,wN,yP,yQ,yR,wZ,wV,zF,b10⟩ ?_
   show(K-(intOf (au ((k:Int)+1))).toNat)<_;simp only[h4,intOf]; omega
  refine Lv aG (lJ c58)<|aC<|aO<|ay<|aS q34<|av (au ((bB (Rk q) v.o v.aT).2))<|aC<|Wr<|sR<|bL<|sR<|pO<|bL<|sR<|aJ (au ((bB (Rk q) v.o v.aT).2)) ?_;have eN:aL v=a:=by unfold aL; omega
  have ne1 : ¬ 0<=m.core.kM (aL v) v.req:=by rw[eN]; exact j_ c17
  have ne2 : ¬ fu m.core.t m.core.tn v.node=0:=fun e=>c27 (by rw[show K=0 from Wm.trans e]; rfl);have ew:mR m.core v=dz (fun x=>bB x v.o v.aT) (nU m.core v.node) m.R K:=by unfold mR; rw[show fu m.core.t m.core.tn v.node=K from Wm.symm]; rfl
  have Y:iR m.core v=(bB (Rk q) v.o v.aT).2:=by
   unfold iR; rw[b_ ne1,b_ ne2,ew];have e1:=GQ hRk ex1 c58;rw[zP (k:=k+1) (by rw[e1]; exact c58) K (by omega)]; exact e1
  exact⟨oO Y.symm,b8,fun h0=>L_ (Y.symm.trans h0) c58⟩
 refine Lv aF (gJ c31)<|aC<|aK<|Wx<|bY<|gG<|bZ<|sN<|Ws ?_;have hRK:dz (fun x=>bB x v.o v.aT) (nU m.core v.node) m.R K=(Rk,0):=by rw[show K=k by omega]; exact hRk
 refine Wl<|Lv (pt I) (ji Q 0)<|Lv (au v.o) (aN mZ.aI 0)<|Lv (pf I 12) (ji Q 12)<|Lv (aD v.req) (aN mZ.aI 12)<|Lv (pf I 9) (ji Q 9)<|Lv (aD v.node) (aN mZ.aI 9)<|Lv (pf I 11) (ji Q 11)<|Lv (au v.aT) (aN mZ.aI 11)<|av (.agg (aA 5 (bH (bH (bH (bH (fun J=>if J<1 then au 0 else if J<3 then aD 0 else if J<4 then au 0 else aD 0) 0 1 (fun _=>au v.o)) 1 1 (fun _=>aD v.req)) 2 1 (fun _=>aD v.node)) 3 1 (fun _=>au v.aT))))<|wX 5 (fun J=>if J<1 then au 0 else if J<3 then aD 0 else if J<4 then au 0 else aD 0) fun U w9 zI xK s10 z3 => ?_;have⟨Aq,Ar,Ac,zG,zH,Au,Dr⟩:=jM s10.old qD rQ rR oU rT mZ nR;have b11:=eF s10.old b6 G;have Es:=jE zI b6.size;have abw:=cK zI qD.lt;have IU:(.slice m.s.ga (m.s.gn) (m.s.gc):Value).ownBlock≠some U:=by rw[zI]; exact rQ.jK (z_ _)
 have⟨abx,akU⟩:=xD zI rR.lt mZ.lt;have Mr:=xK.lt;refine fH xK 0 (h1:=(bV (bV (bV (bV (fun jq _=>by show((fun J=>if J<1 then au 0 else if J<3 then aD 0 else if J<4 then au 0 else aD 0:Nat->Value) jq).oneCell'=true; simp only[]; repeat (first|rfl|split)) (fun _ _=>rfl)) (fun _ _=>rfl)) (fun _ _=>rfl)) (fun _ _=>rfl))) fun tH Bv s11 z4 => ?_
 have CJ:aQ tH U 5 (bH (bH (bH (bH (fun J=>if J<1 then au 0 else if J<3 then aD 0 else if J<4 then au 0 else aD 0) 0 1 (fun _=>au v.o)) 1 1 (fun _=>aD v.req)) 2 1 (fun _=>aD v.node)) 3 1 (fun _=>au v.aT)) 66:=aX Bv;have jX:=iC s11 xK.ty;have zM:=kY jX Aq;have FU:=Ar.cZ s11 IU;have⟨DT,FV,F5,vX,vY⟩:=qV jX Ac zG zH Au Dr;have b12:=s11.below b11 (m_ G b11.size) (by omega);refine aC<|Ws ?_;have tK:aQ tH U 5 (iX (pV v)) 66:=CJ.congr (fun j hj=>by rcases j with _|_|_|_|_|j <;> first|rfl|omega)
 refine Wl<|aS h1<|av (pt p)<|av (pt p)<|av (pf p 19)<|Lv (.slice m.s.ga (m.s.gn) (m.s.gc)) (aN zM.aI 19)<|av (au m.s.gn)<|av (au m.s.gn)<|aC<|Ws ?_;refine Aj [0,1,2,3,4,5,6,7,8,9,10,11,12] [0,0,0,0,0,1,4,2,2,0,0,0,3] (iQ [66]) vH Fx.iQ.trans (fE := [(12,5,[5]),(7,6,[6]),(8,6,[7,6]),(12,6,[6]),(8,7,[7]),(9,7,[7]),(10,7,[7]),(11,7,[7]),(12,7,[7]),(9,8,[8]),(10,8,[8]),(11,8,[8]),(12,8,[8])]) (by kernel_rfl) (by kernel_rfl) (by kernel_rfl) (by kernel_rfl) (by kernel_rfl) fun QV lD Ao => ?_;have⟨oZ,oz,qg,pz,qG,rH,uI,qH⟩:=mM lD zM FU DT FV F5 vX vY tK;have b13:=eF lD b12 G;refine bU h1<|bU h1<|aY (pt p)<|aY (pt p)<|aY (pf p 19)<|Rd (v := .slice m.s.ga (m.s.gn) (m.s.gc)) (by rfl) (by rfl) (vH _) (fun d b=>bA (x:=mE m) rfl rfl (by kernel_rfl) (oZ.kr b (by decide)).aI (i:=19) (by omega) (by omega) rfl) ?_;refine Rs (.agg (aA 5 (iX (pV v)))) (fG qH.aI 0) ?_;refine Bc<|yc (vs := [(0,.agg (aA 5 (iX (pV v))))]) (s:=5) (zc:=fun J=>if J<1 then au 0 else if J<3 then aD 0 else if J<4 then au 0 else aD 0) (y:=bH (fun j=>(fun J=>if J<1 then au 0 else if J<3 then aD 0 else if J<4 then au 0 else aD 0) (j % 5)) (0*5) 5 (iX (pV v))) (by rfl) rfl rfl Tryz.underlying51 (by kernel_rfl) (by rfl) (by rfl) (by kernel_rfl) (by rw[bC (off:=0*5) (s:=5) (y:=iX (pV v)) rfl (bI _ _) (by rfl)]; rfl) rfl fun g4 FT Mg tL s13 z5 => ?_;have⟨yS,uJ,yT,Bz,wW,tN,qh,xO⟩:=mM s13.old oZ oz qg pz qG rH uI qH;have b14:=eF s13.old b13 G;have Wn:=jE Mg b13.size;have Xx:=cK Mg oZ.lt;have Xy:(.slice m.s.ga (m.s.gn) (m.s.gc):Value).ownBlock≠some g4:=by rw[Mg]; exact oz.jK (z_ _)
 have⟨aiv,Xz,aiw⟩:=JL Mg qg.lt rH.lt qH.lt;have Ub:=tL.lt;refine Ln ⟨Fx.iQ.of_below s13.old,?_⟩;refine Bc<|yK (B:=B) (s:=5) (bytes:=40) (k:=m.s.gn) (m:=1) (v := .slice m.s.ga (m.s.gn) (m.s.gc)) (x:=IK m) (by rfl) rfl rfl rfl Tryz.underlying51 (by kernel_rfl) (by kernel_rfl) rfl rfl uJ tL.aI (vV (sQ _)) (by omega) (by omega) (by omega) (m_ G b14.size) fun F C Dn ho1 hg1 uo hlt1 => ?_;have tF:=yL hg1 uJ;have⟨tO,BA,IV,EG,AA,EH⟩:=Rx tF yS yT Bz wW tN qh;have F6:=xO.grown hg1 IU;have aix:U≠F:=fun e=>uo.elim (fun e2=>IU (by rw[e]; exact e2)) (fun e2=>by have:=xO.lt; omega);have xP:Fx.Own Dn B 66 5 (bM F (m.s.gn+1) C) (m.s.gn+1) (flat 5 (Fx.JJ (fun l=>iX (m.g l)) (iX (pV v)) m.s.gn m.s.gn)):=(ho1.congr (fun j hj=>(Fx.xu j hj).trans (bK (fun i N q _=>Fx.xw i N q) j hj)));have b15:Below B w Dn:=yJ b14 hg1 (m_ G b14.size) (fun q hq=>(uJ.ge hq).1);refine Ln ⟨tF,?_⟩;refine aY (pt p)<|aY (pt p)<|aY (pf p 19)<|gK<|jh tO 19 (bM F (m.s.gn+1) C) fun Gz BD Dm z6 => ?_;have zD:=iC Dm tO.ty;have⟨zN,I5,Kt,EI,EJ,F7,F8⟩:=Ry zD BA IV EG AA EH F6 xP;have b16:=Dm.below b15 (m_ G b15.size) (by omega);refine Ln<|bQ<|Cv (fun f H => ∃ k:Nat,k<=m.s.gn/\k=down (fun i=>EO v (m.g i)) m.s.gn/\f 0=(pt p)/\f 3=(pt I)/\f 10=(pt U)/\f 11=au (k:Int)/\aQ H m.tb 1 (fun _ => .slice m.ta m.tn m.tc) 123/\Fx.Own H B 128 2 (.slice m.ta (m.tn) (m.tc)) m.tn (PX m.t)/\vU H B 6 m/\aQ H I 14 (bR v) 32/\Fx.Own H B 61 56 (.slice m.s.na (m.s.nn) (m.s.nc)) m.s.nn (flat 56 (fun l=>lV (m.id l) (m.par l) (Rk l)))/\aQ H U 5 (iX (pV v)) 66/\aQ H p 27 (dB (mE m) 19 (bM F (m.s.gn+1) C)) 71/\Fx.Own H B 66 5 (bM F (m.s.gn+1) C) (m.s.gn+1) (flat 5 (Fx.JJ (fun l=>iX (m.g l)) (iX (pV v)) m.s.gn k))/\Below B w H) ?_ ?_
 ·refine Wb<|Wo (fun f H => ∃ k:Nat,k<=m.s.gn/\(∀ i,k<=i->i<m.s.gn->EO v (m.g i)=true)/\f 0=(pt p)/\f 3=(pt I)/\f 10=(pt U)/\f 11=au (k:Int)/\aQ H m.tb 1 (fun _ => .slice m.ta m.tn m.tc) 123/\Fx.Own H B 128 2 (.slice m.ta (m.tn) (m.tc)) m.tn (PX m.t)/\vU H B 6 m/\aQ H I 14 (bR v) 32/\Fx.Own H B 61 56 (.slice m.s.na (m.s.nn) (m.s.nc)) m.s.nn (flat 56 (fun l=>lV (m.id l) (m.par l) (Rk l)))/\aQ H U 5 (iX (pV v)) 66/\aQ H p 27 (dB (mE m) 19 (bM F (m.s.gn+1) C)) 71/\Fx.Own H B 66 5 (bM F (m.s.gn+1) C) (m.s.gn+1) (flat 5 (Fx.JJ (fun l=>iX (m.g l)) (iX (pV v)) m.s.gn k))/\Below B w H) (fun f _=>(intOf (f 11)).toNat) ⟨m.s.gn,by omega,(fun i h1 Q=>L_ h1 (by omega)),h1,Q,(by rfl),Fx.ic,zN,I5,Kt,EI,EJ,F7,BD,F8,b16⟩ ?_;rintro f3 L ⟨k,hk,hgt,S,h6,h7,M,BF,EK,BG,EU,EL,zO,BH,AB,b17⟩;refine Ws<|Ws ?_;refine xC<|dX M ?_;by_cases c97:0<(k:Int)
  ·obtain⟨j,ej⟩ : ∃ j,k=j+1:=⟨k-1,by omega⟩;refine Qv aG (fun d b=>lH c97)<|aU aG<|dX S<|aU (pt p)<|aU (pt p)<|aU (pf p 19)<|Qv (bM F (m.s.gn+1) C) (fun d b=>aN (BH.aI.dr b) 19 (Fx.kW (by omega)))<|dX M<|Qv (au j) (fun d b=>fU)<|Qv (pf F (5*j)) (fun d b=>dh 5)<|aU (pf F (5*j))<|Qv (au ((m.g j) 0)) (fun d b=>aN (AB.aI.dr b) (5*j) (Fx.fQ (k:=j) (j:=0) (by omega) (by omega) ((congrFun (Fx.za (by omega) (by omega)) 0).trans rfl)))<|Qv (pt U) (fun d b=>ji h7 0)<|Qv (au v.o) (fun d b=>aN (zO.aI.dr b) 0) ?_;by_cases Uc:v.o<((m.g j) 0)
   ·refine Qv aG (fun d b=>lH Uc)<|aU aG<|aP<|aP<|aP<|aP<|aP<|aP<|aP<|aP<|aP<|aP<|aP<|aP<|aP<|aP<|aP<|aP<|aP<|aP<|aP<|aP<|aP<|aP<|aP ?_;refine aP<|aP<|aP<|aP<|aP<|aU aG<|aU aG<|Qn ?_;rintro _ ⟨P,rfl⟩;obtain⟨Cy,rG⟩ : ∃ d,d=World.drewN L P:=⟨_,rfl⟩;rw[<- rG];have s15:Stp L.heap.size L Cy:=(by rw[rG]; exact Sb (jF L P));have⟨IW,TL,Ud,TM,TN,abK,TP,aby⟩:=mM s15.old BF EK BG EU EL zO BH AB;have b18:=eF s15.old b17 G;clear rG;refine sN<|aO<|Wk<|sN<|Wb<|Ws ?_;refine jP [0,1,2,3,5,6,7,8,9,11,12,4,10,13,14,15,16] [0,0,0,0,4,0,0,0,0,0,4,0,0,0,4,0,3] [(16,4,[4]),(16,10,[10]),(16,14,[14])] fun wt4 qm Gy => ?_;have⟨TQ,P6,TR,TS,abz,abA,abL,P7⟩:=mM qm IW TL Ud TM TN abK TP aby;have b19:=eF qm b18 G;refine bU S<|aY (pt p)<|aY (pt p)<|aY (pf p 19)<|bU M<|bU S<|aY (pt p)<|aY (pt p)<|aY (pf p 19)<|bU M<|Rp (au j) (fun _=>fU)<|Rs (bM F (m.s.gn+1) C) (aN abL.aI 19 (Fx.kW (by omega))) ?_;refine Rs (bM F (m.s.gn+1) C) (aN abL.aI 19 (Fx.kW (by omega))) ?_;refine Rp (pf F (5*j)) (fun _=>dh 5)<|Rs (.agg (aA 5 (iX (m.g j)))) (fG P7.aI (5*j) (fun jq hjq=>(Fx.gW (k:=j) (by omega) hjq).trans (congrFun (Fx.za (by omega) (by omega)) jq))) ?_;refine Rp (pf F (5*k)) (fun _=>dh 5)<|gK<|zB P7 (5*k) (h1:=(fun j _=>sQ _ j)) fun Mj abB Jr z7 => ?_;have yN:=iC Jr P7.JI;have⟨afF,abC,abD,abE,akV⟩:=qV yN TQ P6 TR TS abz;have akW:=abA.cZ Jr (by omega);have akX:=kY yN abL;have b20:=Jr.below b19 (m_ G b19.size) P7.blk.1;have akY:Fx.Own Mj B 66 5 (bM F (m.s.gn+1) C) (m.s.gn+1) (flat 5 (Fx.JJ (fun l=>iX (m.g l)) (iX (pV v)) m.s.gn j)):=abB.congr (fun X W=>(Fx.uj (k:=k) (by omega) X W).trans (bK (fun i N q _=>Fx.yg ej (by omega) i N q) X W));refine Ln<|bQ<|Wl<|aS M<|Lv (au j) fU<|av (au j)<|Ln<|bO<|gH ⟨j,by omega,(KC ej hgt (by unfold EO; rw[f_ Uc]; rfl)),S,h6,h7,Fx.ic,afF,abC,abD,abE,akV,akW,akX,akY,b20⟩ ?_;show(intOf (au j)).toNat<_;simp only[M,intOf]; omega
   refine Qv aF (fun d b=>lI Uc)<|aU aF<|dX S<|aU (pt p)<|aU (pt p)<|aU (pf p 19)<|Qv (bM F (m.s.gn+1) C) (fun d b=>aN (BH.aI.dr b) 19 (Fx.kW (by omega)))<|dX M<|Qv (au j) (fun d b=>fU)<|Qv (pf F (5*j)) (fun d b=>dh 5)<|aU (pf F (5*j))<|Qv (au ((m.g j) 0)) (fun d b=>aN (AB.aI.dr b) (5*j) (Fx.fQ (k:=j) (j:=0) (by omega) (by omega) ((congrFun (Fx.za (by omega) (by omega)) 0).trans rfl)))<|Qv (pt U) (fun d b=>ji h7 0)<|Qv (au v.o) (fun d b=>aN (zO.aI.dr b) 0) ?_;by_cases XA:((m.g j) 0)=v.o
   ·refine Qv aG (fun d b=>eY XA)<|aU aG<|dX S<|aU (pt p)<|aU (pt p)<|aU (pf p 19)<|Qv (bM F (m.s.gn+1) C) (fun d b=>aN (BH.aI.dr b) 19 (Fx.kW (by omega)))<|dX M<|Qv (au j) (fun d b=>fU)<|Qv (pf F (5*j)) (fun d b=>dh 5)<|aU (pf F (5*j+1))<|Qv (aD ((m.g j) 1)) (fun d b=>aN (AB.aI.dr b) (5*j+1) (Fx.fQ (k:=j) (j:=1) (by omega) (by omega) ((congrFun (Fx.za (by omega) (by omega)) 1).trans rfl)))<|Qv (pf U 1) (fun d b=>ji h7 1)<|Qv (aD v.req) (fun d b=>aN (zO.aI.dr b) 1) ?_;by_cases c139:v.req<((m.g j) 1)
    ·refine Qv aG (fun d b=>lH c139)<|aU aG<|aU aG<|aU aG<|Qn ?_;rintro _ ⟨P,rfl⟩;obtain⟨wq2,vW⟩ : ∃ d,d=World.drewN L P:=⟨_,rfl⟩;rw[<- vW];have LG:Stp L.heap.size L wq2:=(by rw[vW]; exact Sb (jF L P));have⟨akZ,ala,alb,alc,ald,ale,alf,alg⟩:=mM LG.old BF EK BG EU EL zO BH AB;have LB:=eF LG.old b17 G;clear vW;refine sN<|aO<|Wk<|sN<|Wb<|Ws ?_;refine jP [0,1,2,3,5,6,7,8,9,11,12,4,10,13,14,15,16] [0,0,0,0,4,0,0,0,0,0,4,0,0,0,4,0,3] [(16,4,[4]),(16,10,[10]),(16,14,[14])] fun wt5 zi R9 => ?_;have⟨alh,ali,alj,alk,alm,aln,abM,XB⟩:=mM zi akZ ala alb alc ald ale alf alg;have LC:=eF zi LB G;refine bU S<|aY (pt p)<|aY (pt p)<|aY (pf p 19)<|bU M<|bU S<|aY (pt p)<|aY (pt p)<|aY (pf p 19)<|bU M<|Rp (au j) (fun _=>fU)<|Rs (bM F (m.s.gn+1) C) (aN abM.aI 19 (Fx.kW (by omega))) ?_;refine Rs (bM F (m.s.gn+1) C) (aN abM.aI 19 (Fx.kW (by omega))) ?_;refine Rp (pf F (5*j)) (fun _=>dh 5)<|Rs (.agg (aA 5 (iX (m.g j)))) (fG XB.aI (5*j) (fun jq hjq=>(Fx.gW (k:=j) (by omega) hjq).trans (congrFun (Fx.za (by omega) (by omega)) jq))) ?_;refine Rp (pf F (5*k)) (fun _=>dh 5)<|gK<|zB XB (5*k) (h1:=(fun j _=>sQ _ j)) fun w16 alo s20 z8 => ?_;have yO:=iC s20 XB.JI;have⟨alp,alq,alr,als,alu⟩:=qV yO alh ali alj alk alm;have alv:=aln.cZ s20 (by omega);have alx:=kY yO abM;have R7:=s20.below LC (m_ G LC.size) XB.blk.1;have aly:Fx.Own w16 B 66 5 (bM F (m.s.gn+1) C) (m.s.gn+1) (flat 5 (Fx.JJ (fun l=>iX (m.g l)) (iX (pV v)) m.s.gn j)):=alo.congr (fun X W=>(Fx.uj (k:=k) (by omega) X W).trans (bK (fun i N q _=>Fx.yg ej (by omega) i N q) X W));refine Ln<|bQ<|Wl<|aS M<|Lv (au j) fU<|av (au j)<|Ln<|bO<|gH ⟨j,by omega,(KC ej hgt (by unfold EO; rw[f_ XA,f_ c139]; cases decide (v.o<m.g j 0) <;> rfl)),S,h6,h7,Fx.ic,alp,alq,alr,als,alu,alv,alx,aly,R7⟩ ?_
     show(intOf (au j)).toNat<_;simp only[M,intOf]; omega
    refine Qv aF (fun d b=>lI c139)<|aU aF<|aU aF<|aU aF<|Qn ?_;rintro _ ⟨P,rfl⟩;obtain⟨Qc,EW⟩ : ∃ d,d=World.drewN L P:=⟨_,rfl⟩;rw[<- EW];have s21:Stp L.heap.size L Qc:=(by rw[EW]; exact Sb (jF L P));have⟨alz,alA,alB,alC,alD,alE,alF,alG⟩:=mM s21.old BF EK BG EU EL zO BH AB;have WU:=eF s21.old b17 G;clear EW;refine sN<|aK<|Wx<|bY<|gG<|bZ ?_;exact vM ⟨k,hk,(Fx.oG hk hgt (.inr (fun j2 e=>by rw[show j2=j by omega]; unfold EO; rw[g_ Uc,g_ c139,H_]; rfl))),S,h6,h7,(M.trans Fx.ic),alz,alA,alB,alC,alD,alE,alF,alG,WU⟩
   refine Qv aF (fun d b=>gy XA)<|aU aF<|aP<|aP<|aP<|aP<|aP<|aP<|aP<|aP<|aP<|aP<|aP<|aP<|aP<|aU aF<|aU aF<|aU aF<|Qn ?_;rintro _ ⟨P,rfl⟩;obtain⟨wq4,EX⟩ : ∃ d,d=World.drewN L P:=⟨_,rfl⟩;rw[<- EX];have s22:Stp L.heap.size L wq4:=(by rw[EX]; exact Sb (jF L P));have⟨alH,alI,alJ,alK,alL,alM,alN,alO⟩:=mM s22.old BF EK BG EU EL zO BH AB;have b25:=eF s22.old b17 G;clear EX;refine sN<|aK<|Wx<|bY<|gG<|bZ ?_;exact vM ⟨k,hk,(Fx.oG hk hgt (.inr (fun j2 e=>by rw[show j2=j by omega]; unfold EO; rw[g_ Uc,g_ XA]; rfl))),S,h6,h7,(M.trans Fx.ic),alH,alI,alJ,alK,alL,alM,alN,alO,b25⟩
  refine Qv aF (fun d b=>lI c97)<|aU aF<|aP<|aP<|aP<|aP<|aP<|aP<|aP<|aP<|aP<|aP<|aP<|aP<|aP<|aP<|aP<|aP<|aP<|aP<|aP<|aP<|aP<|aP<|aP ?_;refine aP<|aP<|aP<|aP<|aP<|aP<|aP<|aP<|aP<|aP<|aP<|aP<|aP<|aP<|aP<|aP<|aP<|aP<|aP<|aP<|aU aF<|Qn ?_;rintro _ ⟨P,rfl⟩;obtain⟨wq5,MN⟩ : ∃ d,d=World.drewN L P:=⟨_,rfl⟩;rw[<- MN];have s23:Stp L.heap.size L wq5:=by rw[MN]; exact Sb (jF L P)
  have⟨alP,alQ,alR,alS,alT,alU,alV,alW⟩:=mM s23.old BF EK BG EU EL zO BH AB;have b26:=eF s23.old b17 G;clear MN;refine sN<|aK<|Wx<|bY<|gG<|bZ ?_;exact vM ⟨k,hk,(Fx.oG hk hgt (.inl (by omega))),S,h6,h7,(M.trans Fx.ic),alP,alQ,alR,alS,alT,alU,alV,alW,b26⟩
 rintro f4 Sg ⟨k,hk,ek,h9,h10,h11,h12,alX,alY,alZ,ama,amb,amc,amd,ame,b27⟩;refine Ws ?_;refine jP [0,1,2,3,5,4,6,7,8] [0,0,0,0,4,0,4,0,3] [(8,4,[4]),(8,6,[6])] fun wt6 J7 aeZ => ?_;have⟨amf,amg,amh,ami,amj,afP,afQ,abN⟩:=mM J7 alX alY alZ ama amb amc amd ame;have b28:=eF J7 b27 G;refine bU h9<|aY (pt p)<|aY (pt p)<|aY (pf p 19)<|bU h12<|Rs (bM F (m.s.gn+1) C) (aN afQ.aI 19 (Fx.kW (by omega))) ?_;refine Rs (.agg (aA 5 (iX (pV v)))) (fG afP.aI 0 (ha:=h11)) ?_;refine Rp (pf F (5*k)) (fun _=>dh 5)<|gK<|zB abN (5*k) (h1:=(fun j _=>sQ _ j)) fun Si amk Zj z9 => ?_;have Az:=iC Zj abN.JI;have⟨aml,amm,afR,amn,amo⟩:=qV Az amf amg amh ami amj;have amq:=afP.cZ Zj (by omega);have amr:=kY Az afQ;have b29:=Zj.below b28 (m_ G b28.size) abN.blk.1;have ams:Fx.Own Si B 66 5 (bM F (m.s.gn+1) C) (m.s.gn+1) (flat 5 (Fx.Iq (fun l=>iX (m.g l)) k (iX (pV v)))):=amk.congr (fun X W=>(Fx.uj (k:=k) (by omega) X W).trans (bK (fun i N q _=>Fx.sF (by omega) i N q) X W));refine Ln<|bQ<|Ws ?_;have amu:Fx.Own Si B 28 1 (.slice (m.ra a) (m.rn a) (m.rc a)) (m.rn a) (rv .u64 (m.rq a)):=afR.1 a ha;have bra:=O.br a ha;refine Aj [0,1,4,5,8,9,12,16,17,2,3,6,7,10,11,13,14,15,18,19] [0,0,1,0,0,0,1,0,0,0,0,1,0,4,2,2,0,0,0,3] (iQ [28]) vH Fx.iQ.trans (fE := [(19,2,[2]),(19,6,[6]),(19,11,[11]),(14,13,[13]),(15,13,[14,13]),(19,13,[13]),(15,14,[14]),(18,14,[14]),(19,14,[14]),(18,15,[15]),(19,15,[15])]) (by kernel_rfl) (by kernel_rfl) (by kernel_rfl) (by kernel_rfl) (by kernel_rfl) fun wt7 J8 afb => ?_;have⟨afS,amv,amw,XC,amx,amy,abO,afT,afU⟩:=Bj J8 aml amm afR amn amo amq amr ams amu;have b30:=eF J8 b29 G;refine bU h9<|Rp (pt I) (fun _=>ji h10 0)<|bU h9<|Rp (pt I) (fun _=>ji h10 0)<|aY (pt p)<|aY (pf p 21)<|Rp (pf I 12) (fun _=>ji h10 12)<|aY (pt p)<|aY (pf p 21)<|Rd (v:=au v.o) (by rfl) (by rfl) (vH _) (fun d b=>bA (x:=bR v) rfl rfl (by kernel_rfl) (XC.kr b (by decide)).aI (i:=0) (by omega) (by omega) rfl) ?_;refine Rp (au a) (fun _=>fU)<|Rd (v:=au v.o) (by rfl) (by rfl) (vH _) (fun d b=>bA (x:=bR v) rfl rfl (by kernel_rfl) (XC.kr b (by decide)).aI (i:=0) (by omega) (by omega) rfl) ?_;refine Rp (au a) (fun _=>fU)<|Rp (pf p (a+21)) (fun _=>jD 6 1)<|Rd (v := .slice (m.ra a) (m.rn a) (m.rc a)) (by rfl) (by rfl) (vH _) (fun d b=>bA (x:=dB (mE m) 19 (bM F (m.s.gn+1) C)) rfl rfl (by kernel_rfl) (abO.kr b (by decide)).aI (i:=a+21) (by omega) (by omega) (Fx.Ag (by omega) (vT _ (by omega)))) ?_;refine Rs (aD v.req) (aN XC.aI 12) ?_;refine Bc<|yc (vs := [(0,aD v.req)]) (s:=1) (zc:=rv .u64 (fun _=>0)) (y:=bH (fun j=>(rv .u64 (fun _=>0)) (j % 1)) (0*1) 1 (fun _=>aD v.req)) (by rfl) rfl rfl Tryz.underlying63 (by kernel_rfl) (by rfl) (by rfl) (by kernel_rfl) (by rw[bC (off:=0*1) (s:=1) (y:=fun _=>aD v.req) rfl (cells_one (by rfl)) (by rfl)]; rfl) rfl fun g6 Zk eg6 afV s27 z10 => ?_;have⟨amA,amB,amC,amD,amE,amF,abQ⟩:=jM s27.old afS amv amw amx abO afT afU;have b31:=eF s27.old b30 G;have lg6:=jE eg6 b30.size;have⟨aiy,aiz,aiA,aiB,aiC⟩:=Di eg6 afS.lt XC.lt amy.lt abO.lt afT.lt;have aiD:(.slice (m.ra a) (m.rn a) (m.rc a):Value).ownBlock≠some g6:=by rw[eg6]; exact afU.jK (z_ _)
 have tg6:=afV.lt;refine Ln ⟨Fx.iQ.of_below s27.old,?_⟩;refine Bc<|yK (B:=B) (s:=1) (bytes:=8) (k:=(m.rn a)) (m:=1) (v := .slice (m.ra a) (m.rn a) (m.rc a)) (x:=rv .u64 (m.rq a)) (by rfl) rfl rfl rfl Tryz.underlying63 (by kernel_rfl) (by kernel_rfl) rfl rfl abQ afV.aI (vV (fun _=>rfl)) (by omega) (by omega) (by omega) (m_ G b31.size) fun g7 cap2 Sl ho2 hg2 MF hlt2 => ?_;have EC:=yL hg2 abQ;have⟨amG,amH,amI,afW,amJ⟩:=qV EC amA amB amD amE amF;have amK:Fx.Own Sl B 28 1 (.slice (some ⟨g7,0,none⟩) ((m.rn a)+1) cap2) ((m.rn a)+1) (rv .u64 (aH (m.rq a) (m.rn a) v.req)):=(ho2.congr (fun j hj=>Oj j hj));have b32:Below B w Sl:=yJ b31 hg2 (m_ G b31.size) (fun q hq=>(abQ.ge hq).1);have amL:vU Sl B 6 { m with ra:=aH m.ra a (some ⟨g7,0,none⟩),rn:=aH m.rn a (m.rn a+1),rc:=aH m.rc a cap2,rq:=aH m.rq a (aH (m.rq a) (m.rn a) v.req) }:=vU.app amC ha rfl rfl rfl rfl amK hg2 MF;refine Ln ⟨EC,?_⟩;refine Rp (pf p (a+21)) (fun _=>jD 6 1)<|gK<|jh afW (a+21) (.slice (some ⟨g7,0,none⟩) ((m.rn a)+1) (cap2)) fun w21 amM s28 z11 => ?_;have abR:=iC s28 afW.ty;have⟨amN,amO,amP,amQ,amR⟩:=qV abR amG amH amI amJ amL;have b33:=s28.below b32 (m_ G b32.size) (by omega);refine Ln<|bQ<|ay<|av (au 0)<|aC<|Wr<|aJ (au 0) ?_;have eN:aL v=a:=by unfold aL; omega
 have ne1 : ¬ 0<=m.core.kM (aL v) v.req:=by rw[eN]; exact j_ c17
 have ne2 : ¬ fu m.core.t m.core.tn v.node=0:=fun e=>c27 (by rw[show K=0 from Wm.trans e]; rfl);have ew:mR m.core v=dz (fun x=>bB x v.o v.aT) (nU m.core v.node) m.R K:=by unfold mR; rw[show fu m.core.t m.core.tn v.node=K from Wm.symm]; rfl
 have Y:iR m.core v=0:=by unfold iR; rw[b_ ne1,b_ ne2,ew,hRK]
 have eW:mR m.core v=(Rk,0):=ew.trans hRK;have amS:Fx.Own w21 B 66 5 (bM F (m.s.gn+1) C) (m.s.gn+1) (flat 5 fun l=>iX (cB m.g k (pV v) l)):=by rw[<- Xr]; exact amQ
 refine⟨oO Y.symm,b33,fun _=>⟨{ m with s := { m.s with ga:=some ⟨F,0,none⟩,gn:=m.s.gn+1,gc:=C },R:=Rk,g:=cB m.g k (pV v),ra:=aH m.ra a (some ⟨g7,0,none⟩),rn:=aH m.rn a (m.rn a+1),rc:=aH m.rc a cap2,rq:=aH m.rq a (aH (m.rq a) (m.rn a) v.req) },?_,?_⟩⟩
 ·unfold lQ qj; rw[eW,eN]; rw[show down (fun i=>EO v (m.core.g i)) m.core.gn=k from ek.symm]; rfl
 exact { c:=amM.to ((K_ (fun z=>dB z (a+21) _) (MI m _ _ _)).trans (Kv _ rfl _ _ _)),n:=amP,g:=amS,tc:=amN,t:=amO,r:=amR,pB:=TK,tB:=Dt,bn:=bn,bg:=(by show m.s.gn+1<=1000000; omega),bt:=bt,br:=(fun i N=>by show aH m.rn a (m.rn a+1) i<=1000000; have:=Zy i N; have:=Zy a ha; unfold aH; split <;> omega) }
namespace Rt
def zm(L:fJ)(v:EvM):Nat:=(L.grant v.o v.of).toNat
def lS(L:fJ)(v:EvM):(Nat->Nat->Int) × Int:=dz (fun x=>bE x v.o (L.g (zm L v) 3)) (nU L (L.g (zm L v) 2)) L.R (fu L.t L.tn (L.g (zm L v) 2))
def iH(L:fJ)(v:EvM):Int:=if 0<=L.kM (aL v) v.req then 14 else if L.grant v.o v.of<0\/L.g (zm L v) 4≠0 then 12 else(lS L v).2
def jZ(L:fJ)(v:EvM):fJ:=qj { L with R:=(lS L v).1,g:=aH L.g (zm L v) (aH (L.g (zm L v)) 4 v.req) } (aL v) v.req
theorem Ue{m:kZ}{o r:Int}(h : ¬ m.grant o r<0) : ∃ q:Nat,q<m.s.gn/\m.grant o r=(q:Int)/\m.g q 0=o/\m.g q 1=r:=by
 rcases jH (fun i=>decide (m.g i 0=o)&&decide (m.g i 1=r)) m.s.gn with ⟨q,b,e,a⟩|⟨e,_⟩
 ·rw[R_]at a;exact⟨q,b,e,h_ a.1,h_ a.2⟩
 unfold kZ.grant at h; omega
theorem Qg{n q:Nat}{g:Nat->Nat->Int}{r:Int} : ∀ i,i<n -> ∀ j,j<5->Fx.qB (fun a=>iX (g a)) q (dB (iX (g q)) 4 (aD r)) i j=iX (aH g q (aH (g q) 4 r) i) j:=fun i _ j b=>by
 unfold Fx.qB;by_cases h:i=q
 ·subst h;rw[d_ rfl];unfold aH dB iX;rw[d_ rfl]
  rcases j with _|_|_|_|_|j <;> first|rfl|omega
 ·rw[b_ h]; unfold aH; rw[b_ h]
end Rt
set_option maxRecDepth 20000 in
set_option maxHeartbeats 2000000 in
theorem XD(m:kZ)(B p a:Nat)(v:EvM)(w:World)(H:uY w B p m)(F:B<=w.heap.size)(ha:a<6)(ho:v.o=(a:Int)+1)(bgg:m.s.gn<=900000)(Zy : ∀ i,i<6->m.rn i<=900000)(hTN : ∀ x,m.node x=bD m.t m.tn x)(hDx : ∀ x,∃ D,D<=1000/\bD m.t m.tn (bF m.t m.tn D x)<0) :
 Calls Tryz.prog 80 #[(pt p),.agg (aA 14 (bR v))] w fun e w'=>e = .returned (au (iH m.core v))/\Below B w w'/\(iH m.core v=0 -> ∃ m',m'.core=jZ m.core v/\uY w' B p m'):=by
 have TH:=H.c;have hLn:=H.n;have hLg:=H.g;have TI:=H.tc;have TJ:=H.t;have hLr:=H.r;have TK:=H.pB;have Dt:=H.tB;have bn:=H.bn;have bg:=H.bg;have bt:=H.bt;have lpp:p<w.heap.size:=TH.lt;have QU:m.tb<w.heap.size:=TI.lt;refine Kent Tryz.func80 128 ?_;refine ay<|qM fun G w1 kU m1 s1 z1 => ?_;have⟨m2,m3,m4,m5,m6,m7⟩:=sV s1.old TH hLn hLg TI TJ hLr;have b1:=eF s1.old (Below.refl B w) F;have tC:=jE kU (Below.refl B w).size;have⟨nD,wP⟩:=xD kU TH.lt TI.lt;have uU:=m1.lt;refine av (au 0)<|aC<|Ws<|ay<|av (pt p)<|av (pt G)<|Lv (au v.o) (aN m1.aI 0)<|av (pf G 12)<|Lv (aD v.req) (aN m1.aI 12) ?_;have ML:CF w1 p m := { c:=m2.aI,an:=m3.arr,ag:=m4.arr,tc:=m5.aI,at2:=m6.arr,ar:=fun i N=>(m7.1 i N).arr,bn:=(by show m.s.nn<=1000000; omega),bg:=bg,bt:=(by show m.tn<=1000000; omega),br:=H.br };by_cases V:(decide (0<=m.kM a v.req))=true
 ·refine dP (AL m p a v.o v.req _ ML ha ho) aG (by rw[V]) ?_;intro w2 hb1;have b2:=eF hb1 b1 F;refine aC<|aO<|ay<|av (au 14)<|aC<|Wr<|sR<|aJ (au 14) ?_;have O:aL v=a:=by unfold aL; omega
  have J:iH m.core v=14:=by unfold iH; rw[O]; exact d_ (h_ V)
  exact⟨oO J.symm,b2,fun P=>by rw[J]at P; cases P⟩
 rw[S_]at V;refine dP (AL m p a v.o v.req _ ML ha ho) aF (by rw[V]) ?_;intro w3 hb2;have⟨m15,m16,m17,m18,m19,m20,m21⟩:=jM hb2 m2 m3 m4 m5 m6 m7 m1;have b3:=eF hb2 b1 F;refine aC<|aK<|Wk<|sN<|ay<|av (pt p)<|av (pt G)<|Lv (au v.o) (aN m21.aI 0)<|av (pf G 13)<|Lv (aD v.of) (aN m21.aI 13) ?_;have Ua:CF w3 p m := { c:=m15.aI,an:=m16.arr,ag:=m17.arr,tc:=m18.aI,at2:=m19.arr,ar:=fun i N=>(m20.1 i N).arr,bn:=(by show m.s.nn<=1000000; omega),bg:=bg,bt:=(by show m.tn<=1000000; omega),br:=H.br };refine dP (Xf m p v.o v.of _ Ua) _ rfl ?_;intro w4 hb3;have⟨m22,m23,m24,mY,nQ,oJ,ou⟩:=jM hb3 m15 m16 m17 m18 m19 m20 m21;have b4:=eF hb3 b3 F;refine av (au (m.grant v.o v.of))<|aC<|Ws<|ay<|av (au (m.grant v.o v.of)) ?_;by_cases ab:(m.grant v.o v.of)<0
 ·refine Lv aG (gI ab)<|av aG<|dw<|dw<|dw<|dw<|dw<|dw<|dw<|dw<|dw<|dw<|av aG<|aC<|aO<|ay<|av (au 12)<|aC<|Wr<|sR<|aJ (au 12) ?_;have O:aL v=a:=by unfold aL; omega
  have aa : ¬ 0<=m.core.kM (aL v) v.req:=by rw[O]; exact j_ V
  have J:iH m.core v=12:=by unfold iH; rw[b_ aa]; exact d_ (.inl ab)
  exact⟨oO J.symm,b4,fun P=>by rw[J]at P; cases P⟩
 obtain⟨b,hkg,ekg,_,_⟩:=Ue ab;have ac:zm m.core v=b:=by show(m.grant v.o v.of).toNat=b; rw[ekg]; rfl
 refine Lv aF (gJ ab)<|av aF<|av (pt p)<|av (pt p)<|av (pt p)<|av (pf p 19)<|Lv (.slice m.s.ga (m.s.gn) (m.s.gc)) (aN m22.aI 19)<|aS (K_ (Value.int .i64) ekg) ?_;obtain⟨af,eq1⟩:=m24.addr (by omega);have qo:Fx.Own w4 B 66 5 (bM af m.s.gn m.s.gc) m.s.gn (IK m):=m24.fF (K_ (fun q=>Value.slice q m.s.gn m.s.gc) eq1);refine Lv (pf af (5*b)) (dh 5 (hx:=(rfl.trans (K_ (fun q=>Value.slice q (m.s.gn) (m.s.gc)) eq1))))<|av (pf af (5*b+4))<|Lv (aD ((m.g b) 4)) (aN qo.aI (5*b+4) (Fx.fQ (k:=b) (j:=4) (by omega) (by omega) rfl)) ?_;by_cases ae:((m.g b) 4)=0
 ·refine Lv aF (jd ae)<|av aF<|aC<|aK<|Wk<|sN<|Ws ?_;obtain⟨D,hD2,hD⟩:=hDx (m.g b 2);refine jP [0,1,2,4,5,6,7,9,3,8,10,11,12,13,14] [0,0,0,4,0,0,0,0,4,0,0,0,4,3,0] [(13,3,[3]),(13,8,[12,11,10,8]),(13,12,[12]),(14,13,[13])] fun oI dM gY => ?_;have⟨oP,mV,m32,oQ,nT,pY,qD⟩:=jM dM m22 m23 mY nQ oJ ou qo;have b5:=eF dM b4 F;refine aY (pt p)<|aY (pt p)<|aY (pf p 20)<|aY (pt p)<|aY (pt p)<|aY (pt p)<|aY (pf p 19)<|bU (K_ (Value.int .i64) ekg)<|Rs (pt m.tb) (aN oP.aI 20) ?_;refine Rs (.slice m.s.ga (m.s.gn) (m.s.gc)) (aN oP.aI 19) ?_;refine Rp (pf af (5*b)) (fun _=>dh 5 (hx:=(rfl.trans (K_ (fun q=>Value.slice q (m.s.gn) (m.s.gc)) eq1))))<|aY (pf af (5*b+2))<|Rs (aD ((m.g b) 2)) (aN qD.aI (5*b+2) (Fx.fQ (k:=b) (j:=2) (by omega) (by omega) rfl)) ?_;refine gK<|lK (IQ m.tb m.ta m.tn m.tc m.t (m.g b 2) D _ (sP m32 oQ bt) hD hD2) ?_;rintro e w5 ⟨K,vv,he,hown,qZ,hK1,hb4⟩;obtain⟨U,E,rfl⟩:=hown.val;refine⟨.slice U K E,he,?_⟩;clear he;have Wm:K=fu m.t m.tn (m.g b 2):=uK qZ hK1 hD hD2;have hKD:K<=1000:=by rw[Wm]; exact IZ _ _
  have⟨rQ,rR,oU,rT,mZ,mP,nR⟩:=jM hb4 oP mV m32 oQ nT pY qD;have b6:=eF hb4 b5 F;refine Ln<|aY (.slice U (K) (E))<|bQ<|Ws<|ay<|av (au 0)<|aC<|Wb ?_;have qY:Fx.Own w5 B 66 5 (.slice m.s.ga (m.s.gn) (m.s.gc)) m.s.gn (IK m):=nR.fF (K_ (fun q=>Value.slice q m.s.gn m.s.gc) eq1.symm);refine Wo (fun f S => ∃ k:Nat,∃ Rk:Nat->Nat->Int,k<=K/\dz (fun x=>bE x v.o (m.g b 3)) (nU m.core (m.g b 2)) m.R k=(Rk,0)/\f 0=(pt p)/\f 3=(pt G)/\f 6 = .slice U (K) (E)/\f 7=au (k:Int)/\f 5=au (b:Int)/\aQ S p 27 (mE m) 71/\aQ S m.tb 1 (fun _ => .slice m.ta m.tn m.tc) 123/\Fx.Own S B 128 2 (.slice m.ta (m.tn) (m.tc)) m.tn (PX m.t)/\vU S B 6 m/\aQ S G 14 (bR v) 32/\Fx.Own S B 66 5 (.slice m.s.ga (m.s.gn) (m.s.gc)) m.s.gn (IK m)/\Fx.Own S oI.heap.size 28 1 (.slice U (K) (E)) K (rv .u64 (fun i=>bF m.t m.tn i (m.g b 2)))/\Fx.Own S B 61 56 (.slice m.s.na (m.s.nn) (m.s.nc)) m.s.nn (flat 56 (fun C=>lV (m.id C) (m.par C) (Rk C)))/\Below B w S) (fun f _=>(K-(intOf (f 7)).toNat)) ⟨0,m.R,by omega,rfl,(by rfl),(by rfl),(by rfl),Fx.ic,((K_ (Value.int .i64) ekg).trans Fx.ic),rQ,oU,rT,mZ,mP,qY,hown,rR,b6⟩ ?_;rintro f1 w6 ⟨k,Rk,hk,hRk,Y,Q,h3,h4,h5,qE,nE,qF,wJ,rY,sJ,uV,uy,b7⟩;refine Ws<|ay<|aS h4<|aS h3<|av (au K) ?_;by_cases c54:(k:Int)<(K:Int)
  ·refine Lv aG (gI c54)<|aC<|aO<|Wk<|sN<|Ws<|Wb<|Ws ?_;obtain⟨q,hq,eq0,_⟩:=DU (m:=m) (x:=bF m.t m.tn k (m.g b 2)) (by rw[hTN]; exact qZ k (by omega));have ex1:nU m.core (m.g b 2) k=q:=(by show(gX (fun i=>decide (m.id i=bF m.t m.tn k (m.g b 2))) m.s.nn).toNat=q; rw[eq0]; rfl);refine Wl<|aS Y<|aS h3<|aS h4 ?_;obtain⟨QW,DV⟩:=uV.addr (by omega);have tY:Fx.Own w6 oI.heap.size 28 1 (bM QW K E) K (rv .u64 (fun i=>bF m.t m.tn i (m.g b 2))):=uV.fF (K_ (fun q=>Value.slice q K E) DV);refine Lv (pf QW k) (dh 1 (hx:=(rfl.trans (K_ (fun q=>Value.slice q (K) (E)) DV))))<|Lv (aD ((fun i=>bF m.t m.tn i (m.g b 2)) k)) (aN tY.aI k) ?_;have uz:Fx.Own w6 oI.heap.size 28 1 (.slice U (K) (E)) K (rv .u64 (fun i=>bF m.t m.tn i (m.g b 2))):=tY.fF (K_ (fun q=>Value.slice q K E) DV.symm);have amT:CF w6 p { m with R:=Rk } := { c:=qE.aI,an:=uy.arr,ag:=sJ.arr,tc:=nE.aI,at2:=qF.arr,ar:=fun i N=>(wJ.1 i N).arr,bn:=(by show m.s.nn<=1000000; omega),bg:=bg,bt:=(by show m.tn<=1000000; omega),br:=H.br };refine dP ((IL { m with R:=Rk } p (bF m.t m.tn k (m.g b 2)) _ amT).mono (fun e w2 Q=>(⟨Q.1.trans (oO eq0),Q.2⟩:e = .returned (au (q:Int))/\_))) _ rfl ?_;intro w7 hb5;have⟨ad,tZ,sK,uf,xI,qb,wK,nY⟩:=mM hb5 qE nE qF wJ rY sJ uy uz;have b8:=eF hb5 b7 F;refine av (au q)<|aC<|Ws ?_;obtain⟨M,Zz⟩:=wK.addr (by omega);have tJ:Fx.Own w7 B 61 56 (bM M m.s.nn m.s.nc) m.s.nn (flat 56 (fun C=>lV (m.id C) (m.par C) (Rk C))):=wK.fF (K_ (fun q=>Value.slice q m.s.nn m.s.nc) Zz);obtain⟨W,eq4⟩:=qb.addr (by omega);have m64:Fx.Own w7 B 66 5 (bM W m.s.gn m.s.gc) m.s.gn (IK m):=qb.fF (K_ (fun q=>Value.slice q m.s.gn m.s.gc) eq4);refine qR (T:=59) (T':=59) (a := .tmp 9) (v := .tmp 85) (m:=54) (z:=rv .i64 (fun _=>0)) (y:=rv .i64 ((bE (Rk q) v.o ((m.g b) 3)).1)) (u := .agg (aA 54 (rv .i64 ((bE (Rk q) v.o ((m.g b) 3)).1)))) 24 25 (List.replicate 27 (0,2,[],[])) #[(pt p),(pt p),(pt p),(pf p 18),.slice m.s.na (m.s.nn) (m.s.nc),au (q:Int),(pf M (56*q)),(pf M (56*q+2)),.agg (aA 54 (rv .i64 (Rk q))),(pt G),au v.o,(pt p),(pt p),(pt p),(pf p 19),.slice m.s.ga (m.s.gn) (m.s.gc),au (b:Int),(pf W (5*b)),(pf W (5*b+3)),au ((m.g b) 3),.tuple #[.agg (aA 54 (rv .i64 ((bE (Rk q) v.o ((m.g b) 3)).1))),au ((bE (Rk q) v.o ((m.g b) 3)).2)],.tuple #[.agg (aA 54 (rv .i64 ((bE (Rk q) v.o ((m.g b) 3)).1))),au ((bE (Rk q) v.o ((m.g b) 3)).2)],.agg (aA 54 (rv .i64 ((bE (Rk q) v.o ((m.g b) 3)).1))),au ((bE (Rk q) v.o ((m.g b) 3)).2),undef,undef,au ((bE (Rk q) v.o ((m.g b) 3)).2)] (by kernel_rfl) (by kernel_rfl) (by kernel_rfl) (by kernel_rfl) (by kernel_rfl) (by kernel_rfl) rfl (by kernel_rfl) rfl rfl (by kernel_rfl) (fun L=>(show ev _ (.tmp 9)=(pt L)from by kernel_rfl)) (fun L=>(show ev _ (.tmp 85) = .agg (aA 54 (rv .i64 ((bE (Rk q) v.o ((m.g b) 3)).1)))from by kernel_rfl)) (bI _ _) (fun _ _=>rfl) (by kernel_rfl) (fun L => ?_) ?_
   ·refine⟨?_,?_,?_,?_,?_,?_,?_,?_,?_,?_,?_,?_,?_,?_,?_,?_,?_,?_,?_,?_,?_,?_,?_,?_,?_,?_,?_,trivial⟩
    ·exact .inr (.inr (rX (pt p) fun I A=>fC rfl ((bX (by kernel_rfl)).trans Y)))
    ·exact .inr (.inr pU)
    ·exact .inr (.inr pU)
    ·exact .inr (.inr pU)
    ·exact .inr (.inr (rX (.slice m.s.na (m.s.nn) (m.s.nc)) fun I A=>bA (x:=mE m) rfl (show ev _ (.tmp 67)=(pf p 18)from by kernel_rfl) (by kernel_rfl) (ad.aI.below A (by have:=ad.lt; omega)) (i:=18) (by omega) (by omega) rfl))
    ·exact .inr (.inr pU)
    ·exact .inr (.inr (rX (pf M (56*q)) fun I A=>dS rfl ((show ev _ (.tmp 68) = .slice m.s.na (m.s.nn) (m.s.nc)from by kernel_rfl).trans (K_ (fun q=>Value.slice q (m.s.nn) (m.s.nc)) Zz)) (show ev _ (.tmp 69)=au (q:Int)from by kernel_rfl) Tryz.underlying50 (s:=56) (by kernel_rfl) (by omega) (by omega) (by omega)))
    ·exact .inr (.inr pU)
    ·exact .inr (.inr (rX (.agg (aA 54 (rv .i64 (Rk q)))) fun I A=>eG (x:=flat 56 (fun C=>lV (m.id C) (m.par C) (Rk C))) (y:=rv .i64 (Rk q)) rfl (show ev _ (.tmp 71)=(pf M (56*q+2))from by kernel_rfl) (by kernel_rfl) (by kernel_rfl) (tJ.aI.below A (by have:=tJ.lt; omega)) (i:=56*q+2) (by omega) (by omega) (fun jq hjq=>(Fx.gW (k:=q) (j:=2+jq) (by omega) (by omega)).trans ((fun jq _=>IJ _ _ _ jq) jq hjq))))
    ·exact .inr (.inr (rX (pt G) fun I A=>fK rfl ((bX (by kernel_rfl)).trans Q) Tryz.underlying32 rfl (s:=1) (by kernel_rfl) rfl rfl))
    ·exact .inr (.inr (rX (au v.o) fun I A=>bA (x:=bR v) rfl (show ev _ (.tmp 73)=(pt G)from by kernel_rfl) (by kernel_rfl) (xI.aI.below A (by have:=xI.lt; omega)) (i:=0) (by omega) (by omega) rfl))
    ·exact .inr (.inr (rX (pt p) fun I A=>fC rfl ((bX (by kernel_rfl)).trans Y)))
    ·exact .inr (.inr pU)
    ·exact .inr (.inr pU)
    ·exact .inr (.inr pU)
    ·exact .inr (.inr (rX (.slice m.s.ga (m.s.gn) (m.s.gc)) fun I A=>bA (x:=mE m) rfl (show ev _ (.tmp 78)=(pf p 19)from by kernel_rfl) (by kernel_rfl) (ad.aI.below A (by have:=ad.lt; omega)) (i:=19) (by omega) (by omega) rfl))
    ·exact .inr (.inr (rX (au b) fun I A=>fC rfl ((bX (by kernel_rfl)).trans h5)))
    ·exact .inr (.inr (rX (pf W (5*b)) fun I A=>dS rfl ((show ev _ (.tmp 79) = .slice m.s.ga (m.s.gn) (m.s.gc)from by kernel_rfl).trans (K_ (fun q=>Value.slice q (m.s.gn) (m.s.gc)) eq4)) (show ev _ (.tmp 80)=au (b:Int)from by kernel_rfl) Tryz.underlying51 (s:=5) (by kernel_rfl) (by omega) (by omega) (by omega)))
    ·exact .inr (.inr pU)
    ·exact .inr (.inr (rX (au ((m.g b) 3)) fun I A=>bA (x:=IK m) rfl (show ev _ (.tmp 82)=(pf W (5*b+3))from by kernel_rfl) (by kernel_rfl) (m64.aI.below A (by have:=m64.lt; omega)) (i:=5*b+3) (by omega) (by omega) (Fx.fQ (k:=b) (j:=3) (by omega) (by omega) rfl)))
    ·exact .inr (.inr (Fx.Ik (v := .tuple #[.agg (aA 54 (rv .i64 ((bE (Rk q) v.o ((m.g b) 3)).1))),au ((bE (Rk q) v.o ((m.g b) 3)).2)]) (by kernel_rfl) (by kernel_rfl) (Fx.qbC (fun I A=>rC (args := [.agg (aA 54 (rv .i64 (Rk q))),au v.o,au ((m.g b) 3)]) rfl (Fx.NC (show ev _ (.tmp 72) = .agg (aA 54 (rv .i64 (Rk q)))from by kernel_rfl) (show ev _ (.tmp 74)=au v.o from by kernel_rfl) (show ev _ (.tmp 83)=au ((m.g b) 3)from by kernel_rfl)) Tryz.func111 rfl rfl) (fun I A=>(Xu (Rk q) v.o ((m.g b) 3) _).mono fun e v2 h=>⟨h.1,h.2⟩))))
    ·exact .inr (.inr pU)
    ·exact .inr (.inr pU)
    ·exact .inr (.inr pU)
    ·exact .inl rfl
    ·exact .inr (.inl rfl)
    exact .inr (.inr pU)
   rintro L w8 l d Z wS hb6;have abT:p≠L:=t_ (n_ (ad.lt) Z);have abU:m.tb≠L:=t_ (n_ (tZ.lt) Z);have abV:G≠L:=t_ (n_ (xI.lt) Z);have abW:M≠L:=t_ (n_ (tJ.lt) Z);have amU:W≠L:=t_ (n_ (m64.lt) Z);have⟨wL,wT,wU,rZ,uW,vN,wM,uX⟩:=mM hb6 ad tZ sK uf xI nY tJ m64;have b9:=eF hb6 b8 F;have Z:w.heap.size<=L:=m_ b8.size Z;have Av:=wS.lt;have q1:l 0=(pt p):=(by rw[d]; exact(bX (by kernel_rfl)).trans Y);have q2:l 3=(pt G):=(by rw[d]; exact(bX (by kernel_rfl)).trans Q);have q3:l 6 = .slice U (K) (E):=(by rw[d]; exact(bX (by kernel_rfl)).trans h3);have q4:l 7=au (k:Int):=(by rw[d]; exact(bX (by kernel_rfl)).trans h4);have q5:l 5=au (b:Int):=(by rw[d]; exact(bX (by kernel_rfl)).trans h5);have q6:l 51=au (k:Int):=(by rw[d]; kernel_rfl);have q7:l 52 = .slice U (K) (E):=(by rw[d]; kernel_rfl);have q8:l 53=au (K:Int):=(by rw[d]; kernel_rfl);have q9:l 54 = .bool true:=(by rw[d]; kernel_rfl);have q10:l 57=(pt p):=(by rw[d]; kernel_rfl);have q11:l 58 = .slice U (K) (E):=(by rw[d]; kernel_rfl);have q12:l 59=au (k:Int):=(by rw[d]; kernel_rfl);have q13:l 60=(pf QW k):=(by rw[d]; kernel_rfl);have q14:l 61=aD ((fun i=>bF m.t m.tn i (m.g b 2)) k):=(by rw[d]; kernel_rfl);have q15:l 62=au (q:Int):=(by rw[d]; kernel_rfl);have q16:l 8=au (q:Int):=(by rw[d]; kernel_rfl);have q17:l 64=(pt p):=(by rw[d]; kernel_rfl);have q18:l 65=(pt p):=(by rw[d]; kernel_rfl);have q19:l 66=(pt p):=(by rw[d]; kernel_rfl);have q20:l 67=(pf p 18):=(by rw[d]; kernel_rfl);have q21:l 68 = .slice m.s.na (m.s.nn) (m.s.nc):=(by rw[d]; kernel_rfl);have q22:l 69=au (q:Int):=(by rw[d]; kernel_rfl);have q23:l 70=(pf M (56*q)):=(by rw[d]; kernel_rfl);have q24:l 71=(pf M (56*q+2)):=(by rw[d]; kernel_rfl);have q25:l 72 = .agg (aA 54 (rv .i64 (Rk q))):=(by rw[d]; kernel_rfl);have q26:l 73=(pt G):=(by rw[d]; kernel_rfl);have q27:l 74=au v.o:=(by rw[d]; kernel_rfl);have q28:l 75=(pt p):=(by rw[d]; kernel_rfl);have q29:l 76=(pt p):=(by rw[d]; kernel_rfl);have q30:l 77=(pt p):=(by rw[d]; kernel_rfl);have q31:l 78=(pf p 19):=(by rw[d]; kernel_rfl);have q32:l 79 = .slice m.s.ga (m.s.gn) (m.s.gc):=(by rw[d]; kernel_rfl);have q33:l 80=au (b:Int):=(by rw[d]; kernel_rfl);have q34:l 81=(pf W (5*b)):=(by rw[d]; kernel_rfl);have q35:l 82=(pf W (5*b+3)):=(by rw[d]; kernel_rfl);have q36:l 83=au ((m.g b) 3):=(by rw[d]; kernel_rfl);have q37:l 84 = .tuple #[.agg (aA 54 (rv .i64 ((bE (Rk q) v.o ((m.g b) 3)).1))),au ((bE (Rk q) v.o ((m.g b) 3)).2)]:=(by rw[d]; kernel_rfl);have q38:l 63 = .tuple #[.agg (aA 54 (rv .i64 ((bE (Rk q) v.o ((m.g b) 3)).1))),au ((bE (Rk q) v.o ((m.g b) 3)).2)]:=(by rw[d]; kernel_rfl);have q39:l 85 = .agg (aA 54 (rv .i64 ((bE (Rk q) v.o ((m.g b) 3)).1))):=(by rw[d]; kernel_rfl);have q40:l 86=au ((bE (Rk q) v.o ((m.g b) 3)).2):=(by rw[d]; kernel_rfl);have q41:l 9=(pt L):=(by rw[d]; kernel_rfl);have q42:l 10=au ((bE (Rk q) v.o ((m.g b) 3)).2):=(by rw[d]; kernel_rfl);clear d;refine sN<|Ws<|ay<|aS q42 ?_;by_cases X:((bE (Rk q) v.o ((m.g b) 3)).2)=0
   ·refine Lv aF (jd X)<|aC<|aK<|Wk<|sN ?_;refine jP [0,1,2,3,5,4,6,7,8,9] [0,0,0,0,4,0,4,0,0,3] [(9,4,[4]),(9,6,[6])] fun Cw gD nC => ?_;have⟨zk,wN,yP,yQ,yR,wZ,wV,vO,xJ⟩:=Bj gD wL wT wU rZ uW vN wM uX wS;have b10:=eF gD b9 F;refine bU q1<|aY (pt p)<|aY (pt p)<|aY (pf p 18)<|bU q16<|Rs (.slice m.s.na (m.s.nn) (m.s.nc)) (aN zk.aI 18) ?_;refine Rs (.agg (aA 54 (rv .i64 ((bE (Rk q) v.o ((m.g b) 3)).1)))) (fG xJ.aI 0 (ha:=q41)) ?_;refine Rp (pf M (56*q)) (fun _=>dh 56 (hx:=(rfl.trans (K_ (fun q=>Value.slice q (m.s.nn) (m.s.nc)) Zz))))<|aY (pf M (56*q+2))<|gK<|zB wV (56*q+2) fun w9 zF s10 z2 => ?_;have gN:=iC s10 wV.JI;have⟨xK,Aq,Ar,Ac,zG,zH,Au⟩:=Ry gN zk wN yP yQ yR wZ vO;have b11:=s10.below b10 (m_ F b10.size) wV.blk.1;have Dr:Fx.Own w9 B 61 56 (bM M m.s.nn m.s.nc) m.s.nn (flat 56 (fun C=>lV (m.id C) (m.par C) (aH Rk q ((bE (Rk q) v.o ((m.g b) 3)).1) C))):=zF.congr (fun pq hp=>(Fx.Bh (k:=q) (j:=2) (by omega) (by omega) pq hp).trans (bK (fun i N j hj=>BI i N j hj) pq hp));refine Ln<|Rn<|bO<|sN<|Wl<|aS q4<|Lv (au ((k:Int)+1)) eT<|av (au ((k:Int)+1))<|Ln ?_;have Bv:Fx.Own w9 B 66 5 (.slice m.s.ga (m.s.gn) (m.s.gc)) m.s.gn (IK m):=Au.fF (K_ (fun q=>Value.slice q m.s.gn m.s.gc) eq4.symm);have CJ:Fx.Own w9 B 61 56 (.slice m.s.na (m.s.nn) (m.s.nc)) m.s.nn (flat 56 (fun C=>lV (m.id C) (m.par C) (aH Rk q ((bE (Rk q) v.o ((m.g b) 3)).1) C))):=Dr.fF (K_ (fun q=>Value.slice q m.s.nn m.s.nc) Zz.symm);refine gH ⟨k+1,(aH Rk q (bE (Rk q) v.o (m.g b 3)).1),by omega,(EN hRk ex1 (by first|exact X|exact Classical.not_not.1 X)),q1,q2,q3,Fx.ic,(q5.trans Fx.ic),xK,Aq,Ar,Ac,zG,Bv,zH,CJ,b11⟩ ?_
    show(K-(intOf (au ((k:Int)+1))).toNat)<_;simp only[h4,intOf]; omega
   refine Lv aG (lJ X)<|aC<|aO<|ay<|aS q42<|av (au ((bE (Rk q) v.o ((m.g b) 3)).2))<|aC<|Wr<|sR<|bL<|sR<|pO<|bL<|sR<|aJ (au ((bE (Rk q) v.o ((m.g b) 3)).2)) ?_;have O:aL v=a:=(by unfold aL; omega);have aa : ¬ 0<=m.core.kM (aL v) v.req:=(by rw[O]; exact j_ V);have ne2 : ¬ (m.core.grant v.o v.of<0\/m.core.g (zm m.core v) 4≠0):=(by rw[ac]; exact fun h=>h.elim ab (fun h=>h ae));have ew:lS m.core v=dz (fun x=>bE x v.o (m.g b 3)) (nU m.core (m.g b 2)) m.R K:=(by unfold lS; rw[ac,show fu m.core.t m.core.tn (m.core.g b 2)=K from Wm.symm]; rfl);have J:iH m.core v=(bE (Rk q) v.o (m.g b 3)).2:=by
    unfold iH; rw[b_ aa,b_ ne2,ew];have e1:=GQ hRk ex1 X;rw[zP (k:=k+1) (by rw[e1]; exact X) K (by omega)]; exact e1
   exact⟨oO J.symm,b9,fun P=>L_ (J.symm.trans P) X⟩
  refine Lv aF (gJ c54)<|aC<|aK<|Wx<|bY<|gG<|bZ<|sN<|Ws ?_;have hRK:dz (fun x=>bE x v.o (m.g b 3)) (nU m.core (m.g b 2)) m.R K=(Rk,0):=by rw[show K=k by omega]; exact hRk
  refine jP [0,1,2,3,5,6,4,7,8,9,10] [0,0,0,0,4,0,0,4,0,0,3] [(10,4,[4]),(10,7,[7])] fun QV lD Ao => ?_;have⟨zM,FU,DT,FV,F5,vX,vY⟩:=jM lD qE nE qF wJ rY sJ uy;have b12:=eF lD b7 F;refine bU Y<|aY (pt p)<|aY (pt p)<|aY (pf p 19)<|bU h5<|Rp (pf G 12) (fun _=>ji Q 12)<|Rs (.slice m.s.ga (m.s.gn) (m.s.gc)) (aN zM.aI 19) ?_;refine Rs (aD v.req) (aN F5.aI 12) ?_;obtain⟨gq5,eq5⟩:=vX.addr (by omega);have tK:Fx.Own QV B 66 5 (bM gq5 m.s.gn m.s.gc) m.s.gn (IK m):=vX.fF (K_ (fun q=>Value.slice q m.s.gn m.s.gc) eq5);refine Rp (pf gq5 (5*b)) (fun _=>dh 5 (hx:=(rfl.trans (K_ (fun q=>Value.slice q (m.s.gn) (m.s.gc)) eq5))))<|aY (pf gq5 (5*b+4))<|gK<|pR tK (5*b+4) (aD v.req) fun tH oZ s12 z3 => ?_;have jX:=iC s12 tK.JI;have⟨oz,qg,pz,qG,rH,qH⟩:=Rx jX zM FU DT FV F5 vY;have b13:=s12.below b12 (m_ F b12.size) tK.blk.1;have tL:Fx.Own tH B 66 5 (bM gq5 m.s.gn m.s.gc) m.s.gn (flat 5 (fun C=>iX (aH m.g b (aH (m.g b) 4 v.req) C))):=oZ.congr (fun pq hp=>(Fx.Gp (k:=b) (j:=4) (by omega) (by omega) pq hp).trans (bK (fun i N j hj=>Qg i N j hj) pq hp));refine Ln<|bQ<|Ws ?_;have yS:Fx.Own tH B 66 5 (.slice m.s.ga (m.s.gn) (m.s.gc)) m.s.gn (flat 5 (fun C=>iX (aH m.g b (aH (m.g b) 4 v.req) C))):=tL.fF (K_ (fun q=>Value.slice q m.s.gn m.s.gc) eq5.symm);have uJ:Fx.Own tH B 28 1 (.slice (m.ra a) (m.rn a) (m.rc a)) (m.rn a) (rv .u64 (m.rq a)):=qG.1 a ha;have bra:=H.br a ha;refine Aj [0,1,4,5,8,9,12,16,17,2,3,6,7,10,11,13,14,15,18,19] [0,0,1,0,0,0,1,0,0,0,0,1,0,4,2,2,0,0,0,3] (iQ [28]) vH Fx.iQ.trans (fE := [(19,2,[2]),(19,6,[6]),(19,11,[11]),(14,13,[13]),(15,13,[14,13]),(19,13,[13]),(15,14,[14]),(18,14,[14]),(19,14,[14]),(18,15,[15]),(19,15,[15])]) (by kernel_rfl) (by kernel_rfl) (by kernel_rfl) (by kernel_rfl) (by kernel_rfl) fun wt4 qm Gy => ?_;have⟨yT,Bz,wW,tN,qh,xO,xP,tO⟩:=mM qm oz qg pz qG rH qH yS uJ;have b14:=eF qm b13 F;refine bU Y<|Rp (pt G) (fun _=>ji Q 0)<|bU Y<|Rp (pt G) (fun _=>ji Q 0)<|aY (pt p)<|aY (pf p 21)<|Rp (pf G 12) (fun _=>ji Q 12)<|aY (pt p)<|aY (pf p 21)<|Rd (v:=au v.o) (by rfl) (by rfl) (vH _) (fun I A=>bA (x:=bR v) rfl rfl (by kernel_rfl) (qh.kr A (by decide)).aI (i:=0) (by omega) (by omega) rfl) ?_;refine Rp (au a) (fun _=>fU)<|Rd (v:=au v.o) (by rfl) (by rfl) (vH _) (fun I A=>bA (x:=bR v) rfl rfl (by kernel_rfl) (qh.kr A (by decide)).aI (i:=0) (by omega) (by omega) rfl) ?_;refine Rp (au a) (fun _=>fU)<|Rp (pf p (a+21)) (fun _=>jD 6 1)<|Rd (v := .slice (m.ra a) (m.rn a) (m.rc a)) (by rfl) (by rfl) (vH _) (fun I A=>bA (x:=mE m) rfl rfl (by kernel_rfl) (yT.kr A (by decide)).aI (i:=a+21) (by omega) (by omega) (vT _ (by omega))) ?_;refine Rs (aD v.req) (aN qh.aI 12) ?_;refine Bc<|yc (vs := [(0,aD v.req)]) (s:=1) (zc:=rv .u64 (fun _=>0)) (y:=bH (fun j=>(rv .u64 (fun _=>0)) (j % 1)) (0*1) 1 (fun _=>aD v.req)) (by rfl) rfl rfl Tryz.underlying63 (by kernel_rfl) (by rfl) (by rfl) (by kernel_rfl) (by rw[bC (off:=0*1) (s:=1) (y:=fun _=>aD v.req) rfl (cells_one (by rfl)) (by rfl)]; rfl) rfl fun g3 FT zI BA Dm z4 => ?_;have⟨IV,EG,AA,EH,BD,zN,I5⟩:=jM Dm.old yT Bz wW tN xO xP tO;have b15:=eF Dm.old b14 F;have Es:=jE zI b14.size;have⟨aiH,aiI,aiJ⟩:=JL zI yT.lt Bz.lt qh.lt;have aiK:(.slice (m.ra a) (m.rn a) (m.rc a):Value).ownBlock≠some g3:=by rw[zI]; exact tO.jK (z_ _)
  have Mr:=BA.lt;refine Ln ⟨Fx.iQ.of_below Dm.old,?_⟩;refine Bc<|yK (B:=B) (s:=1) (bytes:=8) (k:=(m.rn a)) (m:=1) (v := .slice (m.ra a) (m.rn a) (m.rc a)) (x:=rv .u64 (m.rq a)) (by rfl) rfl rfl rfl Tryz.underlying63 (by kernel_rfl) (by kernel_rfl) rfl rfl I5 BA.aI (vV (fun _=>rfl)) (by omega) (by omega) (by omega) (m_ F b15.size) fun g4 E Dn ho1 hg1 uo hlt1 => ?_;have tF:=yL hg1 I5;have⟨EI,EJ,F7,BF,EK⟩:=qV tF IV EG AA BD zN;have Kt:Fx.Own Dn B 28 1 (.slice (some ⟨g4,0,none⟩) ((m.rn a)+1) E) ((m.rn a)+1) (rv .u64 (aH (m.rq a) (m.rn a) v.req)):=(ho1.congr (fun j hj=>Oj j hj));have b16:Below B w Dn:=yJ b15 hg1 (m_ F b15.size) (fun q hq=>(I5.ge hq).1);have BG:vU Dn B 6 { m with ra:=aH m.ra a (some ⟨g4,0,none⟩),rn:=aH m.rn a (m.rn a+1),rc:=aH m.rc a E,rq:=aH m.rq a (aH (m.rq a) (m.rn a) v.req) }:=vU.app EH ha rfl rfl rfl rfl Kt hg1 uo;refine Ln ⟨tF,?_⟩;refine Rp (pf p (a+21)) (fun _=>jD 6 1)<|gK<|jh EI (a+21) (.slice (some ⟨g4,0,none⟩) ((m.rn a)+1) (E)) fun Gz EU s15 z5 => ?_;have zD:=iC s15 EI.ty;have⟨EL,zO,AB,IW,Ud⟩:=qV zD EJ F7 BF EK BG;have b17:=s15.below b16 (m_ F b16.size) (by omega);refine Ln<|bQ<|ay<|av (au 0)<|aC<|Wr<|aJ (au 0) ?_;have O:aL v=a:=by unfold aL; omega
  have aa : ¬ 0<=m.core.kM (aL v) v.req:=by rw[O]; exact j_ V
  have ne2 : ¬ (m.core.grant v.o v.of<0\/m.core.g (zm m.core v) 4≠0):=by rw[ac]; exact fun h=>h.elim ab (fun h=>h ae)
  have ew:lS m.core v=dz (fun x=>bE x v.o (m.g b 3)) (nU m.core (m.g b 2)) m.R K:=by unfold lS; rw[ac,show fu m.core.t m.core.tn (m.core.g b 2)=K from Wm.symm]; rfl
  have J:iH m.core v=0:=by unfold iH; rw[b_ aa,b_ ne2,ew,hRK]
  have eW:lS m.core v=(Rk,0):=ew.trans hRK;refine⟨oO J.symm,b17,fun _=>⟨{ m with s := { m.s with ga:=m.s.ga,gn:=m.s.gn,gc:=m.s.gc },R:=Rk,g:=aH m.g b (aH (m.g b) 4 v.req),ra:=aH m.ra a (some ⟨g4,0,none⟩),rn:=aH m.rn a (m.rn a+1),rc:=aH m.rc a E,rq:=aH m.rq a (aH (m.rq a) (m.rn a) v.req) },?_,?_⟩⟩
  ·unfold jZ qj; rw[eW,O]; rw[ac]; rfl
  exact { c:=EU.to (Kv _ rfl _ _ _),n:=AB,g:=IW,tc:=EL,t:=zO,r:=Ud,pB:=TK,tB:=Dt,bn:=bn,bg:=(by show m.s.gn<=1000000; omega),bt:=bt,br:=(fun i N=>by show aH m.rn a (m.rn a+1) i<=1000000; have:=Zy i N; have:=Zy a ha; unfold aH; split <;> omega) }
 refine Lv aG (lJ ae)<|av aG<|aC<|aO<|ay<|av (au 12)<|aC<|Wr<|sR<|aJ (au 12) ?_;have O:aL v=a:=by unfold aL; omega
 have aa : ¬ 0<=m.core.kM (aL v) v.req:=by rw[O]; exact j_ V
 have J:iH m.core v=12:=by unfold iH; rw[b_ aa,ac]; exact d_ (.inr ae)
 exact⟨oO J.symm,b4,fun P=>by rw[J]at P; cases P⟩
namespace Rt
def wh(L:fJ)(v:EvM):Int:=if L.node v.node<0 then 9 else if 140737488355328<L.R (L.node v.node).toNat (aL v)+v.aT then 6 else 0
def EY(L:fJ)(v:EvM):fJ := { L with R:=aH L.R (L.node v.node).toNat (upd (L.R (L.node v.node).toNat) (aL v) (L.R (L.node v.node).toNat (aL v)+v.aT)) }
def xQ(L:fJ)(v:EvM):(Nat->Int) × Int:=dn (L.R (L.node v.node).toNat) v.o v.dst v.aT
def oC(L:fJ)(v:EvM):Int:=if L.node v.node<0 then 9 else if v.dst<1\/6<v.dst\/L.inn (v.dst-1).toNat=false then 10 else(xQ L v).2
def EZ(L:fJ)(v:EvM):fJ := { L with R:=aH L.R (L.node v.node).toNat (xQ L v).1 }
noncomputable def dR(L:fJ)(v:EvM):Int :=
 if v.kind=1 then jY L v else if v.kind=2 then wh L v else if v.kind=3 then iR L v else if v.kind=4 then iH L v else if v.kind=5 then oC L v else 0
def iI(L:fJ)(v:EvM):fJ :=
 if v.kind=1 then qc L v else if v.kind=2 then EY L v else if v.kind=3 then lQ L v else if v.kind=4 then jZ L v else if v.kind=5 then EZ L v
 else if v.kind=6 then { L with inn:=aH L.inn (v.dst-1).toNat true } else { L with left:=aH L.left (aL v) true }
theorem MO{n q a:Nat}{id par:Nat->Int}{R:Nat->Nat->Int}{x:Int} : ∀ i,i<n -> ∀ j,j<56->Fx.qB (fun b=>lV (id b) (par b) (R b)) q (dB (lV (id q) (par q) (R q)) (a+2) (au x)) i j=lV (id i) (par i) (aH R q (upd (R q) a x) i) j:=fun i _ j _=>by
 unfold Fx.qB;by_cases h:i=q
 ·subst h; rw[d_ rfl,Oc rfl]; unfold aH; rw[d_ rfl]
 ·rw[b_ h]; unfold aH; rw[b_ h]
theorem XE(m:kZ){i:Nat}(hi:i<6):dB (mE m) i (.bool true)=mE { m with s := { m.s with inn:=aH m.s.inn i true } }:=by
 funext p
 unfold dB mE;by_cases h:p=i
 ·subst h; rw[d_ rfl,d_ (by omega)]; unfold nK; rw[d_ hi]; simp[aH]
 rw[b_ h];by_cases a:p<20
 ·rw[d_ a,d_ a]; unfold nK;by_cases b:p<6
  ·rw[d_ b,d_ b]; simp[aH,h]
  rw[b_ b,b_ b]
 rw[b_ a,b_ a]
theorem Uf(m:kZ){i q:Nat}(hi:i<6)(d:q=i+6):dB (mE m) q (.bool true)=mE { m with s := { m.s with left:=aH m.s.left i true } }:=by
 subst d
 funext p
 unfold dB mE;by_cases h:p=i+6
 ·subst h; rw[d_ rfl,d_ (by omega)]; unfold nK; rw[b_ (by omega),d_ (by omega)]; simp[aH]
 rw[b_ h];by_cases a:p<20
 ·rw[d_ a,d_ a]; unfold nK;by_cases b:p<6
  ·rw[d_ b,d_ b]
  rw[b_ b,b_ b];by_cases c:p<12
  ·rw[d_ c,d_ c]; simp[aH,show ¬ p-6=i by omega]
  rw[b_ c,b_ c]
 rw[b_ a,b_ a]
theorem Qh(m:kZ){i q:Nat}(hi:i<6)(e:q=i+12)(x:Int):dB (mE m) q (aD x)=mE { m with s := { m.s with known:=aH m.s.known i x } }:=by
 subst e
 funext p
 unfold dB mE;by_cases h:p=i+12
 ·subst h; rw[d_ rfl,d_ (by omega)]; unfold nK; rw[b_ (by omega),b_ (by omega),d_ (by omega)]; simp[aH]
 rw[b_ h];by_cases a:p<20
 ·rw[d_ a,d_ a]; unfold nK;by_cases b:p<6
  ·rw[d_ b,d_ b]
  rw[b_ b,b_ b];by_cases c:p<12
  ·rw[d_ c,d_ c]
  rw[b_ c,b_ c];by_cases d:p<18
  ·rw[d_ d,d_ d]; simp[aH,show ¬ p-12=i by omega]
  rw[b_ d,b_ d]
 rw[b_ a,b_ a]
theorem iW{v:EvM}(h:bS v=true):1<=v.kind/\v.kind<=7:=by
 unfold bS at h;simp only[R_]at h;have a:=h.2;unfold dI at a;split at a; · omega
 split at a; · omega
 split at a; · omega
 split at a; · omega
 split at a; · omega
 split at a; · omega
 have:=h_ a; omega
theorem kN{v:EvM}(h:bS v=true)(c:v.kind=2\/v.kind=3\/v.kind=5):1<=v.aT/\v.aT<=1125899906842624:=by
 unfold bS at h;simp only[R_]at h;have a:=h.2;unfold dI at a;rw[b_ (by omega)]at a;have b:someE v=true->1<=v.aT/\v.aT<=1125899906842624:=fun h=>by unfold someE at h; simpa using h
 split at a; · exact b a
 split at a; · rw[R_]at a; exact b a.1
 rw[b_ (by omega)]at a;split at a; · rw[R_]at a; exact b a.1
 omega
theorem GR{v:EvM}(h:bS v=true)(c:v.kind=6) : ∃ b:Nat,b<6/\v.dst=(b:Int)+1:=by
 unfold bS at h;simp only[R_]at h;have a:=h.2;unfold dI at a;rw[b_ (by omega),b_ (by omega),b_ (by omega),b_ (by omega),b_ (by omega),d_ c]at a;unfold lM at a;rw[R_]at a;exact fq a.1
end Rt
set_option maxRecDepth 20000 in
set_option maxHeartbeats 2000000 in
theorem abX(m:kZ)(B p a:Nat)(v:EvM)(w:World)(S:uY w B p m)(H:B<=w.heap.size)(ha:a<6)(ho:v.o=(a:Int)+1)(bnn:m.s.nn<=900)(bgg:m.s.gn<=900000)(Zy : ∀ i,i<6->m.rn i<=900000)(hTN : ∀ x,m.node x=bD m.t m.tn x)(hDx : ∀ x,∃ D,D<=1000/\bD m.t m.tn (bF m.t m.tn D x)<0)(hv:fZ v)(hmay:bS v=true)(hR : ∀ k,k<m.s.nn->may (m.R k)=true) :
 Calls Tryz.prog 54 #[(pt p),.agg (aA 14 (bR v))] w fun e w'=>e = .returned (au (dR m.core v))/\Below B w w'/\(dR m.core v=0 -> ∃ m',m'.core=iI m.core v/\uY w' B p m'):=by
 have TK:=S.pB;have Dt:=S.tB;have bn:=S.bn;have bg:=S.bg;have bt:=S.bt;have lpp:p<w.heap.size:=S.c.lt;have QU:m.tb<w.heap.size:=S.tc.lt;have hvk:=hv.kind;have hvt:=hv.dst;have hkr:=iW hmay;obtain⟨D,hD2,hD⟩:=hDx v.node;refine Kent Tryz.func54 152 ?_;refine ay<|qM fun I w1 kU W s1 z1 => ?_;have C:=bG s1.old S;have X:=eF s1.old (Below.refl B w) H;have tC:=jE kU (Below.refl B w).size;have uU:=W.lt;refine av (au 0)<|aC<|Ws<|ay<|av (pf I 8)<|Lv (.int .u8 (v.kind)) (aN W.aI 8)<|aC<|Wb<|ay ?_;by_cases F:v.kind=1
 ·refine Lv aG (eY F)<|av aG<|aC<|aO<|ay<|av (pt p)<|Lv (.agg (aA 14 (bR v))) (fG W.aI 0)<|dP (Xo m B p a D v _ C (m_ H X.size) ha ho bnn hD hD2) _ rfl ?_;rintro w2 ⟨hb1,hr1⟩;have b2:Below B w w2:=X.trans hb1;refine av (au (jY m.core v))<|aC<|Wr<|bL<|sR<|aJ (au (jY m.core v)) ?_;have A:dR m.core v=jY m.core v:=by unfold dR; rw[d_ F]
  have ec:iI m.core v=qc m.core v:=by unfold iI; rw[d_ F]
  exact⟨oO A.symm,b2,fun E=>by rw[ec]; exact hr1 (A.symm.trans E)⟩
 refine Lv aF (gy F)<|av aF<|aC<|aK<|ay ?_;by_cases G:v.kind=2
 ·refine Lv aG (eY G)<|av aG<|aC<|aO<|Ws ?_;have aa:=C.c;have ac:=C.n;have ab:=C.g;have ae:=C.tc;have af:=C.t;have ad:=C.r;refine Wl<|av (pt p)<|av (pf I 9)<|Lv (aD v.node) (aN W.aI 9) ?_;have ML:CF w1 p m := { c:=aa.aI,an:=ac.arr,ag:=ab.arr,tc:=ae.aI,at2:=af.arr,ar:=fun i hi=>(ad.1 i hi).arr,bn:=(by show m.s.nn<=1000000; omega),bg:=bg,bt:=(by show m.tn<=1000000; omega),br:=S.br };refine dP (IL m p v.node _ ML) _ rfl ?_;intro w3 hb2;have⟨m3,m4,m5,m6,m7,m8,m9⟩:=jM hb2 W aa ac ab ae af ad;have b3:=eF hb2 X H;refine av (au (m.node v.node))<|aC<|Ws<|ay<|av (au (m.node v.node)) ?_;by_cases c23:(m.node v.node)<0
  ·refine Lv aG (gI c23)<|aC<|aO<|ay<|av (au 9)<|aC<|Wr<|sR<|bL<|sR<|aJ (au 9) ?_;have P:aL v=a:=(by unfold aL; omega);have A:dR m.core v=9:=(by unfold dR; rw[b_ F,d_ G]; unfold wh; exact d_ c23);exact⟨oO A.symm,b3,fun E=>by rw[A]at E; cases E⟩
  obtain⟨d,hkq,V,_⟩:=DU (m:=m) (x:=v.node) (by omega);have V:m.node v.node=(d:Int):=V;have ekN:(m.core.node v.node).toNat=d:=by show(m.node v.node).toNat=d; rw[V]; rfl
  refine Lv aF (gJ c23)<|aC<|aK<|Wk<|sN<|Ws<|Ws ?_;have hRb:=mD (hR d hkq) a (by omega);have hab:=kN hmay (.inl G);refine xC<|aU (pt p)<|aU (pt p)<|aU (pt p)<|aU (pf p 18)<|Qv (.slice m.s.na (m.s.nn) (m.s.nc)) (fun l f=>aN (m4.aI.dr f) 18)<|dX (K_ (Value.int .i64) V)<|aU (pt I)<|Qv (au v.o) (fun l f=>aN (m3.aI.dr f) 0)<|Qv (au a) (fun l f=>fU) ?_;obtain⟨Q,eq1⟩:=m5.addr (by omega);have m10:Fx.Own w3 B 61 56 (bM Q m.s.nn m.s.nc) m.s.nn (Jt m):=m5.fF (K_ (fun q=>Value.slice q m.s.nn m.s.nc) eq1);refine Qv (pf Q (56*d)) (fun l f=>dh 56 (hx:=(rfl.trans (K_ (fun q=>Value.slice q (m.s.nn) (m.s.nc)) eq1))))<|aU (pf Q (56*d+2))<|aU (pf Q (56*d+2))<|Qv (pf Q (a+56*d+2)) (fun l f=>jD 6 1)<|Qv (au ((m.R d) a)) (fun l f=>aN (m10.aI.dr f) (a+56*d+2) (Fx.fQ (k:=d) (j:=a+2) (by omega) (by omega) (MG _ _ _ (by omega))))<|aU (pf I 11)<|Qv (au v.aT) (fun l f=>aN (m3.aI.dr f) 11)<|Qv (au (((m.R d) a)+v.aT)) (fun l f=>eT) ?_;by_cases c41:140737488355328<(((m.R d) a)+v.aT)
  ·refine Qv aG (fun l f=>lH c41)<|Qn ?_;rintro _ ⟨L,rfl⟩;obtain⟨Cy,rG⟩ : ∃ l,l=World.drewN w3 L:=⟨_,rfl⟩;rw[<- rG];have s3:Stp w3.heap.size w3 Cy:=(by rw[rG]; exact Sb (jF w3 L));have b4:=eF s3.old b3 H;clear rG;refine sN<|aO<|ay<|av (au 6)<|aC<|Wr<|sR<|bL<|sR<|aJ (au 6) ?_;have P:aL v=a:=(by unfold aL; omega);have A:dR m.core v=6:=(by unfold dR; rw[b_ F,d_ G]; unfold wh; rw[ekN,P,b_ (show ¬ m.core.node v.node<0 from c23)]; exact d_ c41);exact⟨oO A.symm,b4,fun E=>by rw[A]at E; cases E⟩
  refine Qv aF (fun l f=>lI c41)<|Qn ?_;rintro _ ⟨L,rfl⟩;obtain⟨wq2,vW⟩ : ∃ l,l=World.drewN w3 L:=⟨_,rfl⟩;rw[<- vW];have s4:Stp w3.heap.size w3 wq2:=by rw[vW]; exact Sb (jF w3 L)
  have⟨m18,m19,m20,m21,m22,m23,m24⟩:=jM s4.old m3 m4 m6 m7 m8 m9 m10;have b5:=eF s4.old b3 H;clear vW;refine sN<|aK<|Wk<|sN ?_;refine jP [0,1,2,3,5,6,14,4,9,10,11,17,18,19,7,8,12,13,15,16,20,21] [0,0,0,0,4,0,0,4,0,0,0,0,0,4,0,4,0,0,0,0,0,3] [(21,4,[4]),(21,7,[7]),(21,13,[13]),(21,15,[15])] fun oI dM gY => ?_;have⟨mY,nQ,oJ,ou,qo,oP,mV⟩:=jM dM m18 m19 m20 m21 m22 m23 m24;have b6:=eF dM b5 H;refine aY (pt p)<|aY (pt p)<|aY (pt p)<|aY (pf p 18)<|bU (K_ (Value.int .i64) V)<|aY (pt I)<|aY (pf I 11)<|Rs (.slice m.s.na (m.s.nn) (m.s.nc)) (aN nQ.aI 18) ?_;refine Rp (pf Q (56*d)) (fun _=>dh 56 (hx:=(rfl.trans (K_ (fun q=>Value.slice q (m.s.nn) (m.s.nc)) eq1))))<|aY (pf Q (56*d+2))<|aY (pf Q (56*d+2))<|Rp (pf Q (56*d)) (fun _=>dh 56 (hx:=(rfl.trans (K_ (fun q=>Value.slice q (m.s.nn) (m.s.nc)) eq1))))<|aY (pf Q (56*d+2))<|aY (pf Q (56*d+2))<|Rs (au v.o) (aN mY.aI 0) ?_;refine Rp (au a) (fun _=>fU)<|Rp (pf Q (a+56*d+2)) (fun _=>jD 6 1)<|Rs (au ((m.R d) a)) (aN mV.aI (a+56*d+2) (Fx.fQ (k:=d) (j:=a+2) (by omega) (by omega) (MG _ _ _ (by omega)))) ?_;refine Rs (au v.aT) (aN mY.aI 11) ?_;refine Rp (au (((m.R d) a)+v.aT)) (fun _=>eT)<|Rp (pf Q (a+56*d+2)) (fun _=>jD 6 1)<|gK<|pR mV (a+56*d+2) (au (((m.R d) a)+v.aT)) fun w4 m32 s6 z2 => ?_;have gN:=iC s6 mV.JI;have⟨nT,pY,qD,rQ,rR⟩:=qV gN nQ oJ ou qo oP;have b7:=s6.below b6 (m_ H b6.size) mV.blk.1;have oU:Fx.Own w4 B 61 56 (bM Q m.s.nn m.s.nc) m.s.nn (flat 56 (fun O=>lV (m.id O) (m.par O) (aH m.R d (upd (m.R d) a (((m.R d) a)+v.aT)) O))):=m32.congr (fun pq hp=>(Fx.Gp (k:=d) (j:=a+2) (by omega) (by omega) pq hp).trans (bK (fun i hi j hj=>MO (a:=a) (x:=((m.R d) a)+v.aT) (q:=d) (id:=m.id) (par:=m.par) (R:=m.R) i hi j hj) pq hp));refine Ln<|Rn<|bO<|sN<|ay<|av (au 0)<|aC<|Wr<|aJ (au 0) ?_;have P:aL v=a:=by unfold aL; omega
  have rT:Fx.Own w4 B 61 56 (.slice m.s.na (m.s.nn) (m.s.nc)) m.s.nn (flat 56 (fun O=>lV (m.id O) (m.par O) (aH m.R d (upd (m.R d) a (((m.R d) a)+v.aT)) O))):=oU.fF (K_ (fun q=>Value.slice q m.s.nn m.s.nc) eq1.symm);have A:dR m.core v=0:=by unfold dR; rw[b_ F,d_ G]; unfold wh; rw[ekN,P,b_ (show ¬ m.core.node v.node<0 from c23)]; exact b_ c41
  refine⟨oO A.symm,b7,fun _=>⟨{ m with R:=aH m.R d (upd (m.R d) a (m.R d a+v.aT)) },by symm; unfold iI; rw[b_ F,d_ G]; unfold EY; rw[ekN,P]; rfl,?_⟩⟩;exact { c:=nT,n:=rT,g:=pY,tc:=qD,t:=rQ,r:=rR,pB:=TK,tB:=Dt,bn:=bn,bg:=bg,bt:=bt,br:=S.br }
 refine Lv aF (gy G)<|av aF<|aC<|aK<|ay ?_;by_cases K:v.kind=3
 ·refine Lv aG (eY K)<|av aG<|aC<|aO<|ay<|av (pt p)<|Lv (.agg (aA 14 (bR v))) (fG W.aI 0)<|dP (Xw m B p a D v _ C (m_ H X.size) ha ho bgg Zy hTN hD hD2) _ rfl ?_;rintro w5 ⟨hb3,hr2⟩;have b8:Below B w w5:=X.trans hb3;refine av (au (iR m.core v))<|aC<|Wr<|bL<|sR<|aJ (au (iR m.core v)) ?_;have A:dR m.core v=iR m.core v:=by unfold dR; rw[b_ F,b_ G,d_ K]
  have ec:iI m.core v=lQ m.core v:=by unfold iI; rw[b_ F,b_ G,d_ K]
  exact⟨oO A.symm,b8,fun E=>by rw[ec]; exact hr2 (A.symm.trans E)⟩
 refine Lv aF (gy K)<|av aF<|aC<|aK<|ay ?_;by_cases N:v.kind=4
 ·refine Lv aG (eY N)<|av aG<|aC<|aO<|ay<|av (pt p)<|Lv (.agg (aA 14 (bR v))) (fG W.aI 0)<|dP (XD m B p a  v _ C (m_ H X.size) ha ho bgg Zy hTN hDx) _ rfl ?_;rintro w6 ⟨hb4,hr3⟩;have J:Below B w w6:=X.trans hb4;refine av (au (iH m.core v))<|aC<|Wr<|bL<|sR<|aJ (au (iH m.core v)) ?_;have A:dR m.core v=iH m.core v:=by unfold dR; rw[b_ F,b_ G,b_ K,d_ N]
  have ec:iI m.core v=jZ m.core v:=by unfold iI; rw[b_ F,b_ G,b_ K,d_ N]
  exact⟨oO A.symm,J,fun E=>by rw[ec]; exact hr3 (A.symm.trans E)⟩
 refine Lv aF (gy N)<|av aF<|aC<|aK<|ay ?_;by_cases U:v.kind=5
 ·refine Lv aG (eY U)<|av aG<|aC<|aO<|Ws ?_;have aa:=C.c;have ac:=C.n;have ab:=C.g;have ae:=C.tc;have af:=C.t;have ad:=C.r;refine Wl<|av (pt p)<|av (pf I 9)<|Lv (aD v.node) (aN W.aI 9) ?_;have Ua:CF w1 p m := { c:=aa.aI,an:=ac.arr,ag:=ab.arr,tc:=ae.aI,at2:=af.arr,ar:=fun i hi=>(ad.1 i hi).arr,bn:=(by show m.s.nn<=1000000; omega),bg:=bg,bt:=(by show m.tn<=1000000; omega),br:=S.br };refine dP (IL m p v.node _ Ua) _ rfl ?_;intro M hb5;have⟨mZ,mP,nR,qY,qE,nE,qF⟩:=jM hb5 W aa ac ab ae af ad;have b10:=eF hb5 X H;refine av (au (m.node v.node))<|aC<|Ws<|ay<|av (au (m.node v.node)) ?_;by_cases c80:(m.node v.node)<0
  ·refine Lv aG (gI c80)<|aC<|aO<|ay<|av (au 9)<|aC<|Wr<|sR<|bL<|sR<|aJ (au 9) ?_;have P:aL v=a:=(by unfold aL; omega);have A:dR m.core v=9:=(by unfold dR; rw[b_ F,b_ G,b_ K,b_ N,d_ U]; unfold oC; exact d_ c80);exact⟨oO A.symm,b10,fun E=>by rw[A]at E; cases E⟩
  obtain⟨d,hkq,V,_⟩:=DU (m:=m) (x:=v.node) (by omega);have V:m.node v.node=(d:Int):=V;have ekN:(m.core.node v.node).toNat=d:=by show(m.node v.node).toNat=d; rw[V]; rfl
  refine Lv aF (gJ c80)<|aC<|aK<|Wk<|sN<|Ws<|Ws ?_;refine xC<|aU (pf I 10)<|Qv (au v.dst) (fun l f=>aN (mZ.aI.dr f) 10) ?_;by_cases c83:v.dst<1
  ·refine Qv aG (fun l f=>gI c83)<|aU aG<|aP<|aP<|aP<|aU aG<|aU aG<|aP<|aP<|aP<|aP<|aP<|aP<|aP<|aP<|aP<|aP<|aU aG<|Qn ?_;rintro _ ⟨L,rfl⟩;obtain⟨Qc,EW⟩ : ∃ l,l=World.drewN M L:=⟨_,rfl⟩;rw[<- EW];have s8:Stp M.heap.size M Qc:=(by rw[EW]; exact Sb (jF M L));have b11:=eF s8.old b10 H;clear EW;refine sN<|aO<|ay<|av (au 10)<|aC<|Wr<|sR<|bL<|sR<|aJ (au 10) ?_;have P:aL v=a:=(by unfold aL; omega);have A:dR m.core v=10:=(by unfold dR; rw[b_ F,b_ G,b_ K,b_ N,d_ U]; unfold oC; rw[b_ (show ¬ m.core.node v.node<0 from c80)]; exact d_ (.inl c83));exact⟨oO A.symm,b11,fun E=>by rw[A]at E; cases E⟩
  refine Qv aF (fun l f=>gJ c83)<|aU aF<|aU (pf I 10)<|Qv (au v.dst) (fun l f=>aN (mZ.aI.dr f) 10) ?_;by_cases c87:6<v.dst
  ·refine Qv aG (fun l f=>lH c87)<|aU aG<|aU aG<|aP<|aP<|aP<|aP<|aP<|aP<|aP<|aP<|aP<|aP<|aU aG<|Qn ?_;rintro _ ⟨L,rfl⟩;obtain⟨wq4,EX⟩ : ∃ l,l=World.drewN M L:=⟨_,rfl⟩;rw[<- EX];have s9:Stp M.heap.size M wq4:=(by rw[EX]; exact Sb (jF M L));have b12:=eF s9.old b10 H;clear EX;refine sN<|aO<|ay<|av (au 10)<|aC<|Wr<|sR<|bL<|sR<|aJ (au 10) ?_;have P:aL v=a:=(by unfold aL; omega);have A:dR m.core v=10:=(by unfold dR; rw[b_ F,b_ G,b_ K,b_ N,d_ U]; unfold oC; rw[b_ (show ¬ m.core.node v.node<0 from c80)]; exact d_ (.inr (.inl c87)));exact⟨oO A.symm,b12,fun E=>by rw[A]at E; cases E⟩
  obtain⟨J,hb9,eb9⟩ : ∃ b:Nat,b<6/\v.dst=(b:Int)+1:=⟨(v.dst-1).toNat,by omega,by omega⟩;refine Qv aF (fun l f=>lI c87)<|aU aF<|aU aF<|aU (pt p)<|aU (pf I 10)<|Qv (au v.dst) (fun l f=>aN (mZ.aI.dr f) 10)<|Qv (au J) (fun l f=>fU)<|aU (pt p)<|aU (pt p)<|aU (pt p)<|Qv (pf p J) (fun l f=>jD 6 1) ?_;by_cases c98:(m.s.inn J)=true
  ·refine Qv aG (fun l f=>aN (mP.aI.dr f) J ((lN _ (by omega) (zL _ (by omega))).trans (K_ Value.bool c98)))<|aU aF<|aU aF<|Qn ?_;rintro _ ⟨L,rfl⟩;obtain⟨wq5,MN⟩ : ∃ l,l=World.drewN M L:=⟨_,rfl⟩;rw[<- MN];have s10:Stp M.heap.size M wq5:=(by rw[MN]; exact Sb (jF M L));have⟨nY,tJ,m64,wS,wL,wT,wU⟩:=jM s10.old mZ mP nR qY qE nE qF;have b13:=eF s10.old b10 H;clear MN;refine sN<|aK<|Wk<|sN<|Ws ?_;obtain⟨Z,DV⟩:=m64.addr (by omega);have rZ:Fx.Own wq5 B 61 56 (bM Z m.s.nn m.s.nc) m.s.nn (Jt m):=m64.fF (K_ (fun q=>Value.slice q m.s.nn m.s.nc) DV);refine qR (T:=59) (T':=59) (a := .tmp 7) (v := .tmp 118) (m:=54) (z:=rv .i64 (fun _=>0)) (y:=rv .i64 ((dn (m.R d) v.o v.dst v.aT).1)) (u := .agg (aA 54 (rv .i64 ((dn (m.R d) v.o v.dst v.aT).1)))) 19 20 (List.replicate 22 (0,2,[],[])) #[(pt p),(pt p),(pt p),(pf p 18),.slice m.s.na (m.s.nn) (m.s.nc),au (d:Int),(pf Z (56*d)),(pf Z (56*d+2)),.agg (aA 54 (rv .i64 (m.R d))),(pt I),au v.o,(pf I 10),au v.dst,(pf I 11),au v.aT,.tuple #[.agg (aA 54 (rv .i64 ((dn (m.R d) v.o v.dst v.aT).1))),au ((dn (m.R d) v.o v.dst v.aT).2)],.tuple #[.agg (aA 54 (rv .i64 ((dn (m.R d) v.o v.dst v.aT).1))),au ((dn (m.R d) v.o v.dst v.aT).2)],.agg (aA 54 (rv .i64 ((dn (m.R d) v.o v.dst v.aT).1))),au ((dn (m.R d) v.o v.dst v.aT).2),undef,undef,au ((dn (m.R d) v.o v.dst v.aT).2)] (by kernel_rfl) (by kernel_rfl) (by kernel_rfl) (by kernel_rfl) (by kernel_rfl) (by kernel_rfl) rfl (by kernel_rfl) rfl rfl (by kernel_rfl) (fun Y=>(show ev _ (.tmp 7)=(pt Y)from by kernel_rfl)) (fun Y=>(show ev _ (.tmp 118) = .agg (aA 54 (rv .i64 ((dn (m.R d) v.o v.dst v.aT).1)))from by kernel_rfl)) (bI _ _) (fun _ _=>rfl) (by kernel_rfl) (fun Y => ?_) ?_
   ·refine⟨?_,?_,?_,?_,?_,?_,?_,?_,?_,?_,?_,?_,?_,?_,?_,?_,?_,?_,?_,?_,?_,?_,trivial⟩
    ·exact .inr (.inr pU)
    ·exact .inr (.inr pU)
    ·exact .inr (.inr pU)
    ·exact .inr (.inr pU)
    ·exact .inr (.inr (rX (.slice m.s.na (m.s.nn) (m.s.nc)) fun l f=>bA (x:=mE m) rfl (show ev _ (.tmp 105)=(pf p 18)from by kernel_rfl) (by kernel_rfl) (tJ.aI.below f (by have:=tJ.lt; omega)) (i:=18) (by omega) (by omega) rfl))
    ·exact .inr (.inr (rX (au d) fun l f=>fC rfl ((bX (by kernel_rfl)).trans (K_ (Value.int .i64) V))))
    ·exact .inr (.inr (rX (pf Z (56*d)) fun l f=>dS rfl ((show ev _ (.tmp 106) = .slice m.s.na (m.s.nn) (m.s.nc)from by kernel_rfl).trans (K_ (fun q=>Value.slice q (m.s.nn) (m.s.nc)) DV)) (show ev _ (.tmp 107)=au (d:Int)from by kernel_rfl) Tryz.underlying50 (s:=56) (by kernel_rfl) (by omega) (by omega) (by omega)))
    ·exact .inr (.inr pU)
    ·exact .inr (.inr (rX (.agg (aA 54 (rv .i64 (m.R d)))) fun l f=>eG (x:=Jt m) (y:=rv .i64 (m.R d)) rfl (show ev _ (.tmp 109)=(pf Z (56*d+2))from by kernel_rfl) (by kernel_rfl) (by kernel_rfl) (rZ.aI.below f (by have:=rZ.lt; omega)) (i:=56*d+2) (by omega) (by omega) (fun jq hjq=>(Fx.gW (k:=d) (j:=2+jq) (by omega) (by omega)).trans ((fun jq _=>IJ _ _ _ jq) jq hjq))))
    ·exact .inr (.inr pU)
    ·exact .inr (.inr (rX (au v.o) fun l f=>bA (x:=bR v) rfl (show ev _ (.tmp 111)=(pt I)from by kernel_rfl) (by kernel_rfl) (nY.aI.below f (by have:=nY.lt; omega)) (i:=0) (by omega) (by omega) rfl))
    ·exact .inr (.inr pU)
    ·exact .inr (.inr (rX (au v.dst) fun l f=>bA (x:=bR v) rfl (show ev _ (.tmp 113)=(pf I 10)from by kernel_rfl) (by kernel_rfl) (nY.aI.below f (by have:=nY.lt; omega)) (i:=10) (by omega) (by omega) rfl))
    ·exact .inr (.inr pU)
    ·exact .inr (.inr (rX (au v.aT) fun l f=>bA (x:=bR v) rfl (show ev _ (.tmp 115)=(pf I 11)from by kernel_rfl) (by kernel_rfl) (nY.aI.below f (by have:=nY.lt; omega)) (i:=11) (by omega) (by omega) rfl))
    ·exact .inr (.inr (Fx.Ik (v := .tuple #[.agg (aA 54 (rv .i64 ((dn (m.R d) v.o v.dst v.aT).1))),au ((dn (m.R d) v.o v.dst v.aT).2)]) (by kernel_rfl) (by kernel_rfl) (Fx.qbC (fun l f=>rC (args := [.agg (aA 54 (rv .i64 (m.R d))),au v.o,au v.dst,au v.aT]) rfl (Fx.Q6 (show ev _ (.tmp 110) = .agg (aA 54 (rv .i64 (m.R d)))from by kernel_rfl) (show ev _ (.tmp 112)=au v.o from by kernel_rfl) (show ev _ (.tmp 114)=au v.dst from by kernel_rfl) (show ev _ (.tmp 116)=au v.aT from by kernel_rfl)) Tryz.func81 rfl rfl) (fun l f=>(Xv (m.R d) v.o v.dst v.aT _).mono fun e v2 h=>⟨h.1,h.2⟩))))
    ·exact .inr (.inr pU)
    ·exact .inr (.inr pU)
    ·exact .inr (.inr pU)
    ·exact .inl rfl
    ·exact .inr (.inl rfl)
    exact .inr (.inr pU)
   rintro Y w8 f1 hf1 rU uW hb6;have amV:I≠Y:=t_ (n_ (nY.lt) rU);have abW:p≠Y:=t_ (n_ (tJ.lt) rU);have amW:m.tb≠Y:=t_ (n_ (wL.lt) rU);have amX:Z≠Y:=t_ (n_ (rZ.lt) rU);have⟨wM,uX,zk,wN,yP,yQ⟩:=sV hb6 tJ wS wL wT wU rZ;have b14:=eF hb6 b13 H;have rU:w.heap.size<=Y:=m_ b13.size rU;have Av:=uW.lt;have q1:f1 0=(pt p):=(by rw[hf1]; kernel_rfl);have q2:f1 4=au 0:=(by rw[hf1]; kernel_rfl);have q3:f1 6=au (d:Int):=(by rw[hf1]; exact(bX (by kernel_rfl)).trans (K_ (Value.int .i64) V));have q4:f1 7=(pt Y):=(by rw[hf1]; kernel_rfl);have q5:f1 8=au ((dn (m.R d) v.o v.dst v.aT).2):=(by rw[hf1]; kernel_rfl);clear hf1;refine sN<|Ws<|ay<|aS q5 ?_;by_cases XF:((dn (m.R d) v.o v.dst v.aT).2)=0
   ·refine Lv aF (jd XF)<|aC<|aK<|Wk<|sN ?_;refine jP [0,1,2,3,5,4,6,7,8,9] [0,0,0,0,4,0,4,0,0,3] [(9,4,[4]),(9,6,[6])] fun Cw gD nC => ?_;have⟨wZ,wV,vO,xJ,zF,xK,Aq⟩:=jM gD wM uX zk wN yP yQ uW;have b15:=eF gD b14 H;refine bU q1<|aY (pt p)<|aY (pt p)<|aY (pf p 18)<|bU q3<|Rs (.slice m.s.na (m.s.nn) (m.s.nc)) (aN wZ.aI 18) ?_;refine Rs (.agg (aA 54 (rv .i64 ((dn (m.R d) v.o v.dst v.aT).1)))) (fG Aq.aI 0 (ha:=q4)) ?_;refine Rp (pf Z (56*d)) (fun _=>dh 56 (hx:=(rfl.trans (K_ (fun q=>Value.slice q (m.s.nn) (m.s.nc)) DV))))<|aY (pf Z (56*d+2))<|gK<|zB xK (56*d+2) fun w9 Ar s13 z3 => ?_;have jX:=iC s13 xK.JI;have⟨zG,zH,Au,Ey,Dr⟩:=qV jX wZ wV vO xJ zF;have b16:=s13.below b15 (m_ H b15.size) xK.blk.1;have CJ:Fx.Own w9 B 61 56 (bM Z m.s.nn m.s.nc) m.s.nn (flat 56 (fun O=>lV (m.id O) (m.par O) (aH m.R d ((dn (m.R d) v.o v.dst v.aT).1) O))):=Ar.congr (fun pq hp=>(Fx.Bh (k:=d) (j:=2) (by omega) (by omega) pq hp).trans (bK (fun i hi j hj=>BI (r:=(dn (m.R d) v.o v.dst v.aT).1) (q:=d) (id:=m.id) (par:=m.par) (R:=m.R) i hi j hj) pq hp));refine Ln<|Rn<|bO<|sN<|ay<|av (au 0)<|aC<|Wr<|aJ (au 0) ?_;have P:aL v=a:=(by unfold aL; omega);have eto : ¬ (v.dst<1\/6<v.dst\/m.core.inn (v.dst-1).toNat=false):=fun h=>h.elim c83 (fun h=>h.elim c87 (fun h=>by rw[show(v.dst-1).toNat=J by omega]at h; rw[show m.core.inn J=true from c98]at h; cases h))
    have eW:xQ m.core v=dn (m.R d) v.o v.dst v.aT:=(by unfold xQ; rw[ekN]; rfl);have zM:Fx.Own w9 B 61 56 (.slice m.s.na (m.s.nn) (m.s.nc)) m.s.nn (flat 56 (fun O=>lV (m.id O) (m.par O) (aH m.R d ((dn (m.R d) v.o v.dst v.aT).1) O))):=CJ.fF (K_ (fun q=>Value.slice q m.s.nn m.s.nc) DV.symm);have A:dR m.core v=0:=(by unfold dR; rw[b_ F,b_ G,b_ K,b_ N,d_ U]; unfold oC; rw[b_ (show ¬ m.core.node v.node<0 from c80),b_ eto,eW]; exact XF);refine⟨oO A.symm,b16,fun _=>⟨{ m with R:=aH m.R d (dn (m.R d) v.o v.dst v.aT).1 },by symm; unfold iI; rw[b_ F,b_ G,b_ K,b_ N,d_ U]; unfold EZ; rw[ekN,eW]; rfl,?_⟩⟩;exact { c:=zG,n:=zM,g:=zH,tc:=Au,t:=Ey,r:=Dr,pB:=TK,tB:=Dt,bn:=bn,bg:=bg,bt:=bt,br:=S.br }
   refine Lv aG (lJ XF)<|aC<|aO<|ay<|aS q5<|av (au ((dn (m.R d) v.o v.dst v.aT).2))<|aC<|Wr<|sR<|bL<|sR<|aJ (au ((dn (m.R d) v.o v.dst v.aT).2)) ?_;have P:aL v=a:=(by unfold aL; omega);have eto : ¬ (v.dst<1\/6<v.dst\/m.core.inn (v.dst-1).toNat=false):=fun h=>h.elim c83 (fun h=>h.elim c87 (fun h=>by rw[show(v.dst-1).toNat=J by omega]at h; rw[show m.core.inn J=true from c98]at h; cases h))
   have eW:xQ m.core v=dn (m.R d) v.o v.dst v.aT:=(by unfold xQ; rw[ekN]; rfl);have A:dR m.core v=(dn (m.R d) v.o v.dst v.aT).2:=(by unfold dR; rw[b_ F,b_ G,b_ K,b_ N,d_ U]; unfold oC; rw[b_ (show ¬ m.core.node v.node<0 from c80),b_ eto,eW]);exact⟨oO A.symm,b14,fun E=>by rw[A]at E; exact L_ E XF⟩
  rw[S_]at c98;refine Qv aF (fun l f=>aN (mP.aI.dr f) J ((lN _ (by omega) (zL _ (by omega))).trans (K_ Value.bool c98)))<|aU aG<|aU aG<|Qn ?_;rintro _ ⟨L,rfl⟩;obtain⟨wq6,acd⟩ : ∃ l,l=World.drewN M L:=⟨_,rfl⟩;rw[<- acd];have Dm:Stp M.heap.size M wq6:=by rw[acd]; exact Sb (jF M L)
  have b17:=eF Dm.old b10 H;clear acd;refine sN<|aO<|ay<|av (au 10)<|aC<|Wr<|sR<|bL<|sR<|aJ (au 10) ?_;have P:aL v=a:=by unfold aL; omega
  have A:dR m.core v=10:=by unfold dR; rw[b_ F,b_ G,b_ K,b_ N,d_ U]; unfold oC; rw[b_ (show ¬ m.core.node v.node<0 from c80)]; exact d_ (.inr (.inr (by rw[show(v.dst-1).toNat=J by omega]; exact c98)))
  exact⟨oO A.symm,b17,fun E=>by rw[A]at E; cases E⟩
 refine Lv aF (gy U)<|av aF<|aC<|aK<|ay ?_;by_cases Ug:v.kind=6
 ·refine Lv aG (eY Ug)<|av aG<|aC<|aO ?_;have aa:=C.c;have ac:=C.n;have ab:=C.g;have ae:=C.tc;have af:=C.t;have ad:=C.r;obtain⟨J,hb9,eb9⟩:=GR hmay Ug;refine jP [0,1,4,5,6,2,3,7,8] [0,0,4,0,0,0,0,0,3] [(8,2,[2])] fun QV lD Ao => ?_;have⟨tK,oZ,oz,qg,pz,qG,rH⟩:=jM lD W aa ac ab ae af ad;have b18:=eF lD X H;refine aY (pt p)<|aY (pf I 10)<|aY (pt p)<|aY (pt p)<|aY (pt p)<|Rs (au v.dst) (aN tK.aI 10) ?_;refine Rp (au J) (fun _=>fU)<|Rp (pf p J) (fun _=>jD 6 1)<|gK<|jh oZ J aG fun tH uI s16 z4 => ?_;have tF:=iC s16 oZ.ty;have⟨tL,yS,uJ,yT,Bz⟩:=qV tF oz qg pz qG rH;have b19:=s16.below b18 (m_ H b18.size) (by omega);refine Ln<|Rn<|bO<|sN<|ay<|av (au 0)<|aC<|Wr<|aJ (au 0) ?_;have P:aL v=a:=by unfold aL; omega
  have A:dR m.core v=0:=by unfold dR; rw[b_ F,b_ G,b_ K,b_ N,b_ U]
  refine⟨oO A.symm,b19,fun _=>⟨{ m with s := { m.s with inn:=aH m.s.inn J true } },by symm; unfold iI; rw[b_ F,b_ G,b_ K,b_ N,b_ U,d_ Ug]; rw[show(v.dst-1).toNat=J by omega]; rfl,?_⟩⟩;exact { c:=uI.to (XE m hb9),n:=tL,g:=yS,tc:=uJ,t:=yT,r:=Bz,pB:=TK,tB:=Dt,bn:=bn,bg:=bg,bt:=bt,br:=S.br }
 refine Lv aF (gy Ug)<|av aF<|aC<|aK<|ay<|Lv aG aew<|av aG<|aC<|aO ?_;have aa:=C.c;have ac:=C.n;have ab:=C.g;have ae:=C.tc;have af:=C.t;have ad:=C.r;refine jP [0,1,4,5,6,2,3,7,8] [0,0,4,0,0,0,0,0,3] [(8,2,[2])] fun wt4 qm Gy => ?_;have⟨wW,tN,qh,xO,xP,tO,BA⟩:=jM qm W aa ac ab ae af ad;have b20:=eF qm X H;refine aY (pt p)<|aY (pt I)<|aY (pt p)<|aY (pt p)<|aY (pf p 6)<|Rs (au v.o) (aN wW.aI 0) ?_;refine Rp (au a) (fun _=>fU)<|Rp (pf p (a+6)) (fun _=>jD 6 1)<|gK<|jh tN (a+6) aG fun FT IV LG z5 => ?_;have zD:=iC LG tN.ty;have⟨AA,EH,F6,BD,zN⟩:=qV zD qh xO xP tO BA;have LB:=LG.below b20 (m_ H b20.size) (by omega);refine Ln<|Rn<|bO<|sN<|ay<|av (au 0)<|aC<|Wr<|aJ (au 0) ?_;have P:aL v=a:=by unfold aL; omega
 have A:dR m.core v=0:=by unfold dR; rw[b_ F,b_ G,b_ K,b_ N,b_ U]
 refine⟨oO A.symm,LB,fun _=>⟨{ m with s := { m.s with left:=aH m.s.left a true } },by symm; unfold iI; rw[b_ F,b_ G,b_ K,b_ N,b_ U,b_ Ug]; rw[P]; rfl,?_⟩⟩;exact { c:=IV.to (Uf m ha rfl),n:=AA,g:=EH,tc:=F6,t:=BD,r:=zN,pB:=TK,tB:=Dt,bn:=bn,bg:=bg,bt:=bt,br:=S.br }
namespace Rt
structure ace(L:fJ)(T:Nat):Prop where
 nn:L.nn<=33
 gn:L.gn<=T
 rn : ∀ i,i<6->L.rn i<=T
 tn : ∀ x,L.node x=bD L.t L.tn x
 dx : ∀ x,∃ D,D<=1000/\bD L.t L.tn (bF L.t L.tn D x)<0
 may : ∀ k,k<L.nn->may (L.R k)=true
 kn:Dp L.known
open Classical in
noncomputable def bJ(L:fJ)(v:EvM):Int :=
 if bS v=false then 1 else if lZ L.known v=true then 14 else if cO L.known v=false then 13 else if L.inn (aL v)=false\/L.left (aL v)=true then 10 else dR L v
def GU(L:fJ)(v:EvM):fJ := { L with known:=aH L.known (aL v) (L.known (aL v)+1) }
open Classical in
noncomputable def bP(L:fJ)(v:EvM):fJ:=if bJ L v=0 then GU (iI L v) v else L
theorem pE(L:fJ)(v:EvM):(iI L v).known=L.known:=by
 unfold iI;split; · unfold qc; rfl
 split; · unfold EY; rfl
 split; · unfold lQ qj; rfl
 split; · unfold jZ qj; rfl
 split; · unfold EZ; rfl
 split <;> rfl
end Rt
set_option maxRecDepth 20000 in
set_option maxHeartbeats 2000000 in
theorem Ol(m:kZ)(B p T:Nat)(v:EvM)(w:World)(L:uY w B p m)(z:fZ v)(I:ace m.core T)(hT:T<=900000) :
 Calls Tryz.prog 25 #[(pt p),.agg (aA 14 (bR v))] w fun e w' => ∃ p' m',e = .returned (.tuple #[(pt p'),au (bJ m.core v)])/\m'.core=bP m.core v/\uY w' B p' m'/\Below w.heap.size w w':=by
 have O:=L.c;have lpp:p<w.heap.size:=O.lt;have hpB:=L.pB;refine Kent Tryz.func25 73 ?_;refine ay<|qM fun g1 w1 kU U s1 z1 => ?_;have⟨F,d,Y⟩:=jG s1.old L O (Below.refl w.heap.size w);have tC:=iq kU;have Zw:=cK kU O.lt;have uU:=U.lt;refine av (.pointer none)<|av (au 0)<|aC<|Ws<|ay<|Lv (.agg (aA 14 (bR v))) (fG U.aI 0) ?_;by_cases l:(bS v)=true
 ·refine dP (GD v _ z) aG (by rw[l]) ?_;intro w2 hb1;have⟨m4,m5,m6,Z⟩:=mK hb1 F d U Y;refine av aF<|aC<|aK<|Wk<|sN<|Ws<|Ws ?_;refine mJ<|aU (pt p)<|aU (pt p)<|aU (pt p)<|aU (pf p 12)<|Qv (.agg (aA 6 (rv .u64 m.s.known))) (fun W A=>fG (m5.cb A) 12 (fun j S=>lN _ (by omega) (jV _ S (by omega))))<|Qv (.agg (aA 14 (bR v))) (fun W A=>fG (m6.cb A) 0) ?_;by_cases u:(lZ m.s.known v)=true
  ·refine yM (fun _ _=>Ta m.s.known v _ z) aG (by rw[u])<|Qn ?_;intro WR sI;have⟨m7,b3⟩:=eZ sI m4 Z;refine sN<|aO<|ay<|av (pt p)<|av (pt p)<|av (au 14)<|aC<|Wr<|sR<|aJ (.tuple #[(pt p),au 14]) ?_;have b:bJ m.core v=14:=(by unfold bJ; rw[b_ (by rw[l]; decide)]; exact d_ u);have q:bP m.core v=m.core:=(by unfold bP; rw[b_ (by rw[b]; decide)]);exact⟨p,m,by rw[b],q.symm,m7,b3⟩
  rw[S_]at u;refine yM (fun _ _=>Ta m.s.known v _ z) aF (by rw[u])<|Qn ?_;intro Zi wH;have⟨m10,m11,m12,b4⟩:=mK wH m4 m5 m6 Z;refine sN<|aK<|Wk<|sN<|Ws<|Ws ?_;refine mJ<|aU (pt p)<|aU (pt p)<|aU (pt p)<|aU (pf p 12)<|Qv (.agg (aA 6 (rv .u64 m.s.known))) (fun W A=>fG (m11.cb A) 12 (fun j S=>lN _ (by omega) (jV _ S (by omega))))<|Qv (.agg (aA 14 (bR v))) (fun W A=>fG (m12.cb A) 0) ?_;by_cases x:(cO m.s.known v)=true
  ·refine yM (fun _ _=>DK m.s.known v _ z I.kn) aG (by rw[x])<|aU aF<|Qn ?_;intro N wI;have⟨K,M,m15,G⟩:=mK wI m10 m11 m12 b4;refine sN<|aK<|Wk<|sN<|Ws ?_;obtain⟨a,P,ho⟩:=fq (iK l);refine Wl<|av (pt g1)<|Lv (au v.o) (aN m15.aI 0)<|Lv (au a) fU<|av (au a)<|aC<|Ws<|ay<|av (pt p)<|av (au a)<|av (pt p)<|av (pt p)<|av (pt p)<|Lv (pf p a) (jD 6 1) ?_;by_cases C:(m.s.inn a)=true
   ·refine Lv aG (aN M.aI a ((lN _ (by omega) (zL _ (by omega))).trans (K_ Value.bool C)))<|av aF<|av aF<|av (pt p)<|av (au a)<|av (pt p)<|av (pt p)<|av (pf p 6)<|Lv (pf p (a+6)) (jD 6 1) ?_;by_cases D:(m.s.left a)=true
    ·refine Lv aG (aN M.aI (a+6) ((lN _ (by omega) (Ay _ (by omega) (by omega))).trans (K_ Value.bool D)))<|av aG<|aC<|aO<|ay<|av (pt p)<|av (pt p)<|av (au 10)<|aC<|Wr<|sR<|aJ (.tuple #[(pt p),au 10]) ?_;have y:aL v=a:=(by unfold aL; omega);have b:bJ m.core v=10:=(by unfold bJ; rw[b_ (by rw[l]; decide),b_ (by rw[show lZ m.core.known v=false from u]; decide),b_ (by rw[show cO m.core.known v=true from x]; decide),y]; exact d_ (.inr D));have q:bP m.core v=m.core:=(by unfold bP; rw[b_ (by rw[b]; decide)]);exact⟨p,m,by rw[b],q.symm,K,G⟩
    rw[S_]at D;refine Lv aF (aN M.aI (a+6) ((lN _ (by omega) (Ay _ (by omega) (by omega))).trans (K_ Value.bool D)))<|av aF<|aC<|aK<|Wk<|sN<|ay<|av (pt p)<|lK (abt m p _ K.ldg (by have:=I.nn; have e:m.core.nn=m.s.nn:=rfl; omega) K.bt) ?_;rintro e w3 ⟨f,F,J,R,hL2,Q⟩;refine⟨(pt f),J,?_⟩;clear J;have⟨m18,b6⟩:=eZ Q m15 G;have E:ace F.core T:=(by rw[R]; exact I);refine av (pt f)<|aC<|Ws ?_;have amZ:=hL2;refine Wl<|av (pt f)<|Lv (.agg (aA 14 (bR v))) (fG m18.aI 0)<|lK (abX F N.heap.size f a v _ amZ Q.size P ho (by have h9:F.s.nn<=33:=E.nn; omega) (m_ E.gn hT) (fun i hi=>m_ (E.rn i hi) hT) E.tn E.dx z l E.may) ?_;rintro e X ⟨J,hbd,hL3⟩;refine⟨au (dR m.core v),by rw[<- R]; exact J,?_⟩;clear J;rw[R]at hL3;have b8:Below N.heap.size N X:=Q.trans hbd;have b7:Below w.heap.size w X:=b6.trans (hbd.mono (m_ (z_ _) G.size));have m19:uY X B p m:=K.up b8;refine av (au (dR m.core v))<|aC<|Ws<|ay<|av (au (dR m.core v)) ?_;by_cases H:(dR m.core v)=0
    ·refine Lv aF (jd H)<|aC<|aK<|Wk<|sN<|Ws ?_;obtain⟨d,hc3,k⟩:=hL3 H;have hMc:=k.c;have hMn:=k.n;have hMg:=k.g;have hMt:=k.tc;have anb:=k.t;have hMr:=k.r;have ek3:d.s.known=m.s.known:=(by show d.core.known=_; rw[hc3,pE]; rfl);have hk3:=I.kn a P;have hk3:0<=d.s.known a/\d.s.known a<1099511627776:=(by rw[ek3]; exact hk3);have lp2:=k.pB;have sw1:=G.size;refine jP [0,1,2,3,4,5,8,9,10,6,7,11,12] [0,0,0,0,0,0,4,0,0,0,0,0,3] [(12,6,[6])] fun oI dM gY => ?_;have⟨V,m21,m22,m23,m24,mY,b9⟩:=jM dM hMc hMn hMg hMt anb hMr b7;refine aY (pt f)<|aY (au a)<|aY (pt f)<|aY (pt f)<|aY (pf f 12)<|Rp (pf f (a+12)) (fun _=>jD 6 1)<|aY (pt f)<|aY (pt f)<|aY (pf f 12)<|Rs (aD (d.s.known a)) (aN V.aI (a+12) (lN _ (by omega) (jV _ (by omega) (by omega)))) ?_;refine Rp (aD (d.s.known a+1)) (fun _=>eT)<|Rp (pf f (a+12)) (fun _=>jD 6 1)<|gK<|jh V (a+12) (aD (d.s.known a+1)) fun w5 nQ s8 z2 => ?_;have gN:=iC s8 V.ty;have⟨oJ,ou,qo,oP,mV⟩:=qV gN m21 m22 m23 m24 mY;have b10:=s8.below b9 b9.size (by omega);refine Ln<|bQ<|ay<|av (pt f)<|av (pt f)<|av (au 0)<|aC<|Wr<|aJ (.tuple #[(pt f),au 0]) ?_;have y:aL v=a:=(by unfold aL; omega);have b:bJ m.core v=0:=by unfold bJ; rw[b_ (by rw[l]; decide),b_ (by rw[show lZ m.core.known v=false from u]; decide),b_ (by rw[show cO m.core.known v=true from x]; decide),y]; rw[b_ (show ¬ (m.core.inn a=false\/m.core.left a=true)from fun h=>h.elim (fun h=>by rw[show m.core.inn a=true from C]at h; cases h) (fun h=>by rw[show m.core.left a=false from D]at h; cases h))]; exact H
     have hfin:uY w5 N.heap.size f { d with s := { d.s with known:=aH d.s.known a (d.s.known a+1) } } := { c:=nQ.to (Qh d P rfl _),n:=oJ,g:=ou,tc:=qo,t:=oP,r:=mV,pB:=k.pB,tB:=k.tB,bn:=k.bn,bg:=k.bg,bt:=k.bt,br:=k.br };refine⟨f,{ d with s := { d.s with known:=aH d.s.known a (d.s.known a+1) } },by rw[b],?_,hfin.mono (by have:=L.pB; have:=lpp; omega),b10⟩;unfold bP; rw[d_ b]; unfold GU; rw[y,pE,<- hc3,show m.core.known=d.s.known from ek3.symm]; rfl
    refine Lv aG (lJ H)<|aC<|aO<|ay<|av (pt p)<|av (au (dR m.core v))<|av (pt p)<|av (au (dR m.core v))<|aC<|Wr<|sR<|aJ (.tuple #[(pt p),au (dR m.core v)]) ?_;have y:aL v=a:=(by unfold aL; omega);have b:bJ m.core v=dR m.core v:=by unfold bJ; rw[b_ (by rw[l]; decide),b_ (by rw[show lZ m.core.known v=false from u]; decide),b_ (by rw[show cO m.core.known v=true from x]; decide),y]; rw[b_ (show ¬ (m.core.inn a=false\/m.core.left a=true)from fun h=>h.elim (fun h=>by rw[show m.core.inn a=true from C]at h; cases h) (fun h=>by rw[show m.core.left a=false from D]at h; cases h))]
    have q:bP m.core v=m.core:=(by unfold bP; rw[b_ (by rw[b]; exact H)]);exact⟨p,m,by rw[b],q.symm,m19,b7⟩
   rw[S_]at C;refine Lv aF (aN M.aI a ((lN _ (by omega) (zL _ (by omega))).trans (K_ Value.bool C)))<|av aG<|av aG<|dw<|dw<|dw<|dw<|dw<|dw<|dw<|av aG<|aC<|aO<|ay<|av (pt p)<|av (pt p)<|av (au 10)<|aC<|Wr<|sR<|aJ (.tuple #[(pt p),au 10]) ?_;have y:aL v=a:=(by unfold aL; omega);have b:bJ m.core v=10:=(by unfold bJ; rw[b_ (by rw[l]; decide),b_ (by rw[show lZ m.core.known v=false from u]; decide),b_ (by rw[show cO m.core.known v=true from x]; decide),y]; exact d_ (.inl C));have q:bP m.core v=m.core:=(by unfold bP; rw[b_ (by rw[b]; decide)]);exact⟨p,m,by rw[b],q.symm,K,G⟩
  rw[S_]at x;refine yM (fun _ _=>DK m.s.known v _ z I.kn) aF (by rw[x])<|aU aG<|Qn ?_;intro wb4 Ap;have⟨m32,b11⟩:=eZ Ap m10 b4;refine sN<|aO<|ay<|av (pt p)<|av (pt p)<|av (au 13)<|aC<|Wr<|sR<|aJ (.tuple #[(pt p),au 13]) ?_;have b:bJ m.core v=13:=by unfold bJ; rw[b_ (by rw[l]; decide),b_ (by rw[show lZ m.core.known v=false from u]; decide)]; exact d_ x
  have q:bP m.core v=m.core:=by unfold bP; rw[b_ (by rw[b]; decide)]
  exact⟨p,m,by rw[b],q.symm,m32,b11⟩
 rw[S_]at l;refine dP (GD v _ z) aF (by rw[l]) ?_;intro w6 hb2;have⟨pY,b12⟩:=eZ hb2 F Y;refine av aG<|aC<|aO<|ay<|av (pt p)<|av (pt p)<|av (au 1)<|aC<|Wr<|sR<|aJ (.tuple #[(pt p),au 1]) ?_;have b:bJ m.core v=1:=by unfold bJ; exact d_ l
 have q:bP m.core v=m.core:=by unfold bP; rw[b_ (by rw[b]; decide)]
 exact⟨p,m,by rw[b],q.symm,pY,b12⟩
end Go.Proofs.YtahbiajdgealnaaGreatDoor
