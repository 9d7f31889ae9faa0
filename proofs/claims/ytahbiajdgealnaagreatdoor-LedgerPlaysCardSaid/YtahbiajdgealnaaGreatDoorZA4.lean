/-
  What the proof of the law rests on, part 4: walks of functions, and plain laws; each says its conditions itself.
-/
import Derived.Laws.StructEq
import Derived.Test.YtahbiajdgealnaaGreatDoorZA3
set_option maxHeartbeats 1600000
set_option linter.unusedVariables false
set_option linter.unusedSimpArgs false
namespace Go.Proofs.YtahbiajdgealnaaGreatDoor
open Go.RowKit Rt
open Fx (fD eT fI bC gL gK dw dR fZ iL dZ jg fP jh iV Lv sN Ln Ws Qv Wl Rp Wc Qs Wr Sb Lk Wk rC rV sR Rs Rn Rd Rk Wb Wx Wo Dw Wt qQ Qn EI Ao yj yI Ca Dl pG gY yL lZ sO uq vP wB xR Cy Ak rv aA aP bG aQ ev bX Stp dG aU flat dz Mp eX aT gN iF bD down iH jB iA ku bH bJ cells_one iG bT wD unseen jr gM bU dH bK bP bV bW fU gJ oQ gG)
namespace Rt
def AY(t:Nat->Nat->Int)(n k:Nat):Nat->Nat->Int:=fun i=>if i<=k then(if i<n then t i else fun _=>0)else t (i-1)
def nI(t:Nat->Nat->Int)(k:Nat)(id par:Int):Nat->Nat->Int:=fun i=>if i<k then t i else if i=k then(fun j=>if j=0 then id else par)else t (i-1)
theorem pU{w:World}{B tb tn tc:Nat}{ta:Option Addr}{t:Nat->Nat->Int}(b:aP w tb 1 (fun _ => .slice ta tn tc) 123)(a:Fx.Own w B 128 2 (.slice ta tn tc) tn (rv .u64 (jP t)))(j:tn<=1000):DL w tb ta tn tc t where
 tc:=b.aH
 t:=fun k h=>by
  obtain⟨g,d,e,_,_,_,c⟩:=a.form (by omega)
  simp only[Value.slice.injEq,true_and]at e
  refine⟨g,0,e.1,fun i f => ?_⟩
  have:=c (2*k+i) (by omega)
  rw[Nat.zero_add]at this
  rw[Nat.zero_add,this]
  show some (Value.int .u64 (t ((2*k+i) / 2) ((2*k+i) % 2)))=some (Value.int .u64 (t k i))
  rw[show(2*k+i) / 2=k by omega,show(2*k+i) % 2=i by omega]
 bt:=by omega
theorem wK(t:Nat->Nat->Int)(n:Nat) : ∀ j,j<(n+1)*2->gM (rv .u64 (jP t)) (n*2) (bG (fun j=>rv .u64 (fun _=>0) (j % 2)) (0*2) 2 (rv .u64 (fun _=>0))) j=rv .u64 (jP (AY t n n)) j:=fun j a=>by
 unfold gM
 by_cases h:j<n*2
 ·rw[if_pos h]
  show Value.int .u64 (t (j / 2) (j % 2))=Value.int .u64 (AY t n n (j / 2) (j % 2))
  unfold AY; rw[if_pos (by omega),if_pos (by omega)]
 ·rw[if_neg h]
  unfold bG; rw[if_pos (by omega)]
  show Value.int .u64 0=Value.int .u64 (AY t n n (j / 2) (j % 2))
  unfold AY; rw[if_pos (by omega),if_neg (by omega)]
theorem yt{t:Nat->Nat->Int}{n k j p:Nat}(a:p=2*j)(h:j<k)(b:k<=n):rv .u64 (jP (AY t n k)) p=aD (t j 0):=by
 subst a
 show Value.int .u64 (AY t n k (2*j / 2) (2*j % 2))=_
 unfold AY; rw[if_pos (by omega),if_pos (by omega),show 2*j / 2=j by omega,show 2*j % 2=0 by omega]
theorem Rx{t:Nat->Nat->Int}{n k j i:Nat}(h:j<k)(a:k<=n)(hi:i<2):rv .u64 (jP (AY t n k)) (2*j+i)=rv .u64 (t j) i:=by
 show Value.int .u64 (AY t n k ((2*j+i) / 2) ((2*j+i) % 2))=Value.int .u64 (t j i)
 unfold AY; rw[if_pos (by omega),if_pos (by omega),show(2*j+i) / 2=j by omega,show(2*j+i) % 2=i by omega]
theorem xw{t:Nat->Nat->Int}{n k j:Nat}(e:k=j+1)(_hk:k<=n) : ∀ p,p<(n+1)*2->bG (rv .u64 (jP (AY t n k))) (2*k) 2 (rv .u64 (t j)) p=rv .u64 (jP (AY t n j)) p:=fun p b=>by
 unfold bG
 by_cases h:2*k<=p/\p<2*k+2
 ·rw[if_pos h]
  show Value.int .u64 (t j (p-2*k))=Value.int .u64 (AY t n j (p / 2) (p % 2))
  unfold AY; rw[if_neg (by omega),show p / 2-1=j by omega,show p-2*k=p % 2 by omega]
 ·rw[if_neg h]
  show Value.int .u64 (AY t n k (p / 2) (p % 2))=Value.int .u64 (AY t n j (p / 2) (p % 2))
  unfold AY
  by_cases a:p / 2<=j
  ·rw[if_pos (by omega),if_pos a]
  ·rw[if_neg (by omega),if_neg a]
theorem rF{t:Nat->Nat->Int}{n k:Nat}{id par:Int}(_hk:k<=n) : ∀ p,p<(n+1)*2->bG (rv .u64 (jP (AY t n k))) (2*k) 2 (bG (bG (rv .u64 (fun _=>0)) 0 1 (fun _=>aD id)) 1 1 (fun _=>aD par)) p=rv .u64 (jP (nI t k id par)) p:=fun p c=>by
 by_cases h:2*k<=p/\p<2*k+2
 ·rw[bG,if_pos h]
  show _=Value.int .u64 (nI t k id par (p / 2) (p % 2))
  unfold nI; rw[if_neg (by omega),if_pos (by omega)]
  by_cases b:p=2*k
  ·subst b; rw[show 2*k-2*k=0 by omega,if_pos (by omega)]; rfl
  ·rw[show p-2*k=1 by omega,if_neg (by omega)]; rfl
 ·rw[bG,if_neg h]
  show Value.int .u64 (AY t n k (p / 2) (p % 2))=Value.int .u64 (nI t k id par (p / 2) (p % 2))
  unfold AY nI
  by_cases a:p / 2<k
  ·rw[if_pos (by omega),if_pos (by omega),if_pos a]
  ·rw[if_neg (by omega),if_neg a,if_neg (by omega)]
def BJ(t:Nat->Nat->Int)(tn:Nat)(x:Int):Prop := ∀ i,i<4->0<=bB t tn (bf t tn i x)
theorem Jb{t:Nat->Nat->Int}{tn K:Nat}{x:Int}(h : ∀ i,i<K->0<=bB t tn (bf t tn i x))(a:4<=K):BJ t tn x:=fun i b=>h i (by omega)
theorem CQ{t:Nat->Nat->Int}{tn K:Nat}{x:Int}(h:bB t tn (bf t tn K x)<0)(a:K<4) : ¬ BJ t tn x:=fun b=>by have:=b K a; omega
open Classical in
noncomputable def iR(t:Nat->Nat->Int)(tn:Nat)(id par:Int):Int:=if id=0 then 1 else if 0<=bB t tn id then 14 else if par≠0/\bB t tn par<0 then 9 else if 32<=tn\/BJ t tn par then 6 else 0
theorem MJ{t:Nat->Nat->Int}{n k j:Nat}{id:Int}(e:k=j+1)(h : ∀ i,k<=i->i<n->id<t i 0)(c:id<t j 0) : ∀ i,j<=i->i<n->id<t i 0:=fun i d b=>by
 by_cases a:i=j
 ·subst a; exact c
 ·exact h i (by omega) b
end Rt
set_option maxRecDepth 10000 in
theorem adv(B:Nat)(tb:Nat)(ta:Option Addr)(tn tc:Nat)(t:Nat->Nat->Int)(id par:Int)(D:Nat)(w:World)(P:aP w tb 1 (fun _ => .slice ta tn tc) 123)(X:Fx.Own w B 128 2 (.slice ta tn tc) tn (rv .u64 (jP t)))(hne:(Value.slice ta tn tc).ownBlock≠some tb)(hB:B<=w.heap.size)(Q:tn<=1000)(hD:bB t tn (bf t tn D par)<0)(hD2:D<=1000) :
 Calls Tryz.prog 107 #[(pt tb),aD id,aD par] w fun e w'=>e = .returned (au (iR t tn id par))/\jB (fun k=>k=tb\/(Value.slice ta tn tc).ownBlock=some k) w w'/\((iR t tn id par≠0/\aP w' tb 1 (fun _ => .slice ta tn tc) 123/\Fx.Own w' B 128 2 (.slice ta tn tc) tn (rv .u64 (jP t)))\/(iR t tn id par=0 /\ ∃ g cap,aP w' tb 1 (fun _=>bI g (tn+1) cap) 123/\Fx.Own w' B 128 2 (bI g (tn+1) cap) (tn+1) (rv .u64 (jP (nI t (down (fun i=>decide (id<t i 0)) tn) id par)))/\(Value.slice (some ⟨g,0,none⟩) (tn+1) cap).ownBlock≠some tb)):=by
 have lp:tb<w.heap.size:=P.lt
 refine Kent Tryz.func107 89 ?_
 refine ay<|av (au 0)<|aC<|Ws<|ay<|av (aD id) ?_
 by_cases q:id=0
 ·refine Lv aG (eP q)<|aC<|aM<|ay<|av (au 1)<|aC<|Wr<|sR<|aI (au 1) ?_
  have c:iR t tn id par=1:=by unfold iR; rw[if_pos q]
  exact⟨nD c.symm,(uq (fun k=>k=tb\/(Value.slice ta tn tc).ownBlock=some k) w),.inl ⟨by rw[c]; decide,P,X⟩⟩
 refine Lv aF (fF q)<|aC<|aK<|Wk<|sN<|Ws<|ay<|av ((pt tb))<|av (aD id) ?_
 by_cases p:(decide (0<=bB t tn id))=true
 ·refine dA (MI tb ta tn tc t id _ (pU P X Q)) aG (by rw[p]) ?_
  intro w1 hb1
  have s1:=Sb hb1
  have⟨m1,m2⟩:=eG hb1 P X
  have b1:=(uq (fun k=>k=tb\/(Value.slice ta tn tc).ownBlock=some k) w).then s1 (.inr (uq (fun k=>k=tb\/(Value.slice ta tn tc).ownBlock=some k) w).size)
  refine aC<|aM<|ay<|av (au 14)<|aC<|Wr<|sR<|aI (au 14) ?_
  have c:iR t tn id par=14:=by unfold iR; rw[if_neg q,if_pos (of_decide_eq_true p)]
  exact⟨nD c.symm,b1,.inl ⟨by rw[c]; decide,m1,m2⟩⟩
 rw[Bool.not_eq_true]at p
 refine dA (MI tb ta tn tc t id _ (pU P X Q)) aF (by rw[p]) ?_
 intro w2 hb2
 have s2:=Sb hb2
 have⟨E,L⟩:=eG hb2 P X
 have F:=(uq (fun k=>k=tb\/(Value.slice ta tn tc).ownBlock=some k) w).then s2 (.inr (uq (fun k=>k=tb\/(Value.slice ta tn tc).ownBlock=some k) w).size)
 refine aC<|aK<|Wk<|sN<|Ws<|ay<|av (aD par) ?_
 by_cases G:par=0
 ·refine Lv aF (jJ G)<|av aF<|cB<|cB<|cB<|cB<|av aF<|aC<|aK<|Wk<|sN<|Ws<|ay<|av ((pt tb))<|av ((pt tb))<|av ((pt tb))<|Lv (.slice ta (tn) (tc)) (aL E.aH 0)<|av (au tn) ?_
  by_cases T:32<=(tn:Int)
  ·refine Lv aG (jv T)<|av aG<|cB<|cB<|cB<|cB<|cB<|av aG<|aC<|aM<|ay<|av (au 6)<|aC<|Wr<|sR<|aI (au 6) ?_
   have c:iR t tn id par=6:=by unfold iR; rw[if_neg q,if_neg (of_decide_eq_false p),if_neg (fun h=>h.1 G),if_pos (.inl (by omega))]
   exact⟨nD c.symm,F,.inl ⟨by rw[c]; decide,E,L⟩⟩
  refine Lv aF (ji T)<|av aF<|av ((pt tb))<|av (aD par)<|jM (DR tb ta tn tc t par D _ (pU E L Q) hD hD2) ?_
  rintro e w3 ⟨K,vv,Y,hown,nZ,W,hb3⟩
  obtain⟨a1,n,rfl⟩:=hown.val
  refine⟨.slice a1 K n,Y,?_⟩
  clear Y hown
  have s3:=Sb hb3
  have⟨m5,m6⟩:=eG hb3 E L
  have b3:=F.then s3 (.inr F.size)
  refine av (au K) ?_
  by_cases U:4<=(K:Int)
  ·refine Lv aG (jv U)<|av aG<|aC<|aM<|ay<|av (au 6)<|aC<|Wr<|sR<|aI (au 6) ?_
   have c:iR t tn id par=6:=by unfold iR; rw[if_neg q,if_neg (of_decide_eq_false p),if_neg (fun h=>h.1 G),if_pos (.inr (Jb nZ (by omega)))]
   exact⟨nD c.symm,b3,.inl ⟨by rw[c]; decide,m5,m6⟩⟩
  refine Lv aF (ji U)<|av aF<|aC<|aK<|Wk<|sN<|ay<|av ((pt tb))<|av ((pt tb))<|av ((pt tb))<|Lv (.slice ta (tn) (tc)) (aL m5.aH 0)<|av (au tn)<|av (au tn)<|aC<|ay<|av ((pt tb))<|av ((pt tb))<|av ((pt tb))<|av ((pt tb))<|Lv (.slice ta (tn) (tc)) (aL m5.aH 0)<|av (.agg (aA 2 (rv .u64 (fun _=>0))))<|yj (vs := [(0,.agg (aA 2 (rv .u64 (fun _=>0))))]) (s:=2) (zc:=rv .u64 (fun _=>0)) (y:=bG (fun j=>(rv .u64 (fun _=>0)) (j % 2)) (0*2) 2 (rv .u64 (fun _=>0))) (by rfl) rfl rfl Tryz.underlying121 (by kernel_rfl) (by rfl) (by rfl) (by kernel_rfl) (by rw[bD (off:=0*2) (s:=2) (y:=rv .u64 (fun _=>0)) rfl (bJ _ _) (by rfl)]; rfl) rfl fun g1 w4 kV m7 s4 z1 => ?_
  have⟨m8,m9⟩:=eG s4.old m5 m6
  have b4:=b3.then s4 (.inr b3.size)
  have tL:=jc kV b3.size
  have Ja:=bY kV m5.lt
  have adw:(.slice ta tn tc:Value).ownBlock≠some g1:=by rw[kV]; exact m6.jC (Nat.le_refl _)
  have vR:=m7.lt
  refine yI (B:=B) (s:=2) (bytes:=16) (k:=tn) (m:=1) (v := .slice ta tn tc) (by rfl) rfl rfl rfl Tryz.underlying121 (by kernel_rfl) (by kernel_rfl) rfl rfl m9 m7.aH (fun j Z=>by rcases j with _|_|j <;> first|rfl|omega) (by omega) (by omega) (by omega) (Nat.le_trans hB b4.size) fun d n w5 ho1 hg1 tJ hlt1 => ?_
  have m11:aP w5 tb 1 (fun _ => .slice ta tn tc) 123:=m8.grown hg1 hne
  have adx:tb≠d:=fun e=>tJ.elim (fun x=>hne (by rw[x,e])) (fun x=>by have:=m8.lt; omega)
  have m10:Fx.Own w5 B 128 2 (bI d (tn+1) n) (tn+1) (rv .u64 (jP (AY t tn tn))):=ho1.congr (wK t tn)
  have b5:jB (fun k=>k=tb\/(Value.slice ta tn tc).ownBlock=some k) w w5:=Fx.jB.grow b4 hg1 (fun k e => .inl (.inr e))
  have ZF:(fun k=>k=tb\/(Value.slice ta tn tc).ownBlock=some k) d\/w.heap.size<=d:=tJ.elim (fun e => .inl (.inr e)) (fun e => .inr (by rw[e]; exact b4.size))
  refine av ((pt tb))<|av ((pt tb))<|iQ m11 0 (bI d (tn+1) n) fun w6 m12 s5 z2 => ?_
  have m13:aP w6 tb 1 (fun _=>bI d (tn+1) n) 123:=dH m12
  have m14:=m10.UG s5 (by omega)
  have b6:=b5.then s5 (.inl (.inl rfl))
  refine aC<|Ws<|Wb<|Wo (fun f M => ∃ k:Nat,k<=tn/\(∀ i,k<=i->i<tn->id<t i 0)/\f 0=(pt tb)/\f 1=aD id/\f 2=aD par/\f 7=au ((k:Int))/\aP M tb 1 (fun _=>bI d (tn+1) n) 123/\Fx.Own M B 128 2 (bI d (tn+1) n) (tn+1) (rv .u64 (jP (AY t tn k)))/\jB (fun k=>k=tb\/(Value.slice ta tn tc).ownBlock=some k) w M) (fun f _=>(intOf (f 7)).toNat) ⟨tn,by omega,(fun i r N=>absurd r (by omega)),(by rfl),Fx.ic,Fx.ic,Fx.ic,m13,m14,b6⟩ ?_
  rintro f1 w7 ⟨k,hk,J,r,N,h3,A,R,m16,b7⟩
  refine Ws<|ay<|aS A ?_
  by_cases V:0<(k:Int)
  ·obtain⟨j,H⟩ : ∃ j,k=j+1:=⟨k-1,by omega⟩
   refine Lv aG (jY V)<|av aG<|aS r<|av ((pt tb))<|av ((pt tb))<|Lv (bI d (tn+1) n) (aL R.aH 0)<|aS A<|Lv (au j) fO<|Lv ((pf d (2*j))) (cu 2)<|av ((pf d (2*j)))<|Lv (aD (t j 0)) (aL m16.aH (2*j) (yt (by omega) (by omega) (by omega)))<|aS N ?_
   by_cases u:id<(t j 0)
   ·refine Lv aG (jY u)<|av aG<|aC<|aM<|Wk<|sN<|Wb<|Ws ?_
    -- region 12 draws
    refine Wt 14 (by kernel_rfl) (by kernel_rfl) fun oU dL gU => ?_
    have s6:Stp w7.heap.size w7 oU:=Sb dL
    have⟨m17,m18⟩:=eG dL R m16
    have b8:=b7.then s6 (.inr b7.size)
    refine pG ((pt tb)) (PO r)<|Dr ((pt tb))<|Dr ((pt tb))<|pG (bI d (tn+1) n) (aL m17.aH 0)<|pG (au k) (PO A)<|pG ((pt tb)) (PO r)<|Dr ((pt tb))<|Dr ((pt tb))<|pG (bI d (tn+1) n) (aL m17.aH 0)<|pG (au k) (PO A)<|pG (au j) fO<|pG ((pf d (2*j))) (cu 2)<|pG (.agg (aA 2 (rv .u64 (t j)))) (fA m18.aH (2*j) (fun i hi=>Rx (by omega) (by omega) hi))<|pG ((pf d (2*k))) (cu 2)<|Fx.St.nil ?_
    refine yN m18 (2*k) fun w8 m19 s7 z3 => ?_
    have m20:=m17.bZ s7 (by omega)
    have b9:=b8.then s7 ZF
    have m21:Fx.Own w8 B 128 2 (bI d (tn+1) n) (tn+1) (rv .u64 (jP (AY t tn j))):=m19.congr (xw H (by omega))
    refine aC<|Wl<|aS A<|Lv (au j) fO<|av (au j)<|Ln<|bP<|gJ ⟨j,by omega,(MJ H J u),r,(N.trans Fx.ic),(h3.trans Fx.ic),Fx.ic,m20,m21,b9⟩ ?_
    show(intOf ((au j))).toNat<_
    simp only[A,intOf]; omega
   refine Lv aF (jZ u)<|av aF<|aC<|aK<|Wx<|bV<|fU<|bW<|sN<|ay<|aS r<|av ((pt tb))<|av ((pt tb))<|Lv (bI d (tn+1) n) (aL R.aH 0)<|aS A<|aS N<|aS h3<|av (.agg (aA 2 (bG (bG (rv .u64 (fun _=>0)) 0 1 (fun _=>aD id)) 1 1 (fun _=>aD par))))<|Lv ((pf d (2*k))) (cu 2)<|yN m16 (2*k) (h1:=(fun j Z=>by rcases j with _|_|j <;> first|rfl|omega)) fun w9 m22 s8 z4 => ?_
   have m23:=R.bZ s8 (by omega)
   have b10:=b7.then s8 ZF
   have m24:Fx.Own w9 B 128 2 (bI d (tn+1) n) (tn+1) (rv .u64 (jP (nI t k id par))):=m22.congr (rF (by omega))
   refine aC<|ay<|av (au 0)<|aC<|Wr<|aI (au 0) ?_
   have c:iR t tn id par=0:=by unfold iR; rw[if_neg q,if_neg (of_decide_eq_false p),if_neg (fun h=>h.1 G),if_neg (fun h=>h.elim (fun h=>by omega) (CQ W (by omega)))]
   have I:k=down (fun i=>decide (id<t i 0)) tn:=Fx.nR hk (fun i a b=>decide_eq_true (J i a b)) (.inr (fun j e=>by have x:j=_:=Nat.succ.inj (e.symm.trans H); subst x; exact decide_eq_false u))
   exact⟨nD c.symm,b10,.inr ⟨c,d,n,m23,by rw[<- I]; exact m24,fun e=>adx (Option.some.inj e).symm⟩⟩
  refine Lv aF (jZ V)<|av aF<|cB<|cB<|cB<|cB<|cB<|cB<|cB<|cB<|cB<|cB<|cB<|av aF<|aC<|aK<|Wx<|bV<|fU<|bW<|sN<|ay<|aS r<|av ((pt tb))<|av ((pt tb))<|Lv (bI d (tn+1) n) (aL R.aH 0)<|aS A<|aS N<|aS h3<|av (.agg (aA 2 (bG (bG (rv .u64 (fun _=>0)) 0 1 (fun _=>aD id)) 1 1 (fun _=>aD par))))<|Lv ((pf d (2*k))) (cu 2)<|yN m16 (2*k) (h1:=(fun j Z=>by rcases j with _|_|j <;> first|rfl|omega)) fun rJ lW s9 z5 => ?_
  have mR:=R.bZ s9 (by omega)
  have b11:=b7.then s9 ZF
  have nY:Fx.Own rJ B 128 2 (bI d (tn+1) n) (tn+1) (rv .u64 (jP (nI t k id par))):=lW.congr (rF (by omega))
  refine aC<|ay<|av (au 0)<|aC<|Wr<|aI (au 0) ?_
  have c:iR t tn id par=0:=by unfold iR; rw[if_neg q,if_neg (of_decide_eq_false p),if_neg (fun h=>h.1 G),if_neg (fun h=>h.elim (fun h=>by omega) (CQ W (by omega)))]
  have I:k=down (fun i=>decide (id<t i 0)) tn:=Fx.nR hk (fun i a b=>decide_eq_true (J i a b)) (.inl (by omega))
  exact⟨nD c.symm,b11,.inr ⟨c,d,n,mR,by rw[<- I]; exact nY,fun e=>adx (Option.some.inj e).symm⟩⟩
 refine Lv aG (mE G)<|av aG<|av ((pt tb))<|av (aD par) ?_
 by_cases z:(decide (0<=bB t tn par))=true
 ·refine dA (MI tb ta tn tc t par _ (pU E L Q)) aG (by rw[z]) ?_
  intro DI hb4
  have s10:=Sb hb4
  have⟨nT,oF⟩:=eG hb4 E L
  have b12:=F.then s10 (.inr F.size)
  refine av aF<|av aF<|aC<|aK<|Wk<|sN<|Ws<|ay<|av ((pt tb))<|av ((pt tb))<|av ((pt tb))<|Lv (.slice ta (tn) (tc)) (aL nT.aH 0)<|av (au tn) ?_
  by_cases T:32<=(tn:Int)
  ·refine Lv aG (jv T)<|av aG<|cB<|cB<|cB<|cB<|cB<|av aG<|aC<|aM<|ay<|av (au 6)<|aC<|Wr<|sR<|aI (au 6) ?_
   have c:iR t tn id par=6:=by unfold iR; rw[if_neg q,if_neg (of_decide_eq_false p),if_neg (fun h=>by have:=of_decide_eq_true z; omega),if_pos (.inl (by omega))]
   exact⟨nD c.symm,b12,.inl ⟨by rw[c]; decide,nT,oF⟩⟩
  refine Lv aF (ji T)<|av aF<|av ((pt tb))<|av (aD par)<|jM (DR tb ta tn tc t par D _ (pU nT oF Q) hD hD2) ?_
  rintro e Ch ⟨K,vv,Y,hown,nZ,W,hb5⟩
  obtain⟨a1,n,rfl⟩:=hown.val
  refine⟨.slice a1 K n,Y,?_⟩
  clear Y hown
  have s11:=Sb hb5
  have⟨nE,lH⟩:=eG hb5 nT oF
  have b13:=b12.then s11 (.inr b12.size)
  refine av (au K) ?_
  by_cases U:4<=(K:Int)
  ·refine Lv aG (jv U)<|av aG<|aC<|aM<|ay<|av (au 6)<|aC<|Wr<|sR<|aI (au 6) ?_
   have c:iR t tn id par=6:=by unfold iR; rw[if_neg q,if_neg (of_decide_eq_false p),if_neg (fun h=>by have:=of_decide_eq_true z; omega),if_pos (.inr (Jb nZ (by omega)))]
   exact⟨nD c.symm,b13,.inl ⟨by rw[c]; decide,nE,lH⟩⟩
  refine Lv aF (ji U)<|av aF<|aC<|aK<|Wk<|sN<|ay<|av ((pt tb))<|av ((pt tb))<|av ((pt tb))<|Lv (.slice ta (tn) (tc)) (aL nE.aH 0)<|av (au tn)<|av (au tn)<|aC<|ay<|av ((pt tb))<|av ((pt tb))<|av ((pt tb))<|av ((pt tb))<|Lv (.slice ta (tn) (tc)) (aL nE.aH 0)<|av (.agg (aA 2 (rv .u64 (fun _=>0))))<|yj (vs := [(0,.agg (aA 2 (rv .u64 (fun _=>0))))]) (s:=2) (zc:=rv .u64 (fun _=>0)) (y:=bG (fun j=>(rv .u64 (fun _=>0)) (j % 2)) (0*2) 2 (rv .u64 (fun _=>0))) (by rfl) rfl rfl Tryz.underlying121 (by kernel_rfl) (by rfl) (by rfl) (by kernel_rfl) (by rw[bD (off:=0*2) (s:=2) (y:=rv .u64 (fun _=>0)) rfl (bJ _ _) (by rfl)]; rfl) rfl fun g3 EN yT m32 s12 z6 => ?_
  have⟨oI,nG⟩:=eG s12.old nE lH
  have b14:=b13.then s12 (.inr b13.size)
  have Dy:=jc yT b13.size
  have aic:=bY yT nE.lt
  have aie:(.slice ta tn tc:Value).ownBlock≠some g3:=by rw[yT]; exact lH.jC (Nat.le_refl _)
  have KQ:=m32.lt
  refine yI (B:=B) (s:=2) (bytes:=16) (k:=tn) (m:=1) (v := .slice ta tn tc) (by rfl) rfl rfl rfl Tryz.underlying121 (by kernel_rfl) (by kernel_rfl) rfl rfl nG m32.aH (fun j Z=>by rcases j with _|_|j <;> first|rfl|omega) (by omega) (by omega) (by omega) (Nat.le_trans hB b14.size) fun l o Mv ho2 hg2 Jc hlt2 => ?_
  have pO:aP Mv tb 1 (fun _ => .slice ta tn tc) 123:=oI.grown hg2 hne
  have ady:tb≠l:=fun e=>Jc.elim (fun x=>hne (by rw[x,e])) (fun x=>by have:=oI.lt; omega)
  have oJ:Fx.Own Mv B 128 2 (bI l (tn+1) o) (tn+1) (rv .u64 (jP (AY t tn tn))):=ho2.congr (wK t tn)
  have b15:jB (fun k=>k=tb\/(Value.slice ta tn tc).ownBlock=some k) w Mv:=Fx.jB.grow b14 hg2 (fun k e => .inl (.inr e))
  have ZG:(fun k=>k=tb\/(Value.slice ta tn tc).ownBlock=some k) l\/w.heap.size<=l:=Jc.elim (fun e => .inl (.inr e)) (fun e => .inr (by rw[e]; exact b14.size))
  refine av ((pt tb))<|av ((pt tb))<|iQ pO 0 (bI l (tn+1) o) fun Mw qL s13 z7 => ?_
  have qM:aP Mw tb 1 (fun _=>bI l (tn+1) o) 123:=dH qL
  have pQ:=oJ.UG s13 (by omega)
  have b16:=b15.then s13 (.inl (.inl rfl))
  refine aC<|Ws<|Wb<|Wo (fun f M => ∃ k:Nat,k<=tn/\(∀ i,k<=i->i<tn->id<t i 0)/\f 0=(pt tb)/\f 1=aD id/\f 2=aD par/\f 7=au ((k:Int))/\aP M tb 1 (fun _=>bI l (tn+1) o) 123/\Fx.Own M B 128 2 (bI l (tn+1) o) (tn+1) (rv .u64 (jP (AY t tn k)))/\jB (fun k=>k=tb\/(Value.slice ta tn tc).ownBlock=some k) w M) (fun f _=>(intOf (f 7)).toNat) ⟨tn,by omega,(fun i r N=>absurd r (by omega)),(by rfl),Fx.ic,Fx.ic,Fx.ic,qM,pQ,b16⟩ ?_
  rintro f2 w16 ⟨k,hk,J,O,h6,h7,C,S,mW,b17⟩
  refine Ws<|ay<|aS C ?_
  by_cases V:0<(k:Int)
  ·obtain⟨j,H⟩ : ∃ j,k=j+1:=⟨k-1,by omega⟩
   refine Lv aG (jY V)<|av aG<|aS O<|av ((pt tb))<|av ((pt tb))<|Lv (bI l (tn+1) o) (aL S.aH 0)<|aS C<|Lv (au j) fO<|Lv ((pf l (2*j))) (cu 2)<|av ((pf l (2*j)))<|Lv (aD (t j 0)) (aL mW.aH (2*j) (yt (by omega) (by omega) (by omega)))<|aS h6 ?_
   by_cases u:id<(t j 0)
   ·refine Lv aG (jY u)<|av aG<|aC<|aM<|Wk<|sN<|Wb<|Ws ?_
    -- region 12 draws
    refine Wt 14 (by kernel_rfl) (by kernel_rfl) fun yP fG lQ => ?_
    have AQ:Stp w16.heap.size w16 yP:=Sb fG
    have⟨lY,lX⟩:=eG fG S mW
    have b18:=b17.then AQ (.inr b17.size)
    refine pG ((pt tb)) (PO O)<|Dr ((pt tb))<|Dr ((pt tb))<|pG (bI l (tn+1) o) (aL lY.aH 0)<|pG (au k) (PO C)<|pG ((pt tb)) (PO O)<|Dr ((pt tb))<|Dr ((pt tb))<|pG (bI l (tn+1) o) (aL lY.aH 0)<|pG (au k) (PO C)<|pG (au j) fO<|pG ((pf l (2*j))) (cu 2)<|pG (.agg (aA 2 (rv .u64 (t j)))) (fA lX.aH (2*j) (fun i hi=>Rx (by omega) (by omega) hi))<|pG ((pf l (2*k))) (cu 2)<|Fx.St.nil ?_
    refine yN lX (2*k) fun Qy qX s15 z8 => ?_
    have oZ:=lY.bZ s15 (by omega)
    have b19:=b18.then s15 ZG
    have mX:Fx.Own Qy B 128 2 (bI l (tn+1) o) (tn+1) (rv .u64 (jP (AY t tn j))):=qX.congr (xw H (by omega))
    refine aC<|Wl<|aS C<|Lv (au j) fO<|av (au j)<|Ln<|bP<|gJ ⟨j,by omega,(MJ H J u),O,(h6.trans Fx.ic),(h7.trans Fx.ic),Fx.ic,oZ,mX,b19⟩ ?_
    show(intOf ((au j))).toNat<_
    simp only[C,intOf]; omega
   refine Lv aF (jZ u)<|av aF<|aC<|aK<|Wx<|bV<|fU<|bW<|sN<|ay<|aS O<|av ((pt tb))<|av ((pt tb))<|Lv (bI l (tn+1) o) (aL S.aH 0)<|aS C<|aS h6<|aS h7<|av (.agg (aA 2 (bG (bG (rv .u64 (fun _=>0)) 0 1 (fun _=>aD id)) 1 1 (fun _=>aD par))))<|Lv ((pf l (2*k))) (cu 2)<|yN mW (2*k) (h1:=(fun j Z=>by rcases j with _|_|j <;> first|rfl|omega)) fun Qz rM s16 z9 => ?_
   have vU:=S.bZ s16 (by omega)
   have b20:=b17.then s16 ZG
   have qY:Fx.Own Qz B 128 2 (bI l (tn+1) o) (tn+1) (rv .u64 (jP (nI t k id par))):=rM.congr (rF (by omega))
   refine aC<|ay<|av (au 0)<|aC<|Wr<|aI (au 0) ?_
   have c:iR t tn id par=0:=by unfold iR; rw[if_neg q,if_neg (of_decide_eq_false p),if_neg (fun h=>by have:=of_decide_eq_true z; omega),if_neg (fun h=>h.elim (fun h=>by omega) (CQ W (by omega)))]
   have I:k=down (fun i=>decide (id<t i 0)) tn:=Fx.nR hk (fun i a b=>decide_eq_true (J i a b)) (.inr (fun j e=>by have x:j=_:=Nat.succ.inj (e.symm.trans H); subst x; exact decide_eq_false u))
   exact⟨nD c.symm,b20,.inr ⟨c,l,o,vU,by rw[<- I]; exact qY,fun e=>ady (Option.some.inj e).symm⟩⟩
  refine Lv aF (jZ V)<|av aF<|cB<|cB<|cB<|cB<|cB<|cB<|cB<|cB<|cB<|cB<|cB<|av aF<|aC<|aK<|Wx<|bV<|fU<|bW<|sN<|ay<|aS O<|av ((pt tb))<|av ((pt tb))<|Lv (bI l (tn+1) o) (aL S.aH 0)<|aS C<|aS h6<|aS h7<|av (.agg (aA 2 (bG (bG (rv .u64 (fun _=>0)) 0 1 (fun _=>aD id)) 1 1 (fun _=>aD par))))<|Lv ((pf l (2*k))) (cu 2)<|yN mW (2*k) (h1:=(fun j Z=>by rcases j with _|_|j <;> first|rfl|omega)) fun XO qZ H7 z10 => ?_
  have uw:=S.bZ H7 (by omega)
  have KP:=b17.then H7 ZG
  have uS:Fx.Own XO B 128 2 (bI l (tn+1) o) (tn+1) (rv .u64 (jP (nI t k id par))):=qZ.congr (rF (by omega))
  refine aC<|ay<|av (au 0)<|aC<|Wr<|aI (au 0) ?_
  have c:iR t tn id par=0:=by unfold iR; rw[if_neg q,if_neg (of_decide_eq_false p),if_neg (fun h=>by have:=of_decide_eq_true z; omega),if_neg (fun h=>h.elim (fun h=>by omega) (CQ W (by omega)))]
  have I:k=down (fun i=>decide (id<t i 0)) tn:=Fx.nR hk (fun i a b=>decide_eq_true (J i a b)) (.inl (by omega))
  exact⟨nD c.symm,KP,.inr ⟨c,l,o,uw,by rw[<- I]; exact uS,fun e=>ady (Option.some.inj e).symm⟩⟩
 rw[Bool.not_eq_true]at z
 refine dA (MI tb ta tn tc t par _ (pU E L Q)) aF (by rw[z]) ?_
 intro Mx hb6
 have Ki:=Sb hb6
 have⟨rZ,sP⟩:=eG hb6 E L
 have Kg:=F.then Ki (.inr F.size)
 refine av aG<|av aG<|aC<|aM<|ay<|av (au 9)<|aC<|Wr<|sR<|aI (au 9) ?_
 have c:iR t tn id par=9:=by unfold iR; rw[if_neg q,if_neg (of_decide_eq_false p),if_pos ⟨G,by have:=of_decide_eq_false z; omega⟩]
 exact⟨nD c.symm,Kg,.inl ⟨by rw[c]; decide,rZ,sP⟩⟩
namespace Rt
def jd(o a:Int):Int:=if 1<=o/\o<=6/\1<=a/\a<1099511627776 then 1099511627776*o+a else 0
end Rt
theorem aif(o a:Int)(w:World) :
 Calls Tryz.prog 50 #[au o,aD a] w fun e w'=>e = .returned (aD (jd o a))/\w'=w:=by
 refine Kent Tryz.func50 24 ?_
 refine ay<|av (aD 0)<|aC<|Ws<|ay<|av (au o) ?_
 by_cases f:o<1
 ·refine Lv aG (gy f)<|av aG<|cB<|cB<|av aG<|av aG<|cB<|cB<|av aG<|av aG<|cB<|cB<|av aG<|aC<|aM<|ay<|av (aD 0)<|aC<|Wr<|sR<|aI (aD 0) ?_
  exact⟨congrArg (fun q=>Ending.returned (Value.int .u64 q)) (Eq.symm (by unfold jd; rw[if_neg (by omega)])),rfl⟩
 refine Lv aF (gD f)<|av aF<|av (au o) ?_
 by_cases g:6<o
 ·refine Lv aG (jY g)<|av aG<|av aG<|cB<|cB<|av aG<|av aG<|cB<|cB<|av aG<|aC<|aM<|ay<|av (aD 0)<|aC<|Wr<|sR<|aI (aD 0) ?_
  exact⟨congrArg (fun q=>Ending.returned (Value.int .u64 q)) (Eq.symm (by unfold jd; rw[if_neg (by omega)])),rfl⟩
 refine Lv aF (jZ g)<|av aF<|av aF<|av (aD a) ?_
 by_cases c:a<1
 ·refine Lv aG (gy c)<|av aG<|av aG<|cB<|cB<|av aG<|aC<|aM<|ay<|av (aD 0)<|aC<|Wr<|sR<|aI (aD 0) ?_
  exact⟨congrArg (fun q=>Ending.returned (Value.int .u64 q)) (Eq.symm (by unfold jd; rw[if_neg (by omega)])),rfl⟩
 refine Lv aF (gD c)<|av aF<|av aF<|av (aD a) ?_
 by_cases d:1099511627776<=a
 ·refine Lv aG (jv d)<|av aG<|aC<|aM<|ay<|av (aD 0)<|aC<|Wr<|sR<|aI (aD 0) ?_
  exact⟨congrArg (fun q=>Ending.returned (Value.int .u64 q)) (Eq.symm (by unfold jd; rw[if_neg (by omega)])),rfl⟩
 refine Lv aF (ji d)<|av aF<|aC<|aK<|Wk<|sN<|ay<|av (au o)<|Lv (aD o) (dw rfl rfl (by kernel_rfl) Tryz.underlying28 (jr (by omega) rfl))<|Lv (aD (1099511627776*o)) (Fx.Ik (b:=40) rfl rfl rfl (by decide) (jr (by omega) (by omega)))<|av (aD a)<|Lv (aD (1099511627776*o+a)) eZ<|av (aD (1099511627776*o+a))<|aC<|Wr<|aI (aD (1099511627776*o+a)) ?_
 exact⟨congrArg (fun q=>Ending.returned (Value.int .u64 q)) (Eq.symm (by unfold jd; rw[if_pos (by omega)])),rfl⟩
theorem X4(a:Option Addr)(n cap:Nat)(w:World) :
 Calls Tryz.prog 10 #[.slice a (n) (cap)] w fun e w'=>e = .returned (.bool (decide ((n:Int)<=60)))/\w'=w:=by
 refine Kent Tryz.func10 6 ?_
 refine ay<|av aF<|aC<|ay<|av (.slice a (n) (cap))<|av (au n) ?_
 by_cases b:(n:Int)<=60
 ·refine Lv aG (mD b)<|av aG<|aC<|Wr<|aI aG ?_
  exact⟨gP (Eq.symm (decide_eq_true b)),rfl⟩
 refine Lv aF (mV b)<|av aF<|aC<|Wr<|aI aF ?_
 exact⟨gP (Eq.symm (decide_eq_false b)),rfl⟩
section
theorem app0{s:Nat}{x y:Nat->Value}(j:Nat):gM x (0*s) y j=y j:=by unfold gM; rw[Nat.zero_mul,if_neg (Nat.not_lt_zero _)]; rfl
theorem tY(id par:Int)(R:Nat->Int)(j:Nat):(kQ id par R j).oneCell'=true:=by unfold kQ; split <;> (try split) <;> rfl
theorem KZ(id par:Int)(R:Nat->Int){q p:Nat}(h:q=p+2):kQ id par R q=au (R p):=by subst h; unfold kQ; rw[if_neg (by omega),if_neg (by omega),Nat.add_sub_cancel]
theorem rU(x:Nat->Int)(j:Nat):(iM x j).oneCell'=true:=by unfold iM; split <;> (try split) <;> rfl
theorem Ve(m:jK)(j:Nat):(H9 m j).oneCell'=true:=tY _ _ _ _
theorem Vf(m:jK)(j:Nat):(GK m j).oneCell'=true:=rU _ _
theorem Vg(m:CO)(j:Nat):(nH m j).oneCell'=true:=by unfold nH; repeat (first|rfl|split)
def rA(m:jK)(i:Nat):Value := .slice (m.ra i) (m.rn i) (m.rc i)
def uZ(w:World)(B k:Nat)(m:jK):Prop :=
 (∀ i,i<k->Fx.Own w B 28 1 (rA m i) (m.rn i) (rv .u64 (m.rq i))) /\ ∀ i j,i<k->j<k->i≠j -> ∀ g,(rA m i).ownBlock=some g->(rA m j).ownBlock≠some g
section
variable {w w':World} {B k:Nat} {m:jK}
theorem uZ.up(h:uZ w B k m)(a:Below w.heap.size w w'):uZ w' B k m:=⟨fun i b=>(h.1 i b).up a,h.2⟩
instance:Rt.Tr w w' (uZ w B k m) (uZ w' B k m):=⟨fun b h=>h.up b⟩
theorem uZ.jG{a:List TypeId}(h:uZ w B k m)(c:iG a w w')(d:a.contains 28=false):uZ w' B k m:=⟨fun i b=>(h.1 i b).jG c d,h.2⟩
instance {a:List TypeId}:Rt.Tc a w w' (uZ w B k m) (uZ w' B k m) (!(a.contains 28)):=⟨fun b h e=>h.jG b (by simpa using e)⟩
theorem uZ.zero(w:World)(B:Nat)(m:jK):uZ w B 0 m:=⟨fun _ h=>absurd h (Nat.not_lt_zero _),fun _ _ h=>absurd h (Nat.not_lt_zero _)⟩
theorem uZ.fresh(h:uZ w B k m){v:Value}(c:v = .slice none 0 0\/v.ownBlock=(Value.slice none 0 0).ownBlock\/v.ownBlock=some w.heap.size) : ∀ i,i<k -> ∀ g,(rA m i).ownBlock=some g->v.ownBlock≠some g:=fun i b g a e=>by
 have d:=((h.1 i b).ge a).2
 rcases c with rfl|e2|e2
 ·cases e
 ·rw[e]at e2; cases e2
 ·rw[e]at e2; have:=Option.some.inj e2; omega
theorem uZ.snoc{a:jK}(h:uZ w B k m)(c : ∀ i,i<k->rA a i=rA m i/\a.rn i=m.rn i/\a.rq i=m.rq i)(s:Fx.Own w B 28 1 (rA a k) (a.rn k) (rv .u64 (a.rq k)))(l : ∀ i,i<k -> ∀ g,(rA m i).ownBlock=some g->(rA a k).ownBlock≠some g):uZ w B (k+1) a:=by
 refine⟨fun i t => ?_,fun i j t u n g b => ?_⟩
 ·by_cases e:i=k
  ·subst e; exact s
  obtain⟨p,q,r⟩:=c i (by omega)
  rw[p,q,r]; exact h.1 i (by omega)
 by_cases o:i=k
 ·subst o
  by_cases d:j=i
  ·exact absurd d.symm n
  intro f
  rw[(c j (by omega)).1]at f
  exact l j (by omega) g f b
 rw[(c i (by omega)).1]at b
 by_cases d:j=k
 ·subst d; exact l i (by omega) g b
 rw[(c j (by omega)).1]; exact h.2 i j (by omega) (by omega) n g b
end
structure su(w:World)(B p:Nat)(m:jK):Prop where
 c:aP w p 27 (kJ m) 71
 n:Fx.Own w B 61 56 (.slice m.s.na m.s.nn m.s.nc) m.s.nn (H9 m)
 g:Fx.Own w B 66 5 (.slice m.s.ga m.s.gn m.s.gc) m.s.gn (GK m)
 tc:aP w m.tb 1 (fun _ => .slice m.ta m.tn m.tc) 123
 t:Fx.Own w B 128 2 (.slice m.ta m.tn m.tc) m.tn (Oj m.t)
 r:uZ w B 6 m
 pB:B<=p
 tB:B<=m.tb
 bn:m.s.nn<=1000
 bg:m.s.gn<=1000000
 bt:m.tn<=1000
 br : ∀ i,i<6->m.rn i<=1000000
section
variable {w w':World} {B p:Nat} {m:jK}
theorem su.ldg(h:su w B p m):Al w p m where
 c:=h.c.aH
 an:=h.n.arr
 ag:=h.g.arr
 tc:=h.tc.aH
 at2:=h.t.arr
 ar:=fun i a=>(h.r.1 i a).arr
 bn:=by have:=h.bn; omega
 bg:=h.bg
 bt:=by have:=h.bt; omega
 br:=h.br
theorem su.up(h:su w B p m)(a:Below w.heap.size w w'):su w' B p m := { h with c:=h.c.bZ (Sb a) (Nat.ne_of_lt h.c.lt),n:=h.n.up a,g:=h.g.up a,tc:=h.tc.bZ (Sb a) (Nat.ne_of_lt h.tc.lt),t:=h.t.up a,r:=h.r.up a }
instance:Rt.Tr w w' (su w B p m) (su w' B p m):=⟨fun b h=>h.up b⟩
def Jd:List Nat := [71,61,66,123,128,28]
theorem su.jG{e:List TypeId}(h:su w B p m)(b:iG e w w')(i:(Jd.all fun T => !e.contains T)=true):su w' B p m:=by
 have a : ∀ d∈Jd,e.contains d=false:=fun d f=>by
  have:=List.all_eq_true.1 i d f
  simpa using this
 exact { h with
  c:=h.c.jG b (a _ (by decide)),n:=h.n.jG b (a _ (by decide)),g:=h.g.jG b (a _ (by decide)),tc:=h.tc.jG b (a _ (by decide)),t:=h.t.jG b (a _ (by decide)),r:=h.r.jG b (a _ (by decide)) }
instance {a:List TypeId}:Rt.Tc a w w' (su w B p m) (su w' B p m) ((Jd.all fun T => !a.contains T)):=⟨fun b h e=>h.jG b (by simpa using e)⟩
theorem su.mono{b:Nat}(h:su w B p m)(a:b<=B):su w b p m := { h with n:=h.n.mono a,g:=h.g.mono a,t:=h.t.mono a,r:=⟨fun i c=>(h.r.1 i c).mono a,h.r.2⟩,pB:=Nat.le_trans a h.pB,tB:=Nat.le_trans a h.tB }
end
def Je(m:jK)(na:Option Addr)(nc:Nat)(ga:Option Addr)(gc tb:Nat)(ta:Option Addr)(tc:Nat)(ra:Nat->Option Addr)(rc:Nat->Nat)(k:Nat):jK :=
 { m with s := { m.s with na:=na,nc:=nc,ga:=ga,gc:=gc },tb:=tb,ta:=ta,tc:=tc,ra:=fun i=>if i<k then ra i else none,rn:=fun i=>if i<k then m.rn i else 0,rc:=fun i=>if i<k then rc i else 0 }
def aJ{a:Type}(f:Nat->a)(k:Nat)(v:a):Nat->a:=fun i=>if i=k then v else f i
section
variable {m:jK} {na:Option Addr} {nc:Nat} {ga:Option Addr} {gc tb:Nat} {ta:Option Addr} {tc:Nat} {ra:Nat->Option Addr} {rc:Nat->Nat} {k:Nat}
theorem Vh{q:Nat}(h:q=k+21):kJ (Je m na nc ga gc tb ta tc ra rc k) q = .slice none 0 0:=by
 subst h
 rw[uY (p:=k) _ rfl]
 show Value.slice (if k<k then ra k else none) (if k<k then m.rn k else 0) (if k<k then rc k else 0)=_
 rw[if_neg (Nat.lt_irrefl _),if_neg (Nat.lt_irrefl _),if_neg (Nat.lt_irrefl _)]
theorem xK{i:Nat}(h:i<k):rA (Je m na nc ga gc tb ta tc ra rc k) i = .slice (ra i) (m.rn i) (rc i):=by
 show Value.slice (if i<k then ra i else none) (if i<k then m.rn i else 0) (if i<k then rc i else 0)=_
 rw[if_pos h,if_pos h,if_pos h]
theorem Ry{a:Option Addr}{c q:Nat}(f:q=k+21):dz (kJ (Je m na nc ga gc tb ta tc ra rc k)) q (.slice a (m.rn k) c)=kJ (Je m na nc ga gc tb ta tc (aJ ra k a) (aJ rc k c) (k+1)):=by
 subst f
 funext p
 unfold dz
 by_cases e:p=k+21
 ·subst e; rw[if_pos rfl]
  rw[uY (p:=k) _ rfl]
  show _=Value.slice (if k<k+1 then aJ ra k a k else none) (if k<k+1 then m.rn k else 0) (if k<k+1 then aJ rc k c k else 0)
  simp[aJ]
 rw[if_neg e]
 unfold kJ
 by_cases h:p<20
 ·rw[if_pos h,if_pos h]; rfl
 rw[if_neg h,if_neg h]
 by_cases b:p=20
 ·rw[if_pos b,if_pos b]; rfl
 rw[if_neg b,if_neg b]
 show Value.slice (if p-21<k then ra (p-21)else none) (if p-21<k then m.rn (p-21)else 0) (if p-21<k then rc (p-21)else 0)=Value.slice (if p-21<k+1 then aJ ra k a (p-21)else none) (if p-21<k+1 then m.rn (p-21)else 0) (if p-21<k+1 then aJ rc k c (p-21)else 0)
 by_cases d:p-21<k
 ·simp[aJ,d,show p-21<k+1 by omega,show ¬ p-21=k by omega]
 simp[d,show ¬ p-21<k+1 by omega]
theorem Vi{w:World}{B:Nat}{a:Option Addr}{c:Nat}(h:uZ w B k (Je m na nc ga gc tb ta tc ra rc k))(e:Fx.Own w B 28 1 (.slice a (m.rn k) c) (m.rn k) (rv .u64 (m.rq k)))
 (f : ∀ i,i<k -> ∀ g,(rA (Je m na nc ga gc tb ta tc ra rc k) i).ownBlock=some g->(Value.slice a (m.rn k) c).ownBlock≠some g):uZ w B (k+1) (Je m na nc ga gc tb ta tc (aJ ra k a) (aJ rc k c) (k+1)):=by
 have b:rA (Je m na nc ga gc tb ta tc (aJ ra k a) (aJ rc k c) (k+1)) k = .slice a (m.rn k) c:=by
  rw[xK (by omega)]; unfold aJ; rw[if_pos rfl,if_pos rfl]
 refine h.snoc (fun i d=>⟨?_,?_,rfl⟩) ?_ ?_
 ·rw[xK (by omega),xK d]; unfold aJ; rw[if_neg (by omega),if_neg (by omega)]
 ·show(if i<k+1 then m.rn i else 0)=(if i<k then m.rn i else 0)
  rw[if_pos (by omega),if_pos d]
 ·rw[b]
  show Fx.Own w B 28 1 _ (if k<k+1 then m.rn k else 0) _
  rw[if_pos (by omega)]; exact e
 rw[b]; exact f
end
def atM(m:jK)(na:Option Addr)(nc:Nat)(ga:Option Addr)(gc tb:Nat)(ta:Option Addr)(tc:Nat)(ra:Nat->Option Addr)(rc:Nat->Nat):jK :=
 { m with s := { m.s with na:=na,nc:=nc,ga:=ga,gc:=gc },tb:=tb,ta:=ta,tc:=tc,ra:=ra,rc:=rc }
section
variable {m:jK} {na:Option Addr} {nc:Nat} {ga:Option Addr} {gc tb:Nat} {ta:Option Addr} {tc:Nat} {ra:Nat->Option Addr} {rc:Nat->Nat}
theorem adz : ∀ j,j<27->kJ (Je m na nc ga gc tb ta tc ra rc 6) j=kJ (atM m na nc ga gc tb ta tc ra rc) j:=fun j b=>by
 unfold kJ
 by_cases h:j<20
 ·rw[if_pos h,if_pos h]; rfl
 ·rw[if_neg h,if_neg h]
  by_cases a:j=20
  ·rw[if_pos a,if_pos a]; rfl
  ·rw[if_neg a,if_neg a]
   show Value.slice (if j-21<6 then ra (j-21)else none) (if j-21<6 then m.rn (j-21)else 0) (if j-21<6 then rc (j-21)else 0)=Value.slice (ra (j-21)) (m.rn (j-21)) (rc (j-21))
   rw[if_pos (by omega),if_pos (by omega),if_pos (by omega)]
theorem Vj{w:World}{B:Nat}(h:uZ w B 6 (Je m na nc ga gc tb ta tc ra rc 6)):uZ w B 6 (atM m na nc ga gc tb ta tc ra rc):=by
 refine⟨fun i a => ?_,fun i j a b d g c => ?_⟩
 ·have:=h.1 i a
  rw[xK a]at this
  have e:(Je m na nc ga gc tb ta tc ra rc 6).rn i=m.rn i:=by show(if i<6 then m.rn i else 0)=_; rw[if_pos a]
  rw[e]at this
  exact this
 have:=h.2 i j a b d g
 rw[xK a,xK b]at this
 exact this c
end
end
set_option maxRecDepth 20000 in
set_option maxHeartbeats 1000000 in
theorem ZH(m:jK)(p:Nat)(w:World)(h:Al w p m)(bn1:m.s.nn<=1000)(bt1:m.tn<=1000) :
 Calls Tryz.prog 53 #[(pt p)] w fun e w' => ∃ p' m',e = .returned ((pt p'))/\m'.core=m.core/\su w' w.heap.size p' m'/\Below w.heap.size w w':=by
 have N:=h.c
 have lp:p<w.heap.size:=N.lt (by omega)
 have bn:=h.bn
 have bg:=h.bg
 have bt:=h.bt
 have han:=h.an
 have hag:=h.ag
 have hat:=h.at2
 have htc:=h.tc
 have O9:m.tb<w.heap.size:=htc.lt (by omega)
 refine Kent Tryz.func53 79 ?_
 refine ay<|av (.pointer none)<|aC<|ay<|av ((pt p))<|av ((pt p))<|av ((pt p))<|Lv (.agg (aA 20 (nH m.s))) (fA N 0 (fun j hj=>(show kJ _ (0+j)=nH _ j by rw[Nat.zero_add]; exact jD _ hj rfl)))<|av (.agg (aA 1 (fun _ => .slice none 0 0)))<|pK fun b w1 kV m1 s1 z1 => ?_
 have⟨m2,m3,b1⟩:=jk s1.old N htc (Below.refl w.heap.size w)
 have tL:=gH kV
 have mH:p≠b:=by rw[kV]; exact Nat.ne_of_lt (N.lt (by omega))
 have X5:m.tb≠b:=by rw[kV]; exact Nat.ne_of_lt (htc.lt (by omega))
 have vR:=m1.lt
 refine av (.agg (aA 27 (bG (bG (fun o=>if o<12 then .bool false else if o<18 then aD 0 else if o<20 then .slice none 0 0 else if o<21 then .pointer none else .slice none 0 0) 0 20 (nH m.s)) 20 1 (fun _=>(pt b)))))<|Dl (m:=27) (y:=bG (bG (fun o=>if o<12 then .bool false else if o<18 then aD 0 else if o<20 then .slice none 0 0 else if o<21 then .pointer none else .slice none 0 0) 0 20 (nH m.s)) 20 1 (fun _=>(pt b))) (by rfl) rfl rfl (bJ _ _) rfl fun a w2 V m4 s2 z2 => ?_
 have⟨m5,m6,m7,b2⟩:=mF s2.old m2 m3 m1 b1
 have qO:=jc V b1.size
 have X6:p≠a:=by rw[V]; exact Nat.ne_of_lt (m2.lt (by omega))
 have adA:m.tb≠a:=by rw[V]; exact Nat.ne_of_lt (m3.lt (by omega))
 have Rz:=bY V m1.lt
 have zJ:=m4.lt
 refine av ((pt a))<|aC<|ay<|av ((pt a))<|Fx.L.Gq (s:=56) (by rfl) rfl Tryz.underlying50 (by kernel_rfl) rfl fun g3 w3 yT ZI s3 => ?_
 have P:Fx.Own w3 w.heap.size 61 56 (bI g3 0 0) 0 (H9 m):=ZI _ _ (by rw[yT]; exact b2.size)
 have⟨m9,m10,m11,m12,S⟩:=qm s3.old m5 m6 m7 m4 b2
 refine av ((pt p))<|av ((pt p))<|av ((pt p))<|av ((pf p 18))<|Lv (.slice m.s.na (m.s.nn) (m.s.nc)) (aL m9 18)<|Fx.L.Au (B:=w.heap.size) (s:=56) (bytes:=448) (k:=0) (m:=m.s.nn) (v:=bI g3 0 0) (x:=H9 m) (by rfl) rfl rfl rfl Tryz.underlying50 (by kernel_rfl) (by kernel_rfl) rfl rfl P (han.up S rfl) (fun j _=>Ve m j) (by omega) (by omega) S.size fun vv1 w4 ho1 X tJ => ?_
 rw[Nat.zero_add]at ho1
 obtain⟨C,E,rfl⟩:=ho1.val
 have gI:=yL X P
 have m14:=m9.grown X (P.not (by omega))
 have m15:=m10.grown X (P.not (by omega))
 have⟨m16,m17⟩:=Az gI m11 m12
 have m13:Fx.Own w4 w.heap.size 61 56 (.slice C (m.s.nn) (E)) m.s.nn (H9 m):=(ho1.congr (fun j _=>app0 j))
 have b4:Below w.heap.size w w4:=xR S X S.size (fun q l=>(P.ge l).1)
 refine av ((pt a))<|av ((pt a))<|av ((pf a 18))<|iQ m17 18 (.slice C (m.s.nn) (E)) fun w5 m18 s4 z3 => ?_
 have m19:=m14.bZ s4 (by omega)
 have m20:=m15.bZ s4 (by omega)
 have jN:=gY s4 m17.ty
 have⟨m21,m22⟩:=Az jN m16 m13
 have b5:=s4.below b4 b4.size (by omega)
 refine aC<|ay<|av ((pt a))<|Fx.L.Gq (s:=5) (by rfl) rfl Tryz.underlying51 (by kernel_rfl) rfl fun g4 w6 KJ hO2 s5 => ?_
 have O:Fx.Own w6 w.heap.size 66 5 (bI g4 0 0) 0 (GK m):=hO2 _ _ (by rw[KJ]; exact b5.size)
 have⟨m24,lW,mR,nY,nT,T⟩:=qo s5.old m19 m20 m21 m22 m18 b5
 refine av ((pt p))<|av ((pt p))<|av ((pt p))<|av ((pf p 19))<|Lv (.slice m.s.ga (m.s.gn) (m.s.gc)) (aL m24 19)<|Fx.L.Au (B:=w.heap.size) (s:=5) (bytes:=40) (k:=0) (m:=m.s.gn) (v:=bI g4 0 0) (x:=GK m) (by rfl) rfl rfl rfl Tryz.underlying51 (by kernel_rfl) (by kernel_rfl) rfl rfl O (hag.up T rfl) (fun j _=>Vf m j) (by omega) (by omega) T.size fun vv2 w7 ho2 Y Jc => ?_
 rw[Nat.zero_add]at ho2
 obtain⟨D,F,rfl⟩:=ho2.val
 have qy:=yL Y O
 have nE:=m24.grown Y (O.not (by omega))
 have lH:=lW.grown Y (O.not (by omega))
 have⟨m32,oI,nG⟩:=EK qy mR nY nT
 have oF:Fx.Own w7 w.heap.size 66 5 (.slice D (m.s.gn) (F)) m.s.gn (GK m):=(ho2.congr (fun j _=>app0 j))
 have b7:Below w.heap.size w w7:=xR T Y T.size (fun q l=>(O.ge l).1)
 refine av ((pt a))<|av ((pt a))<|av ((pf a 19))<|iQ nG 19 (.slice D (m.s.gn) (F)) fun w8 oJ s6 z4 => ?_
 have pO:=nE.bZ s6 (by omega)
 have qL:=lH.bZ s6 (by omega)
 have yQ:=gY s6 nG.ty
 have⟨qM,pQ,qW⟩:=EK yQ m32 oI oF
 have b8:=s6.below b7 b7.size (by omega)
 refine aC<|Ws ?_
 -- region 4 draws
 refine Ak [0,1,2,4,5,6,11,12,13,3,7,8,9,10,14,15,16,17,18,19,20,21] [0,0,0,1,0,0,0,4,0,0,4,0,0,0,4,0,0,4,2,0,0,3] (iG [128]) vP Fx.iG.trans (fu := [(21,3,[3]),(18,7,[10,9,8,7]),(21,7,[7]),(18,10,[10]),(21,10,[10]),(18,14,[17,16,15,14]),(21,14,[14]),(18,17,[17]),(21,17,[17]),(19,18,[18]),(20,18,[18]),(21,18,[18])]) (by kernel_rfl) (by kernel_rfl) (by kernel_rfl) (by kernel_rfl) (by kernel_rfl) fun I dL gU => ?_
 have⟨mW,lY,lX,qX,oZ,mX,U⟩:=jl dL pO qL qM pQ qW oJ b8
 refine aV ((pt a))<|aV ((pt a))<|aV ((pf a 20))<|aV ((pt a))<|aV ((pt a))<|aV ((pf a 20))<|aV ((pt p))<|aV ((pt p))<|aV ((pf p 20))<|Rd (v:=(pt b)) (by rfl) (by rfl) (vP _) (fun v1 hv1=>bC (x:=dz (dz (bG (bG (fun o=>if o<12 then .bool false else if o<18 then aD 0 else if o<20 then .slice none 0 0 else if o<21 then .pointer none else .slice none 0 0) 0 20 (nH m.s)) 20 1 (fun _=>(pt b))) 18 (.slice C (m.s.nn) (E))) 19 (.slice D (m.s.gn) (F))) rfl rfl (by kernel_rfl) (mX.jG hv1 (by decide)).aH (i:=20) (by omega) (by omega) (Fx.zx (by omega) (Fx.zx (by omega) (Fx.oG (j:=0) (by omega) (by omega) rfl)))) ?_
 refine Rs ((pt b)) (aL mX.aH 20 (Fx.zx (by omega) (Fx.zx (by omega) (Fx.oG (j:=0) (by omega) (by omega) rfl)))) ?_
 refine aV ((pt b))<|aV ((pt b))<|Rs (.slice none 0 0) (aL lX.aH 0) ?_
 refine Rs ((pt m.tb)) (aL mW 20) ?_
 refine aV ((pt m.tb))<|aV ((pt m.tb))<|Rs (.slice m.ta (m.tn) (m.tc)) (aL lY 0) ?_
 refine zC<|Fx.L.Au (B:=w.heap.size) (s:=2) (bytes:=16) (k:=0) (m:=m.tn) (v := .slice none 0 0) (x:=Oj m.t) (by rfl) rfl rfl rfl Tryz.underlying121 (by kernel_rfl) (by kernel_rfl) rfl rfl (wB I w.heap.size 128 2 (Oj m.t)) (hat.up U rfl) (fun _ _=>rfl) (by omega) (by omega) U.size fun vv3 w9 ho3 A arT => ?_
 rw[Nat.zero_add]at ho3
 obtain⟨u,z,rfl⟩:=ho3.val
 have xU:=yL A (wB I w.heap.size 128 2 (Oj m.t))
 have hq1:Below I.heap.size I w9:=⟨A.os,A.tape,A.output,A.size,fun q l=>A.block q l (fun e=>by cases e)⟩
 have vU:=mW.bZ (Sb hq1) (Nat.ne_of_lt (mW.lt (by omega)))
 have hq2:Below I.heap.size I w9:=⟨A.os,A.tape,A.output,A.size,fun q l=>A.block q l (fun e=>by cases e)⟩
 have qY:=lY.bZ (Sb hq2) (Nat.ne_of_lt (lY.lt (by omega)))
 have⟨qZ,uw,uS,rZ⟩:=KE xU lX qX oZ mX
 have rM:Fx.Own w9 w.heap.size 128 2 (.slice u (m.tn) (z)) m.tn (Oj m.t):=(ho3.congr (fun j _=>app0 j))
 have b10:Below w.heap.size w w9:=xR U A U.size (fun q l=>((wB I w.heap.size 128 2 (Oj m.t)).ge l).1)
 refine Ln ⟨xU,?_⟩
 refine aV ((pt b))<|aV ((pt b))<|fQ<|iQ qZ 0 (.slice u (m.tn) (z)) fun rJ sP s8 z5 => ?_
 have wP:aP rJ b 1 (fun _ => .slice u (m.tn) (z)) 123:=dH sP
 have sQ:=vU.bZ s8 (by omega)
 have sS:=qY.bZ s8 (by omega)
 have xV:=gY s8 qZ.ty
 have⟨rO,vV,pR,vW⟩:=KE xV uw uS rZ rM
 have b11:=s8.below b10 b10.size (by omega)
 refine Ln<|bM<|Ws<|ay<|av (au 0)<|aC<|Wb ?_
 have mU:aP rJ a 27 (kJ (Je m C E D F b u z (fun _=>none) (fun _=>0) 0)) 71:=pR.congr (fun j hj=>by rcases j with _|_|_|_|_|_|_|_|_|_|_|_|_|_|_|_|_|_|_|_|_|_|_|_|_|_|_|j <;> first|rfl|omega)
 have qN:=uZ.zero rJ w.heap.size (Je m C E D F b u z (fun _=>none) (fun _=>0) 0)
 refine Wo (fun f H => ∃ k:Nat,∃ ra:Nat->Option Addr,∃ rc:Nat->Nat,k<=6/\f 0=(pt p)/\f 3=(pt a)/\f 4=au ((k:Int))/\iF H p 0 27 (kJ m)/\Fx.Own H w.heap.size 61 56 (.slice C (m.s.nn) (E)) m.s.nn (H9 m)/\Fx.Own H w.heap.size 66 5 (.slice D (m.s.gn) (F)) m.s.gn (GK m)/\Fx.Own H w.heap.size 128 2 (.slice u (m.tn) (z)) m.tn (Oj m.t)/\aP H b 1 (fun _ => .slice u (m.tn) (z)) 123/\aP H a 27 (kJ (Je m C E D F b u z ra rc k)) 71/\uZ H w.heap.size k (Je m C E D F b u z ra rc k)/\Below w.heap.size w H) (fun f _=>(6-(intOf (f 4)).toNat)) ⟨0,(fun _=>none),(fun _=>0),by omega,(by rfl),(by rfl),Fx.ic,sQ,rO,vV,vW,wP,mU,qN,b11⟩ ?_
 rintro f1 DI ⟨k,ra,rc,hk,h1,W,J,m64,wm,uy,uz,sj,ru,sU,b12⟩
 refine Ws<|ay<|aS J ?_
 by_cases c57:(k:Int)<6
 ·refine Lv aG (gy c57)<|aC<|aM<|Wk<|sN<|Ws<|Wb ?_
  have brk:=h.br k (by omega)
  have sV:=N.below b12 lp
  -- region 8 draws
  refine Ak [0,1,2,3,4,5,6,8,9,10,11,12,15,16,7,13,14,17,18] [0,0,0,0,0,0,0,4,0,0,0,0,0,4,2,0,0,0,3] (iG [28]) vP Fx.iG.trans (fu := [(14,7,[7]),(18,7,[7]),(14,13,[13]),(18,13,[13]),(17,14,[14]),(18,14,[14])]) (by kernel_rfl) (by kernel_rfl) (by kernel_rfl) (by kernel_rfl) (by kernel_rfl) fun G fG lQ => ?_
  have⟨uD,sZ,yB,uE,wQ,wF,wR,vX,R⟩:=Ay fG m64 wm uy uz sj ru sU sV b12
  refine bQ W<|bQ J<|bQ W<|bQ J<|aV ((pt a))<|aV ((pf a 21))<|Rp ((pf a (k+21))) (fun _=>je 6 1)<|bQ h1<|bQ J<|aV ((pt p))<|aV ((pf p 21))<|Rp ((pf p (k+21))) (fun _=>je 6 1)<|aV ((pt a))<|aV ((pf a 21))<|Rs (.slice none 0 0) (aL wF.aH (k+21) (Vh (by omega))) ?_
  refine Rs (.slice (m.ra k) ((m.rn k)) ((m.rc k))) (aL uD (k+21) (uY _ (by omega))) ?_
  refine zC<|Fx.L.Au (B:=w.heap.size) (s:=1) (bytes:=8) (k:=0) (m:=(m.rn k)) (v := .slice none 0 0) (x:=rv .u64 (m.rq k)) (by rfl) rfl rfl rfl Tryz.underlying63 (by kernel_rfl) (by kernel_rfl) rfl rfl (wB G w.heap.size 28 1 (rv .u64 (m.rq k))) ((h.ar k (by omega)).up R rfl) (fun _ _=>rfl) (by omega) (by omega) R.size fun vv4 Q ho4 d aik => ?_
  rw[Nat.zero_add]at ho4
  obtain⟨K,M,rfl⟩:=ho4.val
  have zM:=yL d (wB G w.heap.size 28 1 (rv .u64 (m.rq k)))
  have hq3:Below G.heap.size G Q:=⟨d.os,d.tape,d.output,d.size,fun q l=>d.block q l (fun e=>by cases e)⟩
  have tN:=uD.bZ (Sb hq3) (Nat.ne_of_lt (uD.lt (by omega)))
  have⟨wo,xW,wu,yR,yC⟩:=qp zM sZ yB uE wQ wF
  have hq4:Below G.heap.size G Q:=⟨d.os,d.tape,d.output,d.size,fun q l=>d.block q l (fun e=>by cases e)⟩
  have xX:=wR.up hq4
  have hq5:Below G.heap.size G Q:=⟨d.os,d.tape,d.output,d.size,fun q l=>d.block q l (fun e=>by cases e)⟩
  have xG:=vX.bZ (Sb hq5) (Nat.ne_of_lt (vX.lt (by omega)))
  have uT:Fx.Own Q w.heap.size 28 1 (.slice K ((m.rn k)) (M)) (m.rn k) (rv .u64 (m.rq k)):=(ho4.congr (fun j _=>app0 j))
  have b14:Below w.heap.size w Q:=xR R d R.size (fun q l=>((wB G w.heap.size 28 1 (rv .u64 (m.rq k))).ge l).1)
  have hf1:=wR.fresh aik
  refine Ln ⟨zM,?_⟩
  refine Rp ((pf a (k+21))) (fun _=>je 6 1)<|fQ<|iQ yC (k+21) (.slice K ((m.rn k)) (M)) fun EN xY Z z6 => ?_
  have yS:=tN.bZ Z (by omega)
  have DT:=gY Z yC.ty
  have⟨Ci,AZ,zN,zO,xL⟩:=qp DT wo xW wu yR xX
  have Ck:=xG.bZ Z (by omega)
  have A8:=kR DT uT
  have b15:=Z.below b14 b14.size (by omega)
  refine Ln<|Rn<|bP<|sN<|Wl<|aS J<|Lv (au ((k:Int)+1)) eZ<|av (au ((k:Int)+1))<|Ln ?_
  have CS:aP EN a 27 (kJ (Je m C E D F b u z (aJ ra k K) (aJ rc k M) (k+1))) 71:=xY.to (Ry (by omega))
  have DU:uZ EN w.heap.size (k+1) (Je m C E D F b u z (aJ ra k K) (aJ rc k M) (k+1)):=Vi xL A8 hf1
  skip
  refine gJ ⟨k+1,(aJ ra k K),(aJ rc k M),by omega,h1,W,Fx.ic,yS,Ci,AZ,zN,zO,CS,DU,b15⟩ ?_
  show(6-(intOf ((au ((k:Int)+1)))).toNat)<_
  simp only[J,intOf]; omega
 refine Lv aF (gD c57)<|aC<|aK<|Wx<|bV<|fU<|bW<|sN<|ay<|aS W<|av ((pt a))<|aC<|Wr<|aI ((pt a)) ?_
 have ek:k=6:=by omega
 subst ek
 exact⟨a,atM m C E D F b u z ra rc,rfl,rfl,{ c:=ru.congr adz,n:=wm,g:=uy,tc:=sj,t:=uz,r:=Vj sU,pB:=qO,tB:=tL,bn:=bn1,bg:=bg,bt:=bt1,br:=h.br },b12⟩
namespace Rt
def mM(id:Nat->Int)(o:Int):Nat->Nat
 | 0=>0
 | n+1=>mM id o n+if id n / 1099511627776=o then 1 else 0
theorem RA{id:Nat->Int}{o:Int}{c k:Nat}(h:c=mM id o k)(e:id k / 1099511627776=o):c+1=mM id o (k+1):=by unfold mM; rw[if_pos e,h]
theorem Vk{id:Nat->Int}{o:Int}{c k:Nat}(h:c=mM id o k)(e : ¬ id k / 1099511627776=o):c=mM id o (k+1):=by unfold mM; rw[if_neg e,h]; rfl
noncomputable def jE(L:gV)(v:EvM):Int:=if 5<=mM L.id v.o L.nn\/140737488355328<v.aX then 6 else iR L.t L.tn (jd v.o v.seq) v.node
def qC(f:Nat->Int)(n:Nat)(x:Int):Nat:=down (fun i=>decide (x<f i)) n
def oM(L:gV)(v:EvM):gV :=
 { L with nn:=L.nn+1,id:=bX L.id (qC L.id L.nn (jd v.o v.seq)) (jd v.o v.seq),par:=bX L.par (qC L.id L.nn (jd v.o v.seq)) v.node,
          R:=bX L.R (qC L.id L.nn (jd v.o v.seq)) (upd (fun _=>0) (v.o-1).toNat v.aX),
          tn:=L.tn+1,t:=nI L.t (down (fun i=>decide (jd v.o v.seq<L.t i 0)) L.tn) (jd v.o v.seq) v.node }
theorem RB{id par:Int}(j:Nat):bG (bG (fun c=>if c<2 then aD 0 else au 0) 0 1 (fun _=>aD id)) 1 1 (fun _=>aD par) j=kQ id par (fun _=>0) j:=by
 unfold bG kQ
 by_cases a:j=0
 ·subst a; rfl
 by_cases b:j=1
 ·subst b; rfl
 rw[if_neg (by omega),if_neg (by omega),if_neg a,if_neg b]; show(if j<2 then _ else _)=_; rw[if_neg (by omega)]
theorem MK{id par:Int}{R:Nat->Int}{a q:Nat}{x:Int}(d:q=a+2):dz (kQ id par R) q (au x)=kQ id par (upd R a x):=by
 subst d
 funext p
 unfold dz kQ upd
 by_cases h:p=a+2
 ·subst h; rw[if_pos rfl,if_neg (by omega),if_neg (by omega),if_pos (by omega)]
 rw[if_neg h]
 by_cases b:p=0
 ·rw[if_pos b,if_pos b]
 by_cases c:p=1
 ·rw[if_neg b,if_pos c,if_neg b,if_pos c]
 rw[if_neg b,if_neg c,if_neg b,if_neg c,if_neg (by omega)]
theorem ML{id par:Nat->Int}{R:Nat->Nat->Int}{k:Nat}{a b:Int}{c:Nat->Int}:Fx.Gs (fun d=>kQ (id d) (par d) (R d)) k (kQ a b c)=fun d=>kQ (bX id k a d) (bX par k b d) (bX R k c d):=by
 funext i
 unfold Fx.Gs bX
 by_cases h:i<k
 ·simp only[if_pos h]
 by_cases e:i=k
 ·simp only[if_neg h,if_pos e]
 simp only[if_neg h,if_neg e]
theorem FI(m:jK)(a:Option Addr)(n c:Nat):dz (kJ m) 18 (.slice a n c)=kJ { m with s := { m.s with na:=a,nn:=n,nc:=c } }:=by
 funext p
 unfold dz kJ
 by_cases h:p=18
 ·subst h; rfl
 rw[if_neg h]
 by_cases e:p<20
 ·rw[if_pos e,if_pos e]; unfold nH
  by_cases b:p<6
  ·rw[if_pos b,if_pos b]
  by_cases d:p<12
  ·rw[if_neg b,if_pos d,if_neg b,if_pos d]
  by_cases f:p<18
  ·rw[if_neg b,if_neg d,if_pos f,if_neg b,if_neg d,if_pos f]
  rw[if_neg b,if_neg d,if_neg f,if_neg h,if_neg b,if_neg d,if_neg f,if_neg h]
 rw[if_neg e,if_neg e]
theorem xM{s:Nat}{z y:Nat->Value}(hy : ∀ j,(y j).oneCell'=true) : ∀ j,j<1*s->(bG z (0*s) s y j).oneCell'=true:=fun j a=>by
 unfold bG; rw[if_pos (by omega)]; exact hy _
theorem RD{f:Nat->Int}{n k j:Nat}{x:Int}(e:k=j+1)(h : ∀ i,k<=i->i<n->x<f i)(c:x<f j) : ∀ i,j<=i->i<n->x<f i:=fun i d b=>by
 by_cases a:i=j
 ·subst a; exact c
 ·exact h i (by omega) b
end Rt
theorem Rt.Jf{t:Nat->Nat->Int}{tn:Nat}{id par:Int}(h:iR t tn id par=0):tn+1<=33:=by
 unfold iR at h
 split at h; · cases h
 split at h; · cases h
 split at h; · cases h
 split at h; · cases h
 rename_i h4
 rcases Nat.lt_or_ge tn 32 with h5|h5
 ·omega
 exact absurd (Or.inl h5) h4
set_option maxRecDepth 20000 in
set_option maxHeartbeats 2000000 in
theorem Vl(m:jK)(B p a D:Nat)(v:EvM)(w:World)(C:su w B p m)(u:B<=w.heap.size)(ha:a<6)(ho:v.o=(a:Int)+1)(bnn:m.s.nn<=900)(hD:bB m.t m.tn (bf m.t m.tn D v.node)<0)(hD2:D<=1000) :
 Calls Tryz.prog 78 #[(pt p),.agg (aA 14 (bO v))] w fun e w'=>e = .returned (au (jE m.core v))/\Below B w w'/\(jE m.core v=0 -> ∃ m',m'.core=oM m.core v/\su w' B p m'):=by
 have RF:=C.c
 have hLn:=C.n
 have hLg:=C.g
 have RG:=C.tc
 have RH:=C.t
 have hLr:=C.r
 have RI:=C.pB
 have Cm:=C.tB
 have bn:=C.bn
 have bg:=C.bg
 have bt:=C.bt
 have ZJ:p<w.heap.size:=RF.lt
 have O9:m.tb<w.heap.size:=RG.lt
 refine Kent Tryz.func78 132 ?_
 refine ay<|pK fun I w1 kV m1 s1 z1 => ?_
 have⟨m2,m3,m4,m5,m6,m7⟩:=qo s1.old RF hLn hLg RG RH hLr
 have b1:=dX s1.old (Below.refl B w) u
 have tL:=jc kV (Below.refl B w).size
 have⟨mH,vZ⟩:=wM kV RF.lt RG.lt
 have vR:=m1.lt
 refine av (au 0)<|aC<|ay<|av (au 0)<|aC<|Ws<|ay<|av (au 0)<|aC<|Wb<|Wo (fun f z => ∃ k:Nat,∃ G:Nat,k<=m.s.nn/\G<=k/\G=mM m.id v.o k/\f 0=(pt p)/\f 3=(pt I)/\f 5=au ((G:Int))/\f 6=au ((k:Int))/\aP z p 27 (kJ m) 71/\Fx.Own z B 61 56 (.slice m.s.na (m.s.nn) (m.s.nc)) m.s.nn (H9 m)/\Fx.Own z B 66 5 (.slice m.s.ga (m.s.gn) (m.s.gc)) m.s.gn (GK m)/\aP z m.tb 1 (fun _ => .slice m.ta m.tn m.tc) 123/\Fx.Own z B 128 2 (.slice m.ta (m.tn) (m.tc)) m.tn (Oj m.t)/\uZ z B 6 m/\aP z I 14 (bO v) 32/\Below B w z) (fun f _=>(m.s.nn-(intOf (f 6)).toNat)) ⟨0,0,by omega,by omega,rfl,(by rfl),(by rfl),Fx.ic,Fx.ic,m2,m3,m4,m5,m6,m7,m1,b1⟩ ?_
 rintro f1 O ⟨k,G,hk,hcl,aa,J,K,h3,Y,m8,m9,m10,m11,m12,m13,W,b2⟩
 refine Ws<|ay<|aS Y<|aS J<|av ((pt p))<|av ((pt p))<|av ((pf p 18))<|Lv (.slice m.s.na (m.s.nn) (m.s.nc)) (aL m8.aH 18)<|av (au m.s.nn) ?_
 by_cases c18:(k:Int)<(m.s.nn:Int)
 ·refine Lv aG (gy c18)<|aC<|aM<|Wk<|sN<|Ws<|Wb<|Ws ?_
  -- region 5 draws
  refine wh<|dS J<|aR ((pt p))<|aR ((pt p))<|aR ((pf p 18))<|Qv (.slice m.s.na (m.s.nn) (m.s.nc)) (fun F E=>aL (m8.aH.dr E) 18)<|dS Y ?_
  obtain⟨BK,eq1⟩:=m9.addr (by omega)
  have m15:Fx.Own O B 61 56 (bI BK m.s.nn m.s.nc) m.s.nn (H9 m):=m9.dU (congrArg (fun q=>Value.slice q m.s.nn m.s.nc) eq1)
  refine Qv ((pf BK (56*k))) (fun F E=>cu 56 (hx:=(rfl.trans (congrArg (fun q=>Value.slice q (m.s.nn) (m.s.nc)) eq1))))<|aR ((pf BK (56*k)))<|Qv (aD (m.id k)) (fun F E=>aL (m15.aH.dr E) (56*k) (Fx.gW (k:=k) (j:=0) (by omega) (by omega) rfl))<|Qv (aD ((m.id k) / 1099511627776)) (fun F E=>Fx.XA (b:=40) (q:=1099511627776) rfl rfl rfl (by decide) (by decide))<|Qv ((pt I)) (fun F E=>iN K 0)<|Qv (au v.o) (fun F E=>aL (W.aH.dr E) 0)<|Qv (aD v.o) (fun F E=>dw rfl rfl (by kernel_rfl) Tryz.underlying28 (jr (by omega) rfl)) ?_
  by_cases c34:((m.id k) / 1099511627776)=v.o
  ·refine Qv aG (fun F E=>eP c34)<|Qn ?_
   rintro _ ⟨qd,rfl⟩
   obtain⟨BI,qD⟩ : ∃ F,F=World.drewN O qd:=⟨_,rfl⟩
   rw[<- qD]
   have s2:Stp O.heap.size O BI:=by rw[qD]; exact Sb (iU O qd)
   have⟨m16,m17,m18,m19,m20,m21,m22⟩:=jl s2.old m8 m10 m11 m12 m13 W m15
   have b3:=dX s2.old b2 u
   clear qD
   refine sN<|aM<|Wl<|aS h3<|Lv (au ((G:Int)+1)) eZ<|av (au ((G:Int)+1))<|Ln<|bP<|sN<|Wl<|aS Y<|Lv (au ((k:Int)+1)) eZ<|av (au ((k:Int)+1))<|Ln ?_
   have m23:Fx.Own BI B 61 56 (.slice m.s.na (m.s.nn) (m.s.nc)) m.s.nn (H9 m):=m22.dU (congrArg (fun q=>Value.slice q m.s.nn m.s.nc) eq1.symm)
   refine gJ ⟨k+1,G+1,by omega,by omega,(RA aa c34),J,K,Fx.ic,Fx.ic,m16,m23,m17,m18,m19,m20,m21,b3⟩ ?_
   show(m.s.nn-(intOf ((au ((k:Int)+1)))).toNat)<_
   simp only[Y,intOf]; omega
  refine Qv aF (fun F E=>fF c34)<|Qn ?_
  rintro _ ⟨qd,rfl⟩
  obtain⟨wq2,vg⟩ : ∃ F,F=World.drewN O qd:=⟨_,rfl⟩
  rw[<- vg]
  have s3:Stp O.heap.size O wq2:=by rw[vg]; exact Sb (iU O qd)
  have⟨m24,lW,mR,nY,nT,oF,nE⟩:=jl s3.old m8 m10 m11 m12 m13 W m15
  have b4:=dX s3.old b2 u
  clear vg
  refine sN<|aK<|Wk<|bP<|sN<|Wl<|aS Y<|Lv (au ((k:Int)+1)) eZ<|av (au ((k:Int)+1))<|Ln ?_
  have lH:Fx.Own wq2 B 61 56 (.slice m.s.na (m.s.nn) (m.s.nc)) m.s.nn (H9 m):=nE.dU (congrArg (fun q=>Value.slice q m.s.nn m.s.nc) eq1.symm)
  refine gJ ⟨k+1,G,by omega,by omega,(Vk aa c34),J,K,(h3.trans Fx.ic),Fx.ic,m24,lH,lW,mR,nY,nT,oF,b4⟩ ?_
  show(m.s.nn-(intOf ((au ((k:Int)+1)))).toNat)<_
  simp only[Y,intOf]; omega
 refine Lv aF (gD c18)<|aC<|aK<|Wx<|bV<|fU<|bW<|sN<|Ws<|ay<|aS h3 ?_
 by_cases c38:5<=(G:Int)
 ·refine Lv aG (jv c38)<|av aG<|cB<|cB<|cB<|av aG<|aC<|aM<|ay<|av (au 6)<|aC<|Wr<|sR<|aI (au 6) ?_
  have N:k=m.s.nn:=by omega
  subst N
  have H:jE m.core v=6:=if_pos (.inl (by rw[show mM m.core.id v.o m.core.nn=G from aa.symm]; omega))
  exact⟨nD H.symm,b2,fun U=>by rw[H]at U; cases U⟩
 refine Lv aF (ji c38)<|av aF<|Lv ((pf I 11)) (iN K 11)<|Lv (au v.aX) (aL W.aH 11) ?_
 by_cases Qm:140737488355328<v.aX
 ·refine Lv aG (jY Qm)<|av aG<|aC<|aM<|ay<|av (au 6)<|aC<|Wr<|sR<|aI (au 6) ?_
  have N:k=m.s.nn:=by omega
  subst N
  have H:jE m.core v=6:=if_pos (.inr (by omega))
  exact⟨nD H.symm,b2,fun U=>by rw[H]at U; cases U⟩
 refine Lv aF (jZ Qm)<|av aF<|aC<|aK<|Wk<|sN<|ay<|Lv ((pt I)) (iN K 0)<|Lv (au v.o) (aL W.aH 0)<|Lv ((pf I 1)) (iN K 1)<|Lv (aD v.seq) (aL W.aH 1)<|kg (aif v.o v.seq _) _ rfl<|av (aD (jd v.o v.seq))<|aC<|Ws ?_
 -- region 10 draws
 refine jo [0,1,2,4,5,3,6,7,8] [0,0,0,4,0,0,4,3,0] [(7,3,[3]),(7,6,[6]),(8,7,[7])] fun oU dL gU => ?_
 have⟨m32,oI,nG,oJ,pO,qL,qM⟩:=jl dL m8 m9 m10 m11 m12 m13 W
 have b5:=dX dL b2 u
 refine bQ J<|aV ((pt p))<|aV ((pf p 20))<|aV (aD (jd v.o v.seq))<|Rp ((pf I 9)) (fun _=>iN K 9)<|Rs ((pt m.tb)) (aL m32.aH 20) ?_
 refine Rs (aD v.node) (aL qM.aH 9) ?_
 refine fQ<|dA (adv B m.tb m.ta m.tn m.tc m.t (jd v.o v.seq) v.node D _ oJ pO (fun e=>Fx.Ty.ne (pO.ty e) oJ.ty (by decide) rfl) (Nat.le_trans u b5.size) bt hD hD2) _ rfl ?_
 rintro X ⟨adD,hcs1⟩
 have hc1:iG [123,128] oU X:=Fx.iG.PN adD (by rintro k (rfl|e) <;> first|exact⟨_,oJ.ty,by decide⟩|exact⟨_,pO.ty e,by decide⟩)
 have pQ:aP X p 27 (kJ m) 71:=m32.jG hc1 (by decide)
 have qW:Fx.Own X B 61 56 (.slice m.s.na (m.s.nn) (m.s.nc)) m.s.nn (H9 m):=oI.jG hc1 (by decide)
 have mW:Fx.Own X B 66 5 (.slice m.s.ga (m.s.gn) (m.s.gc)) m.s.gn (GK m):=nG.jG hc1 (by decide)
 have lY:uZ X B 6 m:=qL.jG hc1 (by decide)
 have lX:aP X I 14 (bO v) 32:=qM.jG hc1 (by decide)
 have b6:Below B w X:=Fx.jB.below b5 adD (by rintro k (rfl|e) <;> first|exact Cm|exact(pO.ge e).1) (Nat.le_trans u b5.size)
 rcases hcs1 with ⟨Q,hT1,ZI⟩|⟨Q,g9,Vm,hT1,ZI,hne1⟩
 ·refine Ln<|aV (au (iR m.t m.tn (jd v.o v.seq) v.node))<|bM<|Ws<|ay<|av (au (iR m.t m.tn (jd v.o v.seq) v.node))<|Lv aG (mE Q)<|aC<|aM<|ay<|av (au (iR m.t m.tn (jd v.o v.seq) v.node))<|av (au (iR m.t m.tn (jd v.o v.seq) v.node))<|aC<|Wr<|sR<|aI (au (iR m.t m.tn (jd v.o v.seq) v.node)) ?_
  have N:k=m.s.nn:=by omega
  subst N
  have H:jE m.core v=iR m.t m.tn (jd v.o v.seq) v.node:=if_neg (fun h=>h.elim (fun h=>by rw[show mM m.core.id v.o m.core.nn=G from aa.symm]at h; omega) (fun h=>by omega))
  exact⟨nD H.symm,b6,fun U=>absurd (H.symm.trans U) Q⟩
 refine Ln<|aV (au (iR m.t m.tn (jd v.o v.seq) v.node))<|bM<|Ws<|ay<|av (au (iR m.t m.tn (jd v.o v.seq) v.node))<|Lv aF (jJ Q)<|aC<|aK<|Wk<|sN<|ay<|av (aD (jd v.o v.seq))<|Lv ((pf I 9)) (iN K 9)<|Lv (aD v.node) (aL lX.aH 9)<|av (.agg (aA 56 (bG (bG (fun L=>if L<2 then aD 0 else au 0) 0 1 (fun _=>aD (jd v.o v.seq))) 1 1 (fun _=>aD v.node))))<|wC 56 (fun L=>if L<2 then aD 0 else au 0) fun M w4 xH qX s5 z2 => ?_
 have⟨oZ,mX,rM,vU,qY,qZ,uw⟩:=jl s5.old pQ qW mW lY lX hT1 ZI
 have b7:=dX s5.old b6 u
 have qO:=jc xH b6.size
 have ain:=bY xH pQ.lt
 have DV:(.slice m.s.na (m.s.nn) (m.s.nc):Value).ownBlock≠some M:=by rw[xH]; exact qW.jC (Nat.le_refl _)
 have⟨aio,aip,ZK⟩:=Iq xH lX.lt hT1.lt ZI.lt
 have zJ:=qX.lt
 refine fB qX 0 (h1:=(bT (bT (fun jq _=>by show((fun L=>if L<2 then aD 0 else au 0:Nat->Value) jq).oneCell'=true; simp only[]; repeat (first|rfl|split)) (fun _ _=>rfl)) (fun _ _=>rfl))) fun w5 uS s6 z3 => ?_
 have rZ:aP w5 M 56 (bG (bG (fun L=>if L<2 then aD 0 else au 0) 0 1 (fun _=>aD (jd v.o v.seq))) 1 1 (fun _=>aD v.node)) 61:=aU uS
 have gI:=gY s6 qX.ty
 have sP:=kR gI oZ
 have wP:=mX.bZ s6 DV
 have⟨sQ,sS,rO,vV,pR⟩:=qp gI rM vU qY qZ uw
 have b8:=s6.below b7 (Nat.le_trans u b7.size) (by omega)
 refine aC<|Ws ?_
 have vW:aP w5 M 56 (kQ (jd v.o v.seq) v.node (fun _=>0)) 61:=rZ.congr (fun j hj=>RB j)
 refine Wl<|Lv ((pt I)) (iN K 0)<|Lv (au v.o) (aL rO.aH 0)<|Lv (au a) fO<|Lv ((pf I 11)) (iN K 11)<|Lv (au v.aX) (aL rO.aH 11)<|av ((pf M 2))<|av ((pf M 2))<|Lv ((pf M (a+2))) (je 6 1)<|iQ vW (a+2) (au v.aX) fun w6 mU s7 z4 => ?_
 have qN:aP w6 M 56 (kQ (jd v.o v.seq) v.node (upd (fun _=>0) a v.aX)) 61:=mU.to (MK (by omega))
 have jN:=gY s7 vW.ty
 have m64:=kR jN sP
 have wm:=wP.bZ s7 DV
 have⟨uy,uz,sj,ru,sU⟩:=qp jN sQ sS rO vV pR
 have b9:=s7.below b8 (Nat.le_trans u b8.size) (by omega)
 refine aC<|Ws ?_
 have ek0:k=m.s.nn:=by omega
 obtain⟨cn0,adF,hc38⟩ : ∃ cn0,cn0=mM m.id v.o m.s.nn /\ ¬ (5:Int)<=(cn0:Int):=⟨G,by rw[<- ek0]; exact aa,c38⟩
 clear aa hcl ek0
 refine Wl<|aS J<|av ((pt p))<|av ((pt p))<|av ((pf p 18))<|Lv (.slice m.s.na (m.s.nn) (m.s.nc)) (aL m64.aH 18)<|av (au m.s.nn)<|av (au m.s.nn)<|aC<|Ws ?_
 -- region 16 draws
 refine Ak [0,1,2,3,4,5,6,7,8,9,10,11,12] [0,0,0,0,0,1,4,2,2,0,0,0,3] (iG [61]) vP Fx.iG.trans (fu := [(12,5,[5]),(7,6,[6]),(8,6,[7,6]),(12,6,[6]),(8,7,[7]),(9,7,[7]),(10,7,[7]),(11,7,[7]),(12,7,[7]),(9,8,[8]),(10,8,[8]),(11,8,[8]),(12,8,[8])]) (by kernel_rfl) (by kernel_rfl) (by kernel_rfl) (by kernel_rfl) (by kernel_rfl) fun yP fG lQ => ?_
 have⟨sV,uD,sZ,yB,uE,wQ,wF,wR⟩:=lu fG m64 wm uy uz sj ru sU qN
 have b10:=dX fG b9 u
 refine bQ J<|bQ J<|aV ((pt p))<|aV ((pt p))<|aV ((pf p 18))<|Rd (v := .slice m.s.na (m.s.nn) (m.s.nc)) (by rfl) (by rfl) (vP _) (fun F E=>bC (x:=kJ m) rfl rfl (by kernel_rfl) (sV.jG E (by decide)).aH (i:=18) (by omega) (by omega) rfl) ?_
 refine Rs (.agg (aA 56 (kQ (jd v.o v.seq) v.node (upd (fun _=>0) a v.aX)))) (fA wR.aH 0) ?_
 refine zC<|yj (vs := [(0,.agg (aA 56 (kQ (jd v.o v.seq) v.node (upd (fun _=>0) a v.aX))))]) (s:=56) (zc:=fun L=>if L<2 then aD 0 else au 0) (y:=bG (fun j=>(fun L=>if L<2 then aD 0 else au 0) (j % 56)) (0*56) 56 (kQ (jd v.o v.seq) v.node (upd (fun _=>0) a v.aX))) (by rfl) rfl rfl Tryz.underlying50 (by kernel_rfl) (by rfl) (by rfl) (by kernel_rfl) (by rw[bD (off:=0*56) (s:=56) (y:=kQ (jd v.o v.seq) v.node (upd (fun _=>0) a v.aX)) rfl (bJ _ _) (by rfl)]; rfl) rfl fun g3 w7 yT vX s9 z5 => ?_
 have⟨uT,tN,wo,xW,wu,yR,yC,xX⟩:=lu s9.old sV uD sZ yB uE wQ wF wR
 have b11:=dX s9.old b10 u
 have Dy:=jc yT b10.size
 have air:=bY yT sV.lt
 have ais:(.slice m.s.na (m.s.nn) (m.s.nc):Value).ownBlock≠some g3:=by rw[yT]; exact uD.jC (Nat.le_refl _)
 have⟨ait,ZL,GL,ZM⟩:=YP yT uE.lt wQ.lt wF.lt wR.lt
 have KQ:=vX.lt
 refine Ln ⟨Fx.iG.of_below s9.old,?_⟩
 refine zC<|yI (B:=B) (s:=56) (bytes:=448) (k:=m.s.nn) (m:=1) (v := .slice m.s.na (m.s.nn) (m.s.nc)) (x:=H9 m) (by rfl) rfl rfl rfl Tryz.underlying50 (by kernel_rfl) (by kernel_rfl) rfl rfl tN vX.aH (xM (tY _ _ _)) (by omega) (by omega) (by omega) (Nat.le_trans u b11.size) fun l A w8 ho1 hg1 tJ hlt1 => ?_
 have qy:=yL hg1 tN
 have⟨xY,yS,Ci,AZ,zN,zO⟩:=PS qy uT wo xW wu yR yC
 have xL:=xX.grown hg1 DV
 have aiu:M≠l:=fun e=>tJ.elim (fun e2=>DV (by rw[e]; exact e2)) (fun e2=>by have:=xX.lt; omega)
 have xG:Fx.Own w8 B 61 56 (bI l (m.s.nn+1) A) (m.s.nn+1) (flat 56 (Fx.Im (fun d=>kQ (m.id d) (m.par d) (m.R d)) (kQ (jd v.o v.seq) v.node (upd (fun _=>0) a v.aX)) m.s.nn m.s.nn)):=(ho1.congr (fun j hj=>(Fx.wJ j hj).trans (bH (fun i V q _=>Fx.wK i V q) j hj)))
 have b12:Below B w w8:=xR b11 hg1 (Nat.le_trans u b11.size) (fun q hq=>(tN.ge hq).1)
 refine Ln ⟨qy,?_⟩
 refine aV ((pt p))<|aV ((pt p))<|aV ((pf p 18))<|fQ<|iQ xY 18 (bI l (m.s.nn+1) A) fun w9 Ck s10 z6 => ?_
 have yQ:=gY s10 xY.ty
 have⟨A8,CS,DU,vk,wT,vo,sw⟩:=PU yQ yS Ci AZ zN zO xL xG
 have b13:=s10.below b12 (Nat.le_trans u b12.size) (by omega)
 refine Ln<|bM<|Ws<|Wb<|Wo (fun f z => ∃ k:Nat,k<=m.s.nn/\(∀ i,k<=i->i<m.s.nn->(jd v.o v.seq)<m.id i)/\f 0=(pt p)/\f 7=aD ((jd v.o v.seq))/\f 9=(pt M)/\f 10=au ((k:Int))/\Fx.Own z B 66 5 (.slice m.s.ga (m.s.gn) (m.s.gc)) m.s.gn (GK m)/\uZ z B 6 m/\aP z I 14 (bO v) 32/\aP z m.tb 1 (fun _=>bI g9 (m.tn+1) Vm) 123/\Fx.Own z B 128 2 (bI g9 (m.tn+1) Vm) (m.tn+1) (rv .u64 (jP (nI m.t (down (fun i=>decide ((jd v.o v.seq)<m.t i 0)) m.tn) (jd v.o v.seq) v.node)))/\aP z M 56 (kQ (jd v.o v.seq) v.node (upd (fun _=>0) a v.aX)) 61/\aP z p 27 (dz (kJ m) 18 (bI l (m.s.nn+1) A)) 71/\Fx.Own z B 61 56 (bI l (m.s.nn+1) A) (m.s.nn+1) (flat 56 (Fx.Im (fun d=>kQ (m.id d) (m.par d) (m.R d)) (kQ (jd v.o v.seq) v.node (upd (fun _=>0) a v.aX)) m.s.nn k))/\Below B w z) (fun f _=>(intOf (f 10)).toNat) ⟨m.s.nn,by omega,(fun i J K=>absurd J (by omega)),J,Fx.ic,(by rfl),Fx.ic,A8,CS,DU,vk,wT,vo,Ck,sw,b13⟩ ?_
 rintro f2 rJ ⟨k,hk,hgt,Z,h6,h7,P,og,nJ,oN,oh,pV,qE,tZ,pW,b14⟩
 refine Ws<|ay<|aS P ?_
 by_cases c91:0<(k:Int)
 ·obtain⟨j,ej⟩ : ∃ j,k=j+1:=⟨k-1,by omega⟩
  refine Lv aG (jY c91)<|av aG<|aS Z<|av ((pt p))<|av ((pt p))<|av ((pf p 18))<|Lv (bI l (m.s.nn+1) A) (aL tZ.aH 18 (Fx.jW (by omega)))<|aS P<|Lv (au j) fO<|Lv ((pf l (56*j))) (cu 56)<|av ((pf l (56*j)))<|Lv (aD (m.id j)) (aL pW.aH (56*j) (Fx.gW (k:=j) (j:=0) (by omega) (by omega) ((congrFun (Fx.yt (by omega) (by omega)) 0).trans rfl)))<|aS h6 ?_
  by_cases Vn:(jd v.o v.seq)<(m.id j)
  ·refine Lv aG (jY Vn)<|av aG<|aC<|aM<|Wk<|sN<|Wb<|Ws ?_
   -- region 18 draws
   refine jo [0,1,2,3,5,6,7,8,9,11,12,4,10,13,14,15,16] [0,0,0,0,4,0,0,0,0,0,4,0,0,0,4,0,3] [(16,4,[4]),(16,10,[10]),(16,14,[14])] fun Pb kF zH => ?_
   have⟨sD,xZ,uf,yc,A9,wz,sF,oO⟩:=lu kF og nJ oN oh pV qE tZ pW
   have b15:=dX kF b14 u
   refine bQ Z<|aV ((pt p))<|aV ((pt p))<|aV ((pf p 18))<|bQ P<|bQ Z<|aV ((pt p))<|aV ((pt p))<|aV ((pf p 18))<|bQ P<|Rp (au j) (fun _=>fO)<|Rs (bI l (m.s.nn+1) A) (aL sF.aH 18 (Fx.jW (by omega))) ?_
   refine Rs (bI l (m.s.nn+1) A) (aL sF.aH 18 (Fx.jW (by omega))) ?_
   refine Rp ((pf l (56*j))) (fun _=>cu 56)<|Rs (.agg (aA 56 (kQ (m.id j) (m.par j) (m.R j)))) (fA oO.aH (56*j) (fun jq hjq=>(Fx.iT (k:=j) (by omega) hjq).trans (congrFun (Fx.yt (by omega) (by omega)) jq))) ?_
   refine Rp ((pf l (56*k))) (fun _=>cu 56)<|fQ<|yN oO (56*k) (h1:=(fun j _=>tY _ _ _ j)) fun DI wU s12 z7 => ?_
   have xU:=gY s12 oO.Il
   have⟨wV,sG,Ba,GN,DW⟩:=qp xU sD xZ uf yc A9
   have zP:=wz.bZ s12 (by omega)
   have DX:=kR xU sF
   have b16:=s12.below b15 (Nat.le_trans u b15.size) oO.blk.1
   have EP:Fx.Own DI B 61 56 (bI l (m.s.nn+1) A) (m.s.nn+1) (flat 56 (Fx.Im (fun d=>kQ (m.id d) (m.par d) (m.R d)) (kQ (jd v.o v.seq) v.node (upd (fun _=>0) a v.aX)) m.s.nn j)):=wU.congr (fun T S=>(Fx.tF (k:=k) (by omega) T S).trans (bH (fun i V q _=>Fx.xw ej (by omega) i V q) T S))
   refine Ln<|bM<|Wl<|aS P<|Lv (au j) fO<|av (au j)<|Ln<|bP<|gJ ⟨j,by omega,(RD ej hgt Vn),Z,(h6.trans Fx.ic),h7,Fx.ic,wV,sG,Ba,GN,DW,zP,DX,EP,b16⟩ ?_
   show(intOf ((au j))).toNat<_
   simp only[P,intOf]; omega
  refine Lv aF (jZ Vn)<|av aF<|aC<|aK<|Wx<|bV<|fU<|bW<|sN<|Ws ?_
  -- region 20 draws
  refine jo [0,1,2,3,5,4,6,7,8] [0,0,0,0,4,0,4,0,3] [(8,4,[4]),(8,6,[6])] fun Zd oV Fv => ?_
  have⟨Bb,yY,Jg,DY,DZ,ER,ES⟩:=jl oV og nJ oh pV qE tZ pW
  have b17:=dX oV b14 u
  refine bQ Z<|aV ((pt p))<|aV ((pt p))<|aV ((pf p 18))<|bQ P<|Rs (bI l (m.s.nn+1) A) (aL ER.aH 18 (Fx.jW (by omega))) ?_
  refine Rs (.agg (aA 56 (kQ (jd v.o v.seq) v.node (upd (fun _=>0) a v.aX)))) (fA DZ.aH 0 (ha:=h7)) ?_
  refine Rp ((pf l (56*k))) (fun _=>cu 56)<|fQ<|yN ES (56*k) (h1:=(fun j _=>tY _ _ _ j)) fun Ch Bc AQ z8 => ?_
  have xV:=gY AQ ES.Il
  have⟨D5,Bd,D6,yZ⟩:=KE xV Bb yY Jg DY
  have Bf:=DZ.bZ AQ (by omega)
  have zQ:=kR xV ER
  have b18:=AQ.below b17 (Nat.le_trans u b17.size) ES.blk.1
  have GQ:Fx.Own Ch B 61 56 (bI l (m.s.nn+1) A) (m.s.nn+1) (flat 56 (Fx.Gs (fun d=>kQ (m.id d) (m.par d) (m.R d)) k (kQ (jd v.o v.seq) v.node (upd (fun _=>0) a v.aX)))):=Bc.congr (fun T S=>(Fx.tF (k:=k) (by omega) T S).trans (bH (fun i V q _=>Fx.rF (by omega) i V q) T S))
  refine Ln<|bM<|ay<|av (au 0)<|aC<|Wr<|aI (au 0) ?_
  have H:jE m.core v=iR m.t m.tn (jd v.o v.seq) v.node:=if_neg (fun h=>h.elim (fun h=>by rw[show mM m.core.id v.o m.core.nn=cn0 from adF.symm]at h; omega) (fun h=>by omega))
  have N:k=qC m.id m.s.nn (jd v.o v.seq):=Fx.nR hk (fun i a b=>decide_eq_true (hgt i a b)) (.inr (fun j2 e=>by rw[show j2=j by omega]; exact decide_eq_false Vn))
  have RJ:Fx.Own Ch B 61 56 (bI l (m.s.nn+1) A) (m.s.nn+1) (flat 56 fun d=>kQ (bX m.id k (jd v.o v.seq) d) (bX m.par k v.node d) (bX m.R k (upd (fun _=>0) a v.aX) d)):=by rw[<- ML]; exact GQ
  have eR:(upd (fun _=>0) a v.aX)=upd (fun _=>0) (v.o-1).toNat v.aX:=by rw[show(v.o-1).toNat=a by omega]
  have bn9:m.tn+1<=33:=Jf Q
  refine⟨nD (Q.symm.trans H.symm),b18,fun _=>⟨{ m with s := { m.s with na:=some ⟨l,0,none⟩,nn:=m.s.nn+1,nc:=A },id:=bX m.id k (jd v.o v.seq),par:=bX m.par k v.node,R:=bX m.R k (upd (fun _=>0) a v.aX),ta:=some ⟨g9,0,none⟩,tn:=m.tn+1,tc:=Vm,t:=nI m.t (down (fun i=>decide ((jd v.o v.seq)<m.t i 0)) m.tn) (jd v.o v.seq) v.node },?_,?_⟩⟩
  ·unfold oM; rw[show qC m.core.id m.core.nn (jd v.o v.seq)=k from N.symm,<- eR]; rfl
  exact { c:=zQ.to (FI m _ _ _),n:=RJ,g:=D5,tc:=D6,t:=yZ,r:=Bd,pB:=RI,tB:=Cm,bn:=(by have:=bnn; show m.s.nn+1<=1000; omega),bg:=bg,bt:=(by show m.tn+1<=1000; omega),br:=C.br }
 refine Lv aF (jZ c91)<|av aF<|cB<|cB<|cB<|cB<|cB<|cB<|cB<|cB<|cB<|cB<|cB<|cB<|av aF<|aC<|aK<|Wx<|bV<|fU<|bW<|sN<|Ws ?_
 -- region 20 draws
 refine jo [0,1,2,3,5,4,6,7,8] [0,0,0,0,4,0,4,0,3] [(8,4,[4]),(8,6,[6])] fun wt5 yA Qu => ?_
 have⟨RL,RN,RO,ZN,RP,Oq,RQ⟩:=jl yA og nJ oh pV qE tZ pW
 have b19:=dX yA b14 u
 refine bQ Z<|aV ((pt p))<|aV ((pt p))<|aV ((pf p 18))<|bQ P<|Rs (bI l (m.s.nn+1) A) (aL Oq.aH 18 (Fx.jW (by omega))) ?_
 refine Rs (.agg (aA 56 (kQ (jd v.o v.seq) v.node (upd (fun _=>0) a v.aX)))) (fA RP.aH 0 (ha:=h7)) ?_
 refine Rp ((pf l (56*k))) (fun _=>cu 56)<|fQ<|yN RQ (56*k) (h1:=(fun j _=>tY _ _ _ j)) fun EN RS s16 z9 => ?_
 have zM:=gY s16 RQ.Il
 have⟨ZO,ZP,Ot,ZQ⟩:=KE zM RL RN RO ZN
 have adG:=RP.bZ s16 (by omega)
 have ZR:=kR zM Oq
 have b20:=s16.below b19 (Nat.le_trans u b19.size) RQ.blk.1
 have ZT:Fx.Own EN B 61 56 (bI l (m.s.nn+1) A) (m.s.nn+1) (flat 56 (Fx.Gs (fun d=>kQ (m.id d) (m.par d) (m.R d)) k (kQ (jd v.o v.seq) v.node (upd (fun _=>0) a v.aX)))):=RS.congr (fun T S=>(Fx.tF (k:=k) (by omega) T S).trans (bH (fun i V q _=>Fx.rF (by omega) i V q) T S))
 refine Ln<|bM<|ay<|av (au 0)<|aC<|Wr<|aI (au 0) ?_
 have H:jE m.core v=iR m.t m.tn (jd v.o v.seq) v.node:=if_neg (fun h=>h.elim (fun h=>by rw[show mM m.core.id v.o m.core.nn=cn0 from adF.symm]at h; omega) (fun h=>by omega))
 have N:k=qC m.id m.s.nn (jd v.o v.seq):=Fx.nR hk (fun i a b=>decide_eq_true (hgt i a b)) (.inl (by omega))
 have ZU:Fx.Own EN B 61 56 (bI l (m.s.nn+1) A) (m.s.nn+1) (flat 56 fun d=>kQ (bX m.id k (jd v.o v.seq) d) (bX m.par k v.node d) (bX m.R k (upd (fun _=>0) a v.aX) d)):=by rw[<- ML]; exact ZT
 have eR:(upd (fun _=>0) a v.aX)=upd (fun _=>0) (v.o-1).toNat v.aX:=by rw[show(v.o-1).toNat=a by omega]
 have bn9:m.tn+1<=33:=Jf Q
 refine⟨nD (Q.symm.trans H.symm),b20,fun _=>⟨{ m with s := { m.s with na:=some ⟨l,0,none⟩,nn:=m.s.nn+1,nc:=A },id:=bX m.id k (jd v.o v.seq),par:=bX m.par k v.node,R:=bX m.R k (upd (fun _=>0) a v.aX),ta:=some ⟨g9,0,none⟩,tn:=m.tn+1,tc:=Vm,t:=nI m.t (down (fun i=>decide ((jd v.o v.seq)<m.t i 0)) m.tn) (jd v.o v.seq) v.node },?_,?_⟩⟩
 ·unfold oM; rw[show qC m.core.id m.core.nn (jd v.o v.seq)=k from N.symm,<- eR]; rfl
 exact { c:=ZR.to (FI m _ _ _),n:=ZU,g:=ZO,tc:=Ot,t:=ZQ,r:=ZP,pB:=RI,tB:=Cm,bn:=(by have:=bnn; show m.s.nn+1<=1000; omega),bg:=bg,bt:=(by show m.tn+1<=1000; omega),br:=C.br }
namespace Rt
theorem vw(x:Nat->Int)(n:Int)(is:Bool)(a:Int)(off:Nat) :
 ((bR x n is a off).1=zero/\(bR x n is a off).2≠0 /\ ¬ (may x=true/\1<=n/\n<=1125899906842624/\is=true/\a=0/\x off+n<=1125899906842624)) \/
 ((may x=true/\1<=n/\n<=1125899906842624/\is=true/\a=0/\x off+n<=1125899906842624)/\bR x n is a off=(upd x off (x off+n),0)):=by
 unfold bR
 by_cases f:may x=true
 ·by_cases c:1<=n
  ·by_cases d:n<=1125899906842624
   ·rw[f,decide_eq_true c,decide_eq_true d]
    simp only[Bool.and_self,if_true]
    cases is
    ·left; exact⟨rfl,(by show(10:Int)≠0; decide),fun h=>by cases h.2.2.2.1⟩
    by_cases b:a=0
    ·by_cases e:x off+n<=1125899906842624
     ·right; exact⟨⟨trivial,c,d,rfl,b,e⟩,by rw[if_pos rfl,if_pos b,if_pos e]⟩
     left; rw[if_pos rfl,if_pos b,if_neg e]; exact⟨rfl,by decide,fun h=>e h.2.2.2.2.2⟩
    left; rw[if_pos rfl,if_neg b]; exact⟨rfl,b,fun h=>b h.2.2.2.2.1⟩
   left; rw[decide_eq_false d,Bool.and_false,if_neg (by decide)]; exact⟨rfl,by decide,fun h=>d h.2.2.1⟩
  left; rw[decide_eq_false c,Bool.and_false,Bool.false_and,if_neg (by decide)]; exact⟨rfl,by decide,fun h=>c h.2.1⟩
 left; rw[show may x=false by simpa using f,Bool.false_and,Bool.false_and,if_neg (by decide)]; exact⟨rfl,by decide,fun h=>by cases h.1⟩
theorem K3{x:Nat->Int}(h:Oi x){off:Nat}{n:Int}(h1:1<=n)(c:x off+n<=1125899906842624)(a:off<54):Oi (upd x off (x off+n)):=by
 intro p b
 unfold upd
 split
 ·have:=h off a; omega
 exact h p b
theorem nV{i:Int}(h:fV i=true) : ∃ a:Nat,a<6/\i=(a:Int)+1/\i.toNat-1=a:=by
 have:1<=i/\i<=6:=by unfold fV at h; simpa using h
 exact⟨(i-1).toNat,by omega,by omega,by omega⟩
structure Moved(x y:Nat->Int)(a b:Nat)(n:Int):Prop where
 may:may y=true
 l : ∀ k,k<6->L y k=L x k+(if k=b then n else 0)-(if k=a then n else 0)
 g:rz y=rz x
 u:mK y=mK x
theorem GR{x:Nat->Int}{i j n:Int}(h:(cK x i j n).2=0) : ∃ a b:Nat,a<6/\b<6/\a≠b/\i=(a:Int)+1/\j=(b:Int)+1/\1<=n/\n<=1125899906842624/\n<=L x a/\Moved x (cK x i j n).1 a b n/\(cK x i j n).1=upd x (18+a*6+b) (x (18+a*6+b)+n):=by
 unfold cK at *
 rcases vw x n (fV i&&fV j) (ni x i j n) (jO i j)with ⟨_,f,_⟩|⟨⟨hm,h1,f,hr,he,hx⟩,heq⟩
 ·exact absurd h f
 rw[Bool.and_eq_true]at hr
 obtain⟨a,g,l,D⟩:=nV hr.1
 obtain⟨b,m,q,E⟩:=nV hr.2
 have s:jO i j=18+a*6+b:=by unfold jO; rw[D,E]
 rw[s]at heq hx
 rw[s]
 have B:a≠b:=by
  intro z
  unfold ni at he
  rw[if_pos (by rw[l,q,z])]at he
  cases he
 have y:n<=L x a:=by
  unfold ni at he
  rw[if_neg (by omega)]at he
  by_cases d:dV x i<n
  ·rw[decide_eq_true d]at he; cases he
  ·rw[l,mJ hm a g]at d; omega
 obtain⟨e,t,w⟩:=(jI x).1 hm
 have d:=ZA x a b g m n
 have c : ∀ p,p<18->upd x (18+a*6+b) (x (18+a*6+b)+n) p=x p:=fun p I=>fM _ _ _ _ (by omega)
 have o:rz (upd x (18+a*6+b) (x (18+a*6+b)+n))=rz x:=by unfold rz G; rw[c 0 (by omega),c 1 (by omega),c 2 (by omega),c 3 (by omega),c 4 (by omega),c 5 (by omega)]
 have A:(bR x n (fV i&&fV j) (ni x i j n) (18+a*6+b)).1=upd x (18+a*6+b) (x (18+a*6+b)+n):=by rw[heq]
 rw[A]
 refine⟨a,b,g,m,B,l,q,h1,f,y,⟨?_,d,o,?_⟩,rfl⟩
 ·rw[jI]
  refine⟨K3 e h1 hx (by omega),fun k r => ?_,by rw[o]; exact w⟩
  obtain⟨H,u,v⟩:=t k r
  refine⟨?_,?_,?_⟩
  ·rw[d k r]
   split
   ·split <;> omega
   split
   ·rename_i hka; subst hka; omega
   omega
  ·unfold F C at *; rw[c _ (by omega),c _ (by omega)]; exact u
  unfold R at *; rw[fM _ _ _ _ (by omega)]; exact v
 unfold mK C F; simp only[c _ (show 6+0<18 by omega),c _ (show 6+1<18 by omega),c _ (show 6+2<18 by omega),c _ (show 6+3<18 by omega),c _ (show 6+4<18 by omega),c _ (show 6+5<18 by omega),c _ (show 12+0<18 by omega),c _ (show 12+1<18 by omega),c _ (show 12+2<18 by omega),c _ (show 12+3<18 by omega),c _ (show 12+4<18 by omega),c _ (show 12+5<18 by omega)]
theorem D7(x:Nat->Int)(off:Nat)(c:off<18)(v:Int)(a b:Nat):R (upd x off v) a b=R x a b:=fM _ _ _ _ (by omega)
theorem RU(x:Nat->Int)(off:Nat)(a:off<18)(v:Int)(k:Nat):L (upd x off v) k=L x k+(G (upd x off v) k-G x k)+(F (upd x off v) k-F x k)-(C (upd x off v) k-C x k):=by
 unfold L
 simp only[D7 x off a v]
 omega
theorem adH(x:Nat->Int)(a:Nat)(n:Int)(k:Nat):C (upd x (6+a) (x (6+a)+n)) k=C x k+(if k=a then n else 0):=by
 unfold C upd
 by_cases h:k=a
 ·subst h; simp
 rw[if_neg (by omega),if_neg h]; omega
theorem adI(x:Nat->Int)(a:Nat)(n:Int)(k:Nat):F (upd x (12+a) (x (12+a)+n)) k=F x k+(if k=a then n else 0):=by
 unfold F upd
 by_cases h:k=a
 ·subst h; simp
 rw[if_neg (by omega),if_neg h]; omega
theorem adJ(x:Nat->Int)(a:Nat)(n:Int)(k:Nat):G (upd x a (x a+n)) k=G x k+(if k=a then n else 0):=by
 unfold G upd
 by_cases h:k=a
 ·subst h; simp
 rw[if_neg h,if_neg h]; omega
theorem six(a:Nat)(ha:a<6)(n:Int):(if 0=a then n else 0)+(if 1=a then n else 0)+(if 2=a then n else 0)+(if 3=a then n else 0)+(if 4=a then n else 0)+(if 5=a then n else 0)=n:=by
 have:a=0\/a=1\/a=2\/a=3\/a=4\/a=5:=by omega
 rcases this with h|h|h|h|h|h <;> subst h <;> simp
theorem GU{x:Nat->Int}{i n:Int}(h:(bE x i n).2=0) : ∃ a:Nat,a<6/\i=(a:Int)+1/\1<=n/\n<=1125899906842624/\n<=L x a/\C x a+n<=1125899906842624/\may (bE x i n).1=true /\
 (∀ k,k<6->L (bE x i n).1 k=L x k-(if k=a then n else 0))/\rz (bE x i n).1=rz x/\mK (bE x i n).1=mK x+n/\(bE x i n).1=upd x (6+a) (x (6+a)+n):=by
 unfold bE at *
 rcases vw x n (fV i) (rR x i n) (6+(i.toNat-1))with ⟨_,j,_⟩|⟨⟨hm,h1,j,hr,he,hx⟩,heq⟩
 ·exact absurd h j
 obtain⟨a,l,o,p⟩:=nV hr
 rw[p]at heq hx
 rw[p]
 have t:n<=L x a:=by
  unfold rR at he
  by_cases g:dV x i<n
  ·rw[decide_eq_true g]at he; cases he
  ·rw[o,mJ hm a l]at g; omega
 obtain⟨e,q,s⟩:=(jI x).1 hm
 have u:(bR x n (fV i) (rR x i n) (6+a)).1=upd x (6+a) (x (6+a)+n):=by rw[heq]
 rw[u]
 have b:=adH x a n
 have f : ∀ k,k<6->G (upd x (6+a) (x (6+a)+n)) k=G x k:=fun k d=>fM _ _ _ _ (by omega)
 have c : ∀ k,k<6->F (upd x (6+a) (x (6+a)+n)) k=F x k:=fun k d=>fM _ _ _ _ (by omega)
 have g : ∀ k,k<6->L (upd x (6+a) (x (6+a)+n)) k=L x k-(if k=a then n else 0):=by
  intro k d
  rw[RU x (6+a) (by omega),f k d,c k d,b k]; omega
 have m:rz (upd x (6+a) (x (6+a)+n))=rz x:=by unfold rz; rw[f 0 (by omega),f 1 (by omega),f 2 (by omega),f 3 (by omega),f 4 (by omega),f 5 (by omega)]
 refine⟨a,l,o,h1,j,t,hx,?_,g,m,?_,rfl⟩
 ·rw[jI]
  refine⟨K3 e h1 hx (by omega),fun k d => ?_,by rw[m]; exact s⟩
  obtain⟨v,w,r⟩:=q k d
  refine⟨?_,?_,?_⟩
  ·rw[g k d]
   split
   ·rename_i hka; subst hka; omega
   omega
  ·rw[c k d,b k]; split <;> omega
  rw[D7 x (6+a) (by omega)]; exact r
 unfold mK
 rw[c 0 (by omega),c 1 (by omega),c 2 (by omega),c 3 (by omega),c 4 (by omega),c 5 (by omega),b 0,b 1,b 2,b 3,b 4,b 5]
 have:=six a l n
 omega
theorem GV{x:Nat->Int}{i n:Int}(h:(bF x i n).2=0) : ∃ a:Nat,a<6/\i=(a:Int)+1/\1<=n/\n<=1125899906842624/\n<=C x a-F x a/\may (bF x i n).1=true /\
 (∀ k,k<6->L (bF x i n).1 k=L x k+(if k=a then n else 0))/\rz (bF x i n).1=rz x/\mK (bF x i n).1=mK x-n/\(bF x i n).1=upd x (12+a) (x (12+a)+n):=by
 unfold bF at *
 rcases vw x n (fV i) (rT x i n) (12+(i.toNat-1))with ⟨_,j,_⟩|⟨⟨hm,h1,j,hr,he,hx⟩,heq⟩
 ·exact absurd h j
 obtain⟨a,m,u,l⟩:=nV hr
 rw[l]at heq hx
 rw[l]
 have s:n<=C x a-F x a:=by
  unfold rT at he
  rw[l]at he
  by_cases g:C x a-F x a<n
  ·rw[decide_eq_true g]at he; cases he
  ·omega
 obtain⟨e,p,r⟩:=(jI x).1 hm
 have t:(bR x n (fV i) (rT x i n) (12+a)).1=upd x (12+a) (x (12+a)+n):=by rw[heq]
 rw[t]
 have c:=adI x a n
 have f : ∀ k,k<6->G (upd x (12+a) (x (12+a)+n)) k=G x k:=fun k d=>fM _ _ _ _ (by omega)
 have b : ∀ k,k<6->C (upd x (12+a) (x (12+a)+n)) k=C x k:=fun k d=>fM _ _ _ _ (by omega)
 have g : ∀ k,k<6->L (upd x (12+a) (x (12+a)+n)) k=L x k+(if k=a then n else 0):=by
  intro k d
  rw[RU x (12+a) (by omega),f k d,c k,b k d]; omega
 have o:rz (upd x (12+a) (x (12+a)+n))=rz x:=by unfold rz; rw[f 0 (by omega),f 1 (by omega),f 2 (by omega),f 3 (by omega),f 4 (by omega),f 5 (by omega)]
 refine⟨a,m,u,h1,j,s,?_,g,o,?_,rfl⟩
 ·rw[jI]
  refine⟨K3 e h1 hx (by omega),fun k d => ?_,by rw[o]; exact r⟩
  obtain⟨v,w,q⟩:=p k d
  refine⟨?_,?_,?_⟩
  ·rw[g k d]; split <;> omega
  ·rw[c k,b k d]
   split
   ·rename_i hka; subst hka; omega
   omega
  rw[D7 x (12+a) (by omega)]; exact q
 unfold mK
 rw[b 0 (by omega),b 1 (by omega),b 2 (by omega),b 3 (by omega),b 4 (by omega),b 5 (by omega),c 0,c 1,c 2,c 3,c 4,c 5]
 have:=six a m n
 omega
end Rt
section
namespace Rt
def cO(f:(Nat->Int)->(Nat->Int) × Int)(idx:Nat->Nat)(R:Nat->Nat->Int):Nat->(Nat->Nat->Int) × Int
 | 0=>(R,0)
 | j+1=>if(cO f idx R j).2=0 then(if(f ((cO f idx R j).1 (idx j))).2=0 then(aJ (cO f idx R j).1 (idx j) (f ((cO f idx R j).1 (idx j))).1,0)else((cO f idx R j).1,(f ((cO f idx R j).1 (idx j))).2))else cO f idx R j
section
variable {f:(Nat->Int)->(Nat->Int) × Int} {idx:Nat->Nat} {R Rk:Nat->Nat->Int} {k q:Nat}
theorem D8(h:cO f idx R k=(Rk,0))(e:idx k=q)(a:(f (Rk q)).2=0):cO f idx R (k+1)=(aJ Rk q (f (Rk q)).1,0):=by
 unfold cO; rw[h,if_pos rfl,e,if_pos a]
theorem FJ(h:cO f idx R k=(Rk,0))(e:idx k=q)(a : ¬ (f (Rk q)).2=0):(cO f idx R (k+1)).2=(f (Rk q)).2:=by
 unfold cO; rw[h,if_pos rfl,e,if_neg a]
theorem za(a : ¬ (cO f idx R k).2=0) : ∀ n,k<=n->cO f idx R n=cO f idx R k
 | 0,h=>by obtain rfl:k=0:=by omega
           rfl
 | n+1,h=>by
   by_cases e:k=n+1
   ·rw[e]
   ·have:=za a n (by omega)
    rw[cO,this,if_neg a]
end
def lead(P:Nat->Bool):Nat->Nat
 | 0=>0
 | n+1=>if lead P n=n/\P n=true then n+1 else lead P n
theorem CU(P:Nat->Bool) : ∀ n,lead P n<=n
 | 0=>Nat.le_refl _
 | n+1=>by
   unfold lead; split
   ·exact Nat.le_refl _
   ·have:=CU P n; omega
theorem Jh{P:Nat->Bool} : ∀ {n:Nat},(∀ i,i<n->P i=true)->lead P n=n
 | 0,_=>rfl
 | n+1,h=>by unfold lead; rw[if_pos ⟨Jh fun i a=>h i (by omega),h n (by omega)⟩]
theorem MN{P:Nat->Bool}{K:Nat}(h1 : ∀ i,i<K->P i=true)(a:P K=false) : ∀ {n:Nat},K<=n->lead P n=K
 | 0,h=>by unfold lead; omega
 | n+1,h=>by
   unfold lead
   by_cases e:K=n+1
   ·rw[if_pos ⟨Jh fun i d=>h1 i (by omega),h1 n (by omega)⟩]; exact e.symm
   ·rw[MN h1 a (n:=n) (by omega),if_neg]
    rintro ⟨c,b⟩
    subst c; rw[a]at b; cases b
def dn(t:Nat->Nat->Int)(tn:Nat)(x:Int):Nat:=lead (fun i=>decide (0<=bB t tn (bf t tn i x))) 1000
theorem qF{t:Nat->Nat->Int}{tn K D:Nat}{x:Int}(h1 : ∀ i,i<K->0<=bB t tn (bf t tn i x))(c:bB t tn (bf t tn K x)<0)(d:bB t tn (bf t tn D x)<0)(e:D<=1000):K=dn t tn x:=by
 have a:K<=1000:=by
  rcases Nat.lt_or_ge D K with h|h
  ·have:=h1 D h; omega
  ·omega
 exact(MN (fun i b=>decide_eq_true (h1 i b)) (decide_eq_false (by omega)) a).symm
end Rt
def gV.node(L:gV)(x:Int):Int:=gF (fun i=>decide (L.id i=x)) L.nn
def gV.grant(L:gV)(o r:Int):Int:=gF (fun i=>decide (L.g i 0=o)&&decide (L.g i 1=r)) L.gn
def gV.jQ(L:gV)(a:Nat)(r:Int):Int:=gF (fun i=>decide (L.rq a i=r)) (L.rn a)
namespace Rt
def mY(L:gV)(x:Int)(i:Nat):Nat:=(L.node (bf L.t L.tn i x)).toNat
def uF(v:EvM):Nat->Int:=fun j=>if j=0 then v.o else if j=1 then v.req else if j=2 then v.node else if j=3 then v.aX else 0
def D9(v:EvM)(x:Nat->Int):Bool:=decide (v.o<x 0) || (decide (x 0=v.o)&&decide (v.req<x 1))
def bA(v:EvM):Nat:=(v.o-1).toNat
def lK(L:gV)(v:EvM):(Nat->Nat->Int) × Int:=cO (fun x=>bE x v.o v.aX) (mY L v.node) L.R (dn L.t L.tn v.node)
def iE(L:gV)(v:EvM):Int:=if 0<=L.jQ (bA v) v.req then 14 else if dn L.t L.tn v.node=0 then 9 else(lK L v).2
def oP(L:gV)(a:Nat)(r:Int):gV := { L with rn:=aJ L.rn a (L.rn a+1),rq:=aJ L.rq a (aJ (L.rq a) (L.rn a) r) }
def kK(L:gV)(v:EvM):gV :=
 oP { L with R:=(lK L v).1,gn:=L.gn+1,g:=bX L.g (down (fun i=>D9 v (L.g i)) L.gn) (uF v) } (bA v) v.req
theorem Bg{n q:Nat}{id par:Nat->Int}{R:Nat->Nat->Int}{r:Nat->Int} : ∀ i,i<n -> ∀ j,j<56->Fx.pJ (fun a=>kQ (id a) (par a) (R a)) q (bG (kQ (id q) (par q) (R q)) 2 54 (rv .i64 r)) i j=kQ (id i) (par i) (aJ R q r i) j:=fun i _ j d=>by
 unfold Fx.pJ aJ
 by_cases h:i=q
 ·subst h
  rw[if_pos rfl,if_pos rfl]
  unfold bG kQ rv
  by_cases b:j=0
  ·subst b; rfl
  ·by_cases c:j=1
   ·subst c; rfl
   ·rw[if_pos (by omega),if_neg b,if_neg c]
 ·rw[if_neg h,if_neg h]
theorem Vo{g:Nat->Nat->Int}{k:Nat}{x:Nat->Int}:Fx.Gs (fun a=>iM (g a)) k (iM x)=fun a=>iM (bX g k x a):=by
 funext i
 unfold Fx.Gs bX
 by_cases h:i<k
 ·simp only[if_pos h]
 by_cases b:i=k
 ·simp only[if_neg h,if_pos b]
 simp only[if_neg h,if_neg b]
theorem K4(m:jK)(a:Option Addr)(n c:Nat):dz (kJ m) 19 (.slice a n c)=kJ { m with s := { m.s with ga:=a,gn:=n,gc:=c } }:=by
 funext p
 unfold dz kJ
 by_cases h:p=19
 ·subst h; rfl
 rw[if_neg h]
 by_cases e:p<20
 ·rw[if_pos e,if_pos e]; unfold nH
  by_cases b:p<6
  ·rw[if_pos b,if_pos b]
  by_cases d:p<12
  ·rw[if_neg b,if_pos d,if_neg b,if_pos d]
  by_cases f:p<18
  ·rw[if_neg b,if_neg d,if_pos f,if_neg b,if_neg d,if_pos f]
  rw[if_neg b,if_neg d,if_neg f,if_pos (by omega),if_neg b,if_neg d,if_neg f,if_pos (by omega)]
 rw[if_neg e,if_neg e]
theorem Ji(m:jK){i q:Nat}(f:q=i+21)(a:Option Addr)(n c:Nat):dz (kJ m) q (.slice a n c)=kJ { m with ra:=aJ m.ra i a,rn:=aJ m.rn i n,rc:=aJ m.rc i c }:=by
 subst f
 funext p
 unfold dz kJ
 by_cases h:p=i+21
 ·subst h
  rw[if_pos rfl,if_neg (by omega),if_neg (by omega),Nat.add_sub_cancel]
  simp[aJ]
 rw[if_neg h]
 by_cases b:p<20
 ·rw[if_pos b,if_pos b]
 rw[if_neg b,if_neg b]
 by_cases d:p=20
 ·rw[if_pos d,if_pos d]
 rw[if_neg d,if_neg d]
 have e : ¬ p-21=i:=by omega
 simp[aJ,e]
theorem uZ.app{w w':World}{B a g cap:Nat}{r:Int}{m d:jK}(h:uZ w B 6 m)(_ha:a<6)(h1:d.ra=aJ m.ra a (some ⟨g,0,none⟩))(l:d.rn=aJ m.rn a (m.rn a+1))(t:d.rc=aJ m.rc a cap)(u:d.rq=aJ m.rq a (aJ (m.rq a) (m.rn a) r))
 (z:Fx.Own w' B 28 1 (bI g (m.rn a+1) cap) (m.rn a+1) (rv .u64 (aJ (m.rq a) (m.rn a) r))) (A:w.grownBy w' (rA m a).ownBlock) (C:(rA m a).ownBlock=some g\/g=w.heap.size):uZ w' B 6 d:=by
 have k : ∀ i,i≠a->rA d i=rA m i:=fun i c=>by unfold rA; rw[h1,l,t]; simp[aJ,c]
 have n:rA d a=bI g (m.rn a+1) cap:=by unfold rA; rw[h1,l,t]; simp[aJ]
 have y : ∀ i,i<6->i≠a -> ∀ q,(rA m i).ownBlock=some q->q≠g:=fun i c D q b e=>by
  subst e
  rcases C with f|f
  ·exact h.2 i a c _ha D q b f
  ·have:=((h.1 i c).ge b).2; omega
 refine⟨fun i c => ?_,fun i j c v p q b => ?_⟩
 ·by_cases e:i=a
  ·subst e; rw[n,l,u]; simp only[aJ,if_true]; exact z
  rw[k i e,l,u]
  simp only[aJ,if_neg e]
  refine World.ownsRow.kept (h.1 i c) A ?_
  by_cases x:(rA m i).ownBlock=none
  ·exact .inl x
  right
  intro f
  cases b:(rA m i).ownBlock with
  | none=>exact x b
  | some q=>rw[b]at f; exact h.2 i a c _ha e q b f.symm
 by_cases e:i=a
 ·subst e
  rw[n]at b
  rw[k j (fun e=>p e.symm)]
  intro o
  exact y j v (fun e=>p e.symm) q o (Option.some.inj b).symm
 rw[k i e]at b
 by_cases s:j=a
 ·subst s; rw[n]; intro o; exact y i c e q b (Option.some.inj o).symm
 rw[k j s]; exact h.2 i j c v p q b
end Rt
end
def Ia(a:World)(l:List (Nat × (Nat->Int)))(w':World):Prop:=(∀ p∈l,w'.heap[p.1]? = some (.cells (aO .i64 54 p.2) 59 (0,0)))/\Below a.heap.size a w'
theorem Ia.up{b w w':World}{l:List (Nat × (Nat->Int))}(h:Ia b l w)(a:Below w.heap.size w w'):Ia b l w':=⟨fun p c=>PD (h.1 p c) a,HZ h.2 a⟩
instance {a w w':World} {l:List (Nat × (Nat->Int))}:Rt.Tr w w' (Ia a l w) (Ia a l w'):=⟨fun b h=>h.up b⟩
theorem Ia.drew{a w:World}{l:List (Nat × (Nat->Int))}(h:Ia a l w):Ia a l w.drew:=⟨h.1,bN h.2 1⟩
theorem Ia.drop{a w:World}{p:Nat × (Nat->Int)}{l:List (Nat × (Nat->Int))}(h:Ia a (p::l) w):Ia a l w:=⟨fun q b=>h.1 q (by simp[b]),h.2⟩
theorem Ia.row{b w:World}{l:List (Nat × (Nat->Int))}(h:Ia b l w)(g:Nat)(x:Nat->Int)(a:(g,x)∈l):w.heap[g]? = some (.cells (aO .i64 54 x) 59 (0,0)):=h.1 (g,x) a
theorem Ia.add{b w:World}{l:List (Nat × (Nat->Int))}(h:Ia b l w){g:Nat}{x:Nat->Int}(c:w.heap[g]? = some (.cells (aO .i64 54 x) 59 (0,0))):Ia b ((g,x)::l) w :=
 ⟨fun p a=>by
  rcases List.mem_cons.1 a with rfl|a
  ·exact c
  ·exact h.1 p a,h.2⟩
theorem Ia.start(w:World)(x:Nat->Int):Ia w [(w.heap.size,x)] (w.alloc (.cells (aO .i64 54 x) 59)):=⟨fun p a=>by
 obtain rfl:p=(w.heap.size,x):=by simpa using a
 exact heap_alloc_new w _,(Below.refl _ _).alloc (Nat.le_refl _) _⟩
namespace Rt
def ug(x:Nat->Int)(k:Nat):Nat->Int
 | 0=>G x k-C x k+F x k
 | j+1=>ug x k j+R x j k-R x k j
theorem ZV(x:Nat->Int)(k:Nat):ug x k 6=L x k:=by simp only[ug,L]; omega
theorem MO{x:Nat->Int}(h:Oi x)(k:Nat)(d:k<6) : ∀ j:Nat,j<=6 -> -(1125899906842624*((j:Int)+1))<=ug x k j/\ug x k j<=1125899906842624*((j:Int)+2)
 | 0,_=>by
   have a:=h k (by omega); have b:=h (6+k) (by omega); have c:=h (12+k) (by omega)
   simp only[ug,G,C,F]; omega
 | j+1,hj=>by
   have:=MO h k d j (by omega)
   have a:=h (18+j*6+k) (by omega); have b:=h (18+k*6+j) (by omega)
   simp only[ug,R]; omega
end Rt
theorem lU(n:Int)(w:World) :
 Calls Tryz.prog 113 #[au n] w fun e w'=>e = .returned (.bool (yO n))/\w'=w:=by
 refine Kent Tryz.func113 9 ?_
 refine ay<|av aF<|aC<|ay<|av (au n) ?_
 by_cases a:0<=n
 ·refine Lv aG (jv a)<|av aG<|av (au n) ?_
  by_cases b:n<=1125899906842624
  ·refine Lv aG (mD b)<|av aG<|av aG<|aC<|Wr<|aI aG ?_
   exact⟨gP (by simp only[yO]; first|(symm; simp; omega)|(symm; simp; done)),rfl⟩
  refine Lv aF (mV b)<|av aF<|av aF<|aC<|Wr<|aI aF ?_
  exact⟨gP (by simp only[yO]; first|(symm; simp; omega)|(symm; simp; done)),rfl⟩
 refine Lv aF (ji a)<|av aF<|cB<|cB<|av aF<|av aF<|aC<|Wr<|aI aF ?_
 exact⟨gP (by simp only[yO]; first|(symm; simp; omega)|(symm; simp; done)),rfl⟩
theorem qb(n:Int)(w:World) :
 Calls Tryz.prog 83 #[au n] w fun e w'=>e = .returned (.bool (fV n))/\w'=w:=by
 refine Kent Tryz.func83 9 ?_
 refine ay<|av aF<|aC<|ay<|av (au n) ?_
 by_cases a:1<=n
 ·refine Lv aG (jv a)<|av aG<|av (au n) ?_
  by_cases b:n<=6
  ·refine Lv aG (mD b)<|av aG<|av aG<|aC<|Wr<|aI aG ?_
   exact⟨gP (by simp only[fV]; first|(symm; simp; omega)|(symm; simp; done)),rfl⟩
  refine Lv aF (mV b)<|av aF<|av aF<|aC<|Wr<|aI aF ?_
  exact⟨gP (by simp only[fV]; first|(symm; simp; omega)|(symm; simp; done)),rfl⟩
 refine Lv aF (ji a)<|av aF<|cB<|cB<|av aF<|av aF<|aC<|Wr<|aI aF ?_
 exact⟨gP (by simp only[fV]; first|(symm; simp; omega)|(symm; simp; done)),rfl⟩
theorem Rt.Ou(x:Nat->Int)(k j:Nat):ug x k (j+1)=ug x k j+x (18+j*6+k)-x (18+k*6+j):=rfl
theorem Rt.Ov(x:Nat->Int)(k:Nat):ug x k 0=x k-x (6+k)+x (12+k):=rfl
theorem zR(x:Nat->Int)(k:Nat)(w:World)(E:k<6)(d:Oi x) :
 Calls Tryz.prog 84 #[.agg (aA 54 (rv .i64 x)),au ((k:Int)+1)] w fun e w'=>e = .returned (au (L x k))/\Below w.heap.size w w':=by
 have B:ug x k 6=L x k:=ZV x k
 have A:=fun j=>MO d k E j
 have S:ug x k 0=x k-x (k+6)+x (k+12):=by rw[Ov,Nat.add_comm 6 k,Nat.add_comm 12 k]
 have O:=d k (by omega)
 have P:=d (k+6) (by omega)
 have Q:=d (k+12) (by omega)
 refine Kent Tryz.func84 44 ?_
 refine ay<|pK fun c l D h H X => ?_
 have s:=aY H.old (Below.refl w.heap.size w)
 have U:=gH D
 have W:=h.lt
 refine av (au 0)<|aC<|ay<|av (au ((k:Int)+1))<|Lv (au k) fO<|av (au k)<|aC<|Ws ?_
 -- region 2 draws
 refine wh<|aR (au k)<|aR ((pt c))<|Qv ((pf c k)) (fun b a=>je 6 1)<|Qv (au (x k)) (fun b a=>aL (h.aH.dr a) k)<|aR (au k)<|aR ((pf c 6))<|Qv ((pf c (k+6))) (fun b a=>je 6 1)<|Qv (au (x (k+6))) (fun b a=>aL (h.aH.dr a) (k+6))<|Qv (au ((x k)-(x (k+6)))) (fun b a=>fO)<|aR (au k)<|aR ((pf c 12))<|Qv ((pf c (k+12))) (fun b a=>je 6 1)<|Qv (au (x (k+12))) (fun b a=>aL (h.aH.dr a) (k+12))<|Qv (au (((x k)-(x (k+6)))+(x (k+12)))) (fun b a=>eZ)<|aR (au (((x k)-(x (k+6)))+(x (k+12))))<|Qn ?_
 rintro _ ⟨i,rfl⟩
 obtain⟨K,n⟩ : ∃ b,b=World.drewN l i:=⟨_,rfl⟩
 rw[<- n]
 have I:Stp l.heap.size l K:=by rw[n]; exact Sb (iU l i)
 have⟨F,t⟩:=eG I.old h s
 clear n
 refine sN<|Ws<|ay<|av (au 0)<|aC<|Wb<|Wo (fun f z => ∃ j:Nat,j<=6/\f 2=(pt c)/\f 5=au ((k:Int))/\f 6=au (ug x k j)/\f 7=au ((j:Int))/\aP z c 54 (rv .i64 x) 59/\Below w.heap.size w z) (fun f _=>(6-(intOf (f 7)).toNat)) ⟨0,by omega,(by rfl),Fx.ic,Fx.ic,Fx.ic,F,t⟩ ?_
 rintro R m ⟨j,V,p,q,y,g,r,u⟩
 have T:=A j (by omega)
 have N:ug x k (j+1)=ug x k j+x (6*j+k+18)-x (j+6*k+18):=by rw[Ou,show 18+j*6+k=6*j+k+18 by omega,show 18+k*6+j=j+6*k+18 by omega]
 have s:=d (6*j+k+18)
 have t:=d (j+6*k+18)
 refine Ws<|ay<|aS g ?_
 by_cases v:(j:Int)<6
 ·refine Lv aG (gy v)<|aC<|aM<|Wk<|sN<|Ws<|Wb ?_
  -- region 6 draws
  refine wh<|dS y<|dS g<|dS q<|Qv ((pf c 18)) (fun b a=>iN p 18)<|Qv ((pf c (6*j+18))) (fun b a=>je 6 6)<|Qv ((pf c (6*j+k+18))) (fun b a=>je 6 1)<|Qv (au (x (6*j+k+18))) (fun b a=>aL (r.aH.dr a) (6*j+k+18))<|Qv (au ((ug x k j)+(x (6*j+k+18)))) (fun b a=>eZ)<|dS q<|dS g<|Qv ((pf c 18)) (fun b a=>iN p 18)<|Qv ((pf c (6*k+18))) (fun b a=>je 6 6)<|Qv ((pf c (j+6*k+18))) (fun b a=>je 6 1)<|Qv (au (x (j+6*k+18))) (fun b a=>aL (r.aH.dr a) (j+6*k+18))<|Qv (au (((ug x k j)+(x (6*j+k+18)))-(x (j+6*k+18)))) (fun b a=>fO)<|aR (au (((ug x k j)+(x (6*j+k+18)))-(x (j+6*k+18))))<|Qn ?_
  rintro _ ⟨i,rfl⟩
  obtain⟨M,o⟩ : ∃ b,b=World.drewN m i:=⟨_,rfl⟩
  rw[<- o]
  have J:Stp m.heap.size m M:=by rw[o]; exact Sb (iU m i)
  have⟨G,C⟩:=eG J.old r u
  clear o
  refine bP<|sN<|Wl<|aS g<|Lv (au ((j:Int)+1)) eZ<|av (au ((j:Int)+1))<|Ln<|gJ ⟨j+1,by omega,p,(q.trans Fx.ic),Fx.ic,Fx.ic,G,C⟩ ?_
  show(6-(intOf ((au ((j:Int)+1)))).toNat)<_
  simp only[g,intOf]; omega
 refine Lv aF (gD v)<|aC<|aK<|Wx<|bV<|fU<|bW<|sN<|ay<|aS y<|av (au (ug x k j))<|aC<|Wr<|aI (au (ug x k j)) ?_
 exact⟨nD (by rw[<- B]; exact congrArg _ (by omega)),u⟩
namespace Rt
def RV(x:Nat->Int)(i:Nat):Prop:=yO (x i)=true/\yO (x (i+6))=true/\yO (x (i+12))=true/\x (i+12)<=x (i+6)/\x (7*i+18)=0
def Ea(x:Nat->Int)(i j:Nat):Prop := ∀ q,q<j->yO (x (6*i+q+18))=true
def Jj(x:Nat->Int)(i:Nat):Prop := ∀ k,k<i->RV x k/\Ea x k 6
def yg(x:Nat->Int):Nat->Int
 | 0=>0
 | i+1=>yg x i+x i
theorem Ow(x:Nat->Int):Jj x 0:=fun _ h=>absurd h (by omega)
theorem K5(x:Nat->Int)(i:Nat):Ea x i 0:=fun _ h=>absurd h (by omega)
theorem K6{x:Nat->Int}{i j:Nat}(h:Ea x i j)(a:yO (x (6*i+j+18))=true):Ea x i (j+1):=fun q b=>by
 by_cases e:q=j
 ·subst e; exact a
 ·exact h q (by omega)
theorem Ox{x:Nat->Int}{i:Nat}(h:Jj x i)(hr:RV x i)(a:Ea x i 6):Jj x (i+1):=fun k b=>by
 by_cases e:k=i
 ·subst e; exact⟨hr,a⟩
 ·exact h k (by omega)
theorem Jk{x:Nat->Int}(h:Jj x 6):Oi x:=fun p d=>by
 by_cases a:p<6
 ·exact yV (h p a).1.1
 ·by_cases b:p<12
  ·have:=yV (h (p-6) (by omega)).1.2.1; rwa [show p-6+6=p by omega]at this
  ·by_cases c:p<18
   ·have:=yV (h (p-12) (by omega)).1.2.2.1; rwa [show p-12+12=p by omega]at this
   ·have:=yV ((h ((p-18) / 6) (by omega)).2 ((p-18) % 6) (by omega)); rwa [show 6*((p-18) / 6)+(p-18) % 6+18=p by omega]at this
theorem MP{x:Nat->Int} : ∀ {i:Nat},Jj x i->0<=yg x i/\yg x i<=1125899906842624*(i:Int)
 | 0,_=>by simp[yg]
 | i+1,h=>by
   have a:=MP (i:=i) (fun k c=>h k (by omega))
   have b:=yV (h i (by omega)).1.1
   simp only[yg]; omega
theorem GX{x:Nat->Int}{p:Nat}(a:p<54)(h:yO (x p)=false):may x=false:=by
 cases hm:may x
 ·rfl
 have:=(jI x).1 hm |>.1 p a
 unfold yO at h; simp at h; omega
theorem adK{x:Nat->Int}{i:Nat}(hi:i<6)(h:x (i+6)<x (i+12)):may x=false:=by
 cases hm:may x
 ·rfl
 have:=((jI x).1 hm |>.2.1 i hi).2.1
 unfold F C at this; rw[Nat.add_comm 12 i,Nat.add_comm 6 i]at this; omega
theorem adL{x:Nat->Int}{i:Nat}(hi:i<6)(h : ¬ x (7*i+18)=0):may x=false:=by
 cases hm:may x
 ·rfl
 have:=((jI x).1 hm |>.2.1 i hi).2.2
 unfold R at this; rw[show 18+i*6+i=7*i+18 by omega]at this; exact absurd this h
theorem ZW{x:Nat->Int}{i:Nat}(hi:i<6)(h:L x i<0):may x=false:=by
 cases hm:may x
 ·rfl
 have:=((jI x).1 hm |>.2.1 i hi).1
 omega
theorem RX{x:Nat->Int}{m:Nat}(h : ∀ k,k<m->0<=L x k)(a:0<=L x m) : ∀ k,k<m+1->0<=L x k:=fun k b=>by
 by_cases e:k=m
 ·rw[e]; exact a
 ·exact h k (by omega)
theorem MQ{x:Nat->Int}(ha:Jj x 6)(b : ∀ k,k<6->0<=L x k):may x=decide (yg x 6<=1125899906842624):=by
 have c:yg x 6=rz x:=by simp only[yg,rz,G]; omega
 rw[c,Bool.eq_iff_iff,jI,decide_eq_true_iff]
 refine⟨fun h=>h.2.2,fun h=>⟨Jk ha,fun k a=>⟨b k a,?_,?_⟩,h⟩⟩
 ·have:=(ha k a).1.2.2.2.1; unfold F C; rwa [Nat.add_comm 12 k,Nat.add_comm 6 k]
 have:=(ha k a).1.2.2.2.2; unfold R; rwa [show 18+k*6+k=7*k+18 by omega]
end Rt
set_option maxRecDepth 10000 in
set_option maxHeartbeats 1000000 in
theorem GY(x:Nat->Int)(w:World) :
 Calls Tryz.prog 82 #[.agg (aA 54 (rv .i64 x))] w fun e w'=>e = .returned (.bool (may x))/\Below w.heap.size w w':=by
 refine Kent Tryz.func82 81 ?_
 refine ay<|pK fun c w1 kV m1 s1 z1 => ?_
 have b1:=aY s1.old (Below.refl w.heap.size w)
 have tL:=gH kV
 have vR:=m1.lt
 refine av aF<|aC<|ay<|av (au 0)<|aC<|Ws<|ay<|av (au 0)<|aC<|Wb<|Wo (fun f q => ∃ i:Nat,i<=6/\Jj x i/\f 1=(pt c)/\f 3=au (yg x i)/\f 4=au ((i:Int))/\aP q c 54 (rv .i64 x) 59/\Below w.heap.size w q) (fun f _=>(6-(intOf (f 4)).toNat)) ⟨0,by omega,Ow x,(by rfl),Fx.ic,Fx.ic,m1,b1⟩ ?_
 rintro f1 d ⟨i,hi,B,n,h2,l,o,r⟩
 have hG:=MP B
 have HG:yg x (i+1)=yg x i+x i:=rfl
 refine Ws<|ay<|aS l ?_
 by_cases Z:(i:Int)<6
 ·refine Lv aG (gy Z)<|aC<|aM<|Wk<|sN<|Ws<|Wb<|Ws<|Ws ?_
  -- region 5 draws
  refine wh<|dS l<|Qv ((pt c)) (fun a b=>iN n 0)<|Qv ((pf c i)) (fun a b=>je 6 1)<|Qv (au (x i)) (fun a b=>aL (o.aH.dr b) i) ?_
  by_cases s:(yO (x i))=true
  ·refine oz (fun _ _=>lU (x i) _) aG (by rw[s])<|aR aF<|aR aF<|dS l<|Qv ((pf c 6)) (fun a b=>iN n 6)<|Qv ((pf c (i+6))) (fun a b=>je 6 1)<|Qv (au (x (i+6))) (fun a b=>aL (o.aH.dr b) (i+6)) ?_
   by_cases v:(yO (x (i+6)))=true
   ·refine oz (fun _ _=>lU (x (i+6)) _) aG (by rw[v])<|aR aF<|aR aF<|aR aF<|dS l<|Qv ((pf c 12)) (fun a b=>iN n 12)<|Qv ((pf c (i+12))) (fun a b=>je 6 1)<|Qv (au (x (i+12))) (fun a b=>aL (o.aH.dr b) (i+12)) ?_
    by_cases y:(yO (x (i+12)))=true
    ·refine oz (fun _ _=>lU (x (i+12)) _) aG (by rw[y])<|aR aF<|aR aF<|aR aF<|dS l<|Qv ((pf c 12)) (fun a b=>iN n 12)<|Qv ((pf c (i+12))) (fun a b=>je 6 1)<|Qv (au (x (i+12))) (fun a b=>aL (o.aH.dr b) (i+12))<|dS l<|Qv ((pf c 6)) (fun a b=>iN n 6)<|Qv ((pf c (i+6))) (fun a b=>je 6 1)<|Qv (au (x (i+6))) (fun a b=>aL (o.aH.dr b) (i+6)) ?_
     by_cases H:(x (i+6))<(x (i+12))
     ·refine Qv aG (fun a b=>jY H)<|aR aG<|aR aG<|aN<|aN<|aN<|aN<|aN<|aN<|aN<|aR aG<|Qn ?_
      rintro _ ⟨g,rfl⟩
      obtain⟨BI,K⟩ : ∃ a,a=World.drewN d g:=⟨_,rfl⟩
      rw[<- K]
      have s2:Stp d.heap.size d BI:=by rw[K]; exact Sb (iU d g)
      have b3:=aY s2.old r
      clear K
      refine sN (aM (ay (av aF (aC (Wr (sR (bK (sR (oQ (bK (sR (aI aF (⟨gP (Eq.symm ?_),b3⟩)))))))))))))
      exact adK (i:=i) (by omega) H
     refine Qv aF (fun a b=>jZ H)<|aR aF<|aR aF<|dS l<|dS l<|Qv ((pf c 18)) (fun a b=>iN n 18)<|Qv ((pf c (6*i+18))) (fun a b=>je 6 6)<|Qv ((pf c (7*i+18))) (fun a b=>je 6 1)<|Qv (au (x (7*i+18))) (fun a b=>aL (o.aH.dr b) (7*i+18)) ?_
     by_cases C:(x (7*i+18))=0
     ·refine Qv aF (fun a b=>jJ C)<|aR aF<|Qn ?_
      rintro _ ⟨g,rfl⟩
      obtain⟨wq2,M⟩ : ∃ a,a=World.drewN d g:=⟨_,rfl⟩
      rw[<- M]
      have s3:Stp d.heap.size d wq2:=by rw[M]; exact Sb (iU d g)
      have⟨m4,b4⟩:=eG s3.old o r
      clear M
      refine sN<|aK<|Wk<|sN<|Ws ?_
      have hR:RV x i:=⟨s,v,y,by omega,C⟩
      have b15:=yV s
      refine Wl<|aS h2<|aS l<|Lv ((pt c)) (iN n 0)<|Lv ((pf c i)) (je 6 1)<|Lv (au (x i)) (aL m4.aH i)<|Lv (au ((yg x i)+(x i))) eZ<|av (au ((yg x i)+(x i)))<|aC<|ay<|av (au 0)<|aC<|Wb<|Wo (fun f q => ∃ j:Nat,j<=6/\Ea x i j/\f 1=(pt c)/\f 3=au (yg x (i+1))/\f 4=au ((i:Int))/\f 5=au ((j:Int))/\aP q c 54 (rv .i64 x) 59/\Below w.heap.size w q) (fun f _=>(6-(intOf (f 5)).toNat)) ⟨0,by omega,K5 x i,n,Fx.ic,(l.trans Fx.ic),Fx.ic,m4,b4⟩ ?_
      rintro f2 w3 ⟨j,hj,T,R,h5,S,E,U,G⟩
      refine Ws<|ay<|aS E ?_
      by_cases X:(j:Int)<6
      ·refine Lv aG (gy X)<|aC<|aM<|Wk<|sN<|Ws<|Wb<|ay<|aS S<|aS E<|Lv ((pf c 18)) (iN R 18)<|Lv ((pf c (6*i+18))) (je 6 6)<|Lv ((pf c (6*i+j+18))) (je 6 1)<|Lv (au (x (6*i+j+18))) (aL U.aH (6*i+j+18)) ?_
       by_cases z:(yO (x (6*i+j+18)))=true
       ·refine kg (lU (x (6*i+j+18)) _) aG (by rw[z])<|av aF<|aC<|aK<|Wk<|bP<|sN<|Wl<|aS E<|Lv (au ((j:Int)+1)) eZ<|av (au ((j:Int)+1))<|Ln<|gJ ⟨j+1,by omega,K6 T z,R,(h5.trans Fx.ic),(S.trans Fx.ic),Fx.ic,U,G⟩ ?_
        show(6-(intOf ((au ((j:Int)+1)))).toNat)<_
        simp only[E,intOf]; omega
       rw[Bool.not_eq_true]at z
       refine kg (lU (x (6*i+j+18)) _) aF (by rw[z]) (av aG (aC (aM (ay (av aF (aC (Wr (bK (sR (oQ (bK (bK (sR (oQ (bK (sR (aI aF (⟨gP (Eq.symm ?_),G⟩))))))))))))))))))
       exact GX (p:=6*i+j+18) (by omega) z
      refine Lv aF (gD X)<|aC<|aK<|Wx<|bV<|fU<|bW<|bP<|sN<|Wl<|aS S<|Lv (au ((i:Int)+1)) eZ<|av (au ((i:Int)+1))<|Ln ?_
      have A:j=6:=by omega
      have hT6:Ea x i 6:=by rw[A]at T; exact T
      refine gJ ⟨i+1,by omega,Ox B hR hT6,R,(h5.trans Fx.ic),Fx.ic,U,G⟩ ?_
      show(6-(intOf ((au ((i:Int)+1)))).toNat)<_
      simp only[l,intOf]; omega
     refine Qv aG (fun a b=>mE C)<|aR aG<|Qn ?_
     rintro _ ⟨g,rfl⟩
     obtain⟨Oy,N⟩ : ∃ a,a=World.drewN d g:=⟨_,rfl⟩
     rw[<- N]
     have s4:Stp d.heap.size d Oy:=by rw[N]; exact Sb (iU d g)
     have b6:=aY s4.old r
     clear N
     refine sN (aM (ay (av aF (aC (Wr (sR (bK (sR (oQ (bK (sR (aI aF (⟨gP (Eq.symm ?_),b6⟩)))))))))))))
     exact adL (i:=i) (by omega) C
    rw[Bool.not_eq_true]at y
    refine oz (fun _ _=>lU (x (i+12)) _) aF (by rw[y])<|aR aG<|aR aG<|aR aG<|aN<|aN<|aN<|aN<|aN<|aN<|aN<|aN<|aN<|aR aG<|aR aG<|aN<|aN<|aN<|aN<|aN<|aN<|aN<|aR aG<|Qn ?_
    rintro _ ⟨g,rfl⟩
    obtain⟨ZX,O⟩ : ∃ a,a=World.drewN d g:=⟨_,rfl⟩
    rw[<- O]
    have s5:Stp d.heap.size d ZX:=by rw[O]; exact Sb (iU d g)
    have b7:=aY s5.old r
    clear O
    refine sN (aM (ay (av aF (aC (Wr (sR (bK (sR (oQ (bK (sR (aI aF (⟨gP (Eq.symm ?_),b7⟩)))))))))))))
    exact GX (p:=i+12) (by omega) y
   rw[Bool.not_eq_true]at v
   refine oz (fun _ _=>lU (x (i+6)) _) aF (by rw[v])<|aR aG<|aR aG<|aR aG<|aN<|aN<|aN<|aN<|aN<|aN<|aR aG<|aR aG<|aN<|aN<|aN<|aN<|aN<|aN<|aN<|aN<|aN<|aR aG<|aR aG<|aN<|aN ?_
   refine aN<|aN<|aN<|aN<|aN<|aR aG<|Qn ?_
   rintro _ ⟨g,rfl⟩
   obtain⟨wq5,P⟩ : ∃ a,a=World.drewN d g:=⟨_,rfl⟩
   rw[<- P]
   have s6:Stp d.heap.size d wq5:=by rw[P]; exact Sb (iU d g)
   have b8:=aY s6.old r
   clear P
   refine sN (aM (ay (av aF (aC (Wr (sR (bK (sR (oQ (bK (sR (aI aF (⟨gP (Eq.symm ?_),b8⟩)))))))))))))
   exact GX (p:=i+6) (by omega) v
  rw[Bool.not_eq_true]at s
  refine oz (fun _ _=>lU (x i) _) aF (by rw[s])<|aR aG<|aR aG<|aN<|aN<|aN<|aN<|aN<|aN<|aR aG<|aR aG<|aN<|aN<|aN<|aN<|aN<|aN<|aR aG<|aR aG<|aN<|aN<|aN<|aN<|aN<|aN ?_
  refine aN<|aN<|aN<|aR aG<|aR aG<|aN<|aN<|aN<|aN<|aN<|aN<|aN<|aR aG<|Qn ?_
  rintro _ ⟨g,rfl⟩
  obtain⟨wq6,Q⟩ : ∃ a,a=World.drewN d g:=⟨_,rfl⟩
  rw[<- Q]
  have s7:Stp d.heap.size d wq6:=by rw[Q]; exact Sb (iU d g)
  have b9:=aY s7.old r
  clear Q
  refine sN (aM (ay (av aF (aC (Wr (sR (bK (sR (oQ (bK (sR (aI aF (⟨gP (Eq.symm ?_),b9⟩)))))))))))))
  exact GX (p:=i) (by omega) s
 refine Lv aF (gD Z)<|aC<|aK<|Wx<|bV<|fU<|bW<|sN<|Ws<|ay<|av (au 1)<|aC<|Wb ?_
 have A:i=6:=by omega
 rw[A]at B
 have HE:=Jk B
 have V:Jj x 6:=B
 refine Wo (fun f q => ∃ m:Nat,m<=6/\(∀ k,k<m->0<=L x k)/\f 1=(pt c)/\f 3=au (yg x i)/\f 6=au ((m:Int)+1)/\aP q c 54 (rv .i64 x) 59/\Below w.heap.size w q) (fun f _=>(7-(intOf (f 6)).toNat)) ⟨0,by omega,(fun _ h=>absurd h (by omega)),n,(h2.trans Fx.ic),Fx.ic,o,r⟩ ?_
 rintro f3 w4 ⟨m,hm,u,h8,h9,D,m10,F⟩
 refine Ws<|ay<|aS D ?_
 by_cases Y:((m:Int)+1)<=6
 ·refine Lv aG (mD Y)<|aC<|aM<|Wk<|sN<|Ws<|Wb<|ay<|Lv (.agg (aA 54 (rv .i64 x))) (fA m10.aH 0 (ha:=h8))<|aS D<|dA (zR x m _ (by omega) HE) _ rfl ?_
  intro w5 hb1
  have⟨m11,W⟩:=eG hb1 m10 F
  by_cases I:(L x m)<0
  ·refine Lv aG (gy I) (aC (aM (ay (av aF (aC (Wr (bK (sR (oQ (bK (sR (aI aF (⟨gP (Eq.symm ?_),W⟩)))))))))))))
   exact ZW (i:=m) (by omega) I
  refine Lv aF (gD I)<|aC<|aK<|Wk<|bP<|sN<|Wl<|aS D<|Lv (au ((m:Int)+2)) eZ<|av (au ((m:Int)+2))<|Ln<|gJ ⟨m+1,by omega,RX u (by omega),h8,(h9.trans Fx.ic),Fx.ic,m11,W⟩ ?_
  show(7-(intOf ((au ((m:Int)+2)))).toNat)<_
  simp only[D,intOf]; omega
 refine Lv aF (mV Y)<|aC<|aK<|Wx<|bV<|fU<|bW<|sN<|ay<|aS h9 ?_
 by_cases t:(yg x i)<=1125899906842624
 ·refine Lv aG (mD t) (av aG (aC (Wr (aI aG (⟨gP (Eq.symm ?_),F⟩)))))
  have J:m=6:=by omega
  rw[J]at u
  rw[A]at t
  rw[MQ V u]; exact decide_eq_true t
 refine Lv aF (mV t) (av aF (aC (Wr (aI aF (⟨gP (Eq.symm ?_),F⟩)))))
 have J:m=6:=by omega
 rw[J]at u
 rw[A]at t
 rw[MQ V u]; exact decide_eq_false t
namespace Rt
def dW(x:Nat->Int)(i n:Int):Int:=if may x&&decide (1<=n)&&decide (n<=1125899906842624)then(if fV i then 0 else 10)else 1
theorem K7{x:Nat->Int}{i:Int}(h:may x=true)(hi:fV i=true) : ∃ k:Nat,k<6/\i=(k:Int)+1/\dV x i=L x k:=by
 obtain⟨a,b,c,_⟩:=nV hi
 exact⟨a,b,c,by rw[c]; exact mJ h a b⟩
end Rt
-- Oz.arX is not in this seat
theorem OA(x:Nat->Int)(i:Int)(w:World) :
 Calls Tryz.prog 57 #[.agg (aA 54 (rv .i64 x)),au i] w fun e w'=>e = .returned (au (dV x i))/\Below w.heap.size w w':=by
 refine Kent Tryz.func57 16 ?_
 refine ay<|pK fun t z l c s D => ?_
 have d:=aY s.old (Below.refl w.heap.size w)
 have v:=gH l
 have y:=c.lt
 refine av (au 0)<|aC<|Ws<|ay<|Lv (.agg (aA 54 (rv .i64 x))) (fA c.aH 0) ?_
 by_cases a:(may x)=true
 ·refine dA (GY x _) aG (by rw[a]) ?_
  intro A o
  have⟨r,f⟩:=eG o c d
  refine av aF<|av aF<|av (au i) ?_
  by_cases b:(fV i)=true
  ·refine kg (qb i _) aG (by rw[b])<|av aF<|av aF<|aC<|aK<|Wk<|sN<|Ws ?_
   have g:=a
   obtain⟨k,u,m,n⟩:=K7 a b
   subst m
   refine Wl<|Lv (.agg (aA 54 (rv .i64 x))) (fA r.aH 0)<|av (au ((k:Int)+1))<|dA (zR x k _ (by omega) (ko g)) _ rfl ?_
   intro B p
   have h:=aY p f
   refine av (au (L x k)) (aC (Wr (aI (au (L x k)) (⟨?_,h⟩))))
   rw[n]
  rw[Bool.not_eq_true]at b
  refine kg (qb i _) aF (by rw[b]) (av aG (av aG (aC (aM (ay (av (au 0) (aC (Wr (sR (aI (au 0) (⟨?_,f⟩)))))))))))
  rw[FC x i (by rw[b,Bool.false_and])]
 rw[Bool.not_eq_true]at a
 refine dA (GY x _) aF (by rw[a]) ?_
 intro C q
 have j:=aY q d
 refine av aG (av aG (cB (cB (cB (av aG (aC (aM (ay (av (au 0) (aC (Wr (sR (aI (au 0) (⟨?_,j⟩))))))))))))))
 rw[FC x i (by rw[a,Bool.and_false])]
theorem Eb(x:Nat->Int)(i n:Int)(w:World) :
 Calls Tryz.prog 112 #[.agg (aA 54 (rv .i64 x)),au i,au n] w fun e w'=>e = .returned (au (dW x i n))/\Below w.heap.size w w':=by
 refine Kent Tryz.func112 21 ?_
 refine ay<|pK fun p s k h o v => ?_
 have d:=aY o.old (Below.refl w.heap.size w)
 have q:=gH k
 have r:=h.lt
 refine av (au 0)<|aC<|Ws<|ay<|Lv (.agg (aA 54 (rv .i64 x))) (fA h.aH 0) ?_
 by_cases a:(may x)=true
 ·refine dA (GY x _) aG (by rw[a]) ?_
  intro t l
  have c:=aY l d
  refine av aF<|av aF<|av (au n) ?_
  by_cases f:n<1
  ·refine Lv aG (gy f) (av aG (av aG (cB (cB (av aG (aC (aM (ay (av (au 1) (aC (Wr (sR (aI (au 1) (⟨nD ?_,c⟩))))))))))))))
   unfold dW; rw[a,decide_eq_false (show ¬ 1<=n by omega)]; simp
  refine Lv aF (gD f)<|av aF<|av aF<|av (au n) ?_
  by_cases g:1125899906842624<n
  ·refine Lv aG (jY g) (av aG (aC (aM (ay (av (au 1) (aC (Wr (sR (aI (au 1) (⟨nD ?_,c⟩))))))))))
   unfold dW; rw[a,decide_eq_true (show 1<=n by omega),decide_eq_false (show ¬ n<=1125899906842624 by omega)]; simp
  refine Lv aF (jZ g)<|av aF<|aC<|aK<|Wk<|sN<|Ws<|ay<|av (au i) ?_
  by_cases b:(fV i)=true
  ·refine kg (qb i _) aG (by rw[b]) (av aF (aC (aK (Wk (sN (ay (av (au 0) (aC (Wr (aI (au 0) (⟨nD ?_,c⟩)))))))))))
   unfold dW; rw[a,decide_eq_true (show 1<=n by omega),decide_eq_true (show n<=1125899906842624 by omega),b]; simp
  rw[Bool.not_eq_true]at b
  refine kg (qb i _) aF (by rw[b]) (av aG (aC (aM (ay (av (au 10) (aC (Wr (sR (aI (au 10) (⟨nD ?_,c⟩))))))))))
  unfold dW; rw[a,decide_eq_true (show 1<=n by omega),decide_eq_true (show n<=1125899906842624 by omega),b]; simp
 rw[Bool.not_eq_true]at a
 refine dA (GY x _) aF (by rw[a]) ?_
 intro u m
 have j:=aY m d
 refine av aG (av aG (cB (cB (av aG (av aG (cB (cB (av aG (aC (aM (ay (av (au 1) (aC (Wr (sR (aI (au 1) (⟨nD ?_,j⟩)))))))))))))))))
 unfold dW; rw[a]; simp
namespace Rt
theorem Ec{x:Nat->Int}{i n:Int}(h:dW x i n=0):may x=true/\1<=n/\n<=1125899906842624/\fV i=true:=by
 unfold dW at h
 by_cases a:may x=true
 ·by_cases b:1<=n
  ·by_cases c:n<=1125899906842624
   ·rw[a,decide_eq_true b,decide_eq_true c]at h
    cases h4:fV i
    ·rw[h4]at h; simp at h
    exact⟨a,b,c,rfl⟩
   rw[decide_eq_false c]at h; simp at h
  rw[decide_eq_false b]at h; simp at h
 rw[show may x=false by simpa using a]at h; simp at h
theorem Jl{x:Nat->Int}{i n b:Int}{off:Nat}(h : ¬ dW x i n=0):bR x n (fV i) b off=(zero,dW x i n):=by
 unfold dW at *
 unfold bR
 by_cases a:(may x&&decide (1<=n)&&decide (n<=1125899906842624))=true
 ·simp only[if_pos a]at *
  cases h4:fV i
  ·simp
  simp[h4]at h
 simp only[if_neg a]at *
theorem Bh{x:Nat->Int}{n a:Int}{is:Bool}{off:Nat}(h1:may x=true)(b:1<=n)(c:n<=1125899906842624)(d:is=true) :
 bR x n is a off=if a=0 then(if x off+n<=1125899906842624 then(upd x off (x off+n),0)else(zero,6))else(zero,a):=by
 unfold bR; rw[h1,decide_eq_true b,decide_eq_true c,d]; simp
theorem ze{x:Nat->Int}{n a:Int}{is:Bool}{off:Nat}(h1:may x=true)(b:1<=n)(c:n<=1125899906842624)(d:is=true)(e:a=0)(f:x off+n<=1125899906842624):bR x n is a off=(upd x off (x off+n),0):=by
 rw[Bh h1 b c d,if_pos e,if_pos f]
theorem BL{x:Nat->Int}{n a:Int}{is:Bool}{off:Nat}(h1:may x=true)(b:1<=n)(c:n<=1125899906842624)(d:is=true)(e:a=0)(f : ¬ x off+n<=1125899906842624):bR x n is a off=(zero,6):=by
 rw[Bh h1 b c d,if_pos e,if_neg f]
theorem vE{x:Nat->Int}{n a e:Int}{is:Bool}{off:Nat}(h1:may x=true)(b:1<=n)(c:n<=1125899906842624)(d:is=true)(f:a=e)(g:e≠0):bR x n is a off=(zero,e):=by
 rw[Bh h1 b c d,f,if_neg g]
theorem OB{x:Nat->Int}{n a:Int}{off:Nat}(h1:may x=true)(b:1<=n)(c:n<=1125899906842624):bR x n false a off=(zero,10):=by
 unfold bR; rw[h1,decide_eq_true b,decide_eq_true c]; simp
theorem pl(k:Nat):((k:Int)+1).toNat-1=k:=by omega
theorem OC{x:Nat->Int}{i j n:Int}(h : ¬ dW x i n=0):cK x i j n=(zero,dW x i n):=by
 unfold cK
 unfold dW at *
 unfold bR
 by_cases a:(may x&&decide (1<=n)&&decide (n<=1125899906842624))=true
 ·simp only[if_pos a]at *
  cases h4:fV i
  ·simp
  simp[h4]at h
 simp only[if_neg a]at *
theorem Jm(k q:Nat):jO ((k:Int)+1) ((q:Int)+1)=6*k+q+18:=by unfold jO; omega
theorem RY{x:Nat->Int}{k:Nat}(a:may x=true)(b:k<6):x (k+6)<=1125899906842624:=(ko a (k+6) (by omega)).2
end Rt
-- Oz.Give is not in this seat
set_option maxRecDepth 10000 in
theorem Vp(x:Nat->Int)(i n:Int)(w:World) :
 Calls Tryz.prog 109 #[.agg (aA 54 (rv .i64 x)),au i,au n] w fun e w'=>e = .returned (.tuple #[.agg (aA 54 (rv .i64 (bE x i n).1)),au (bE x i n).2])/\Below w.heap.size w w':=by
 refine Kent Tryz.func109 42 ?_
 refine ay<|pK fun b w1 Q p s1 z1 => ?_
 have u:=aY s1.old (Below.refl w.heap.size w)
 have tL:=gH Q
 have vR:=p.lt
 refine wC 54 (rv .i64 (fun _=>0)) fun l w2 z B s2 z2 => ?_
 have⟨C,K⟩:=eG s2.old p u
 have qO:=jc z u.size
 have IY:=bY z p.lt
 have zJ:=B.lt
 refine av (au 0)<|aC<|ay<|Lv (.agg (aA 54 (rv .i64 x))) (fA C.aH 0)<|av (au i)<|av (au n)<|dA (Eb x i n _) _ rfl ?_
 intro w3 S
 have⟨q,D,m⟩:=jk S C B K
 refine av (au (dW x i n))<|aC<|Ws<|ay<|av (au (dW x i n)) ?_
 by_cases j:(dW x i n)=0
 ·refine Lv aF (jJ j)<|aC<|aK<|Wk<|sN<|Ws<|Ws ?_
  obtain⟨a,s,t,h⟩:=Ec j
  have J:=ko a
  obtain⟨k,o,R,_⟩:=nV h
  subst R
  refine Wl<|av (au n)<|Lv (.agg (aA 54 (rv .i64 x))) (fA q.aH 0)<|av (au ((k:Int)+1))<|dA (zR x k _ (by omega) (ko a)) _ rfl ?_
  intro w4 T
  have⟨g,r,d⟩:=jk T q D m
  by_cases f:(L x k)<n
  ·refine Lv aG (jY f)<|aC<|aM<|ay<|av (.agg (aA 54 (rv .i64 (fun _=>0))))<|fB r 0 fun w5 m8 E z3 => ?_
   have m9:aP w5 l 54 (rv .i64 (fun _=>0)) 59:=aU m8
   have m10:=g.bZ E (by omega)
   have M:=E.below d d.size (by omega)
   refine av (au 11) (aC (Wr (sR (⟨.tuple #[.agg (aA 54 (rv .i64 (fun _=>0))),au 11],gG Tryz.results109 ⟨_,rfl,aT m9.aH (by kernel_rfl) (by kernel_rfl)⟩ (by exact rfl),?_⟩))))
   refine⟨?_,M⟩
   have c:bE x ((k:Int)+1) n=(zero,11):=by
    unfold bE rR
    rw[mJ a k o,decide_eq_true f]
    exact vE a s t h rfl (by decide)
   rw[c]
   all_goals rfl
  refine Lv aF (jZ f)<|aC<|aK<|Wk<|sN<|Ws<|Ws ?_
  have q1:=J (k+6)
  refine Wl<|av (au ((k:Int)+1))<|Lv (au k) fO<|av ((pf b 6))<|Lv ((pf b (k+6))) (je 6 1)<|Lv (au (x (k+6))) (aL g.aH (k+6))<|av (au n)<|Lv (au ((x (k+6))+n)) eZ ?_
  by_cases y:1125899906842624<((x (k+6))+n)
  ·refine Lv aG (jY y)<|aC<|aM<|ay<|av (.agg (aA 54 (rv .i64 (fun _=>0))))<|fB r 0 fun w6 U F z4 => ?_
   have V:aP w6 l 54 (rv .i64 (fun _=>0)) 59:=aU U
   have m13:=g.bZ F (by omega)
   have N:=F.below d d.size (by omega)
   refine av (au 6) (aC (Wr (sR (⟨.tuple #[.agg (aA 54 (rv .i64 (fun _=>0))),au 6],gG Tryz.results109 ⟨_,rfl,aT V.aH (by kernel_rfl) (by kernel_rfl)⟩ (by exact rfl),?_⟩))))
   refine⟨?_,N⟩
   have c:bE x ((k:Int)+1) n=(zero,6):=by
    unfold bE rR
    rw[mJ a k o,decide_eq_false f,pl,Nat.add_comm 6 k]
    exact BL a s t h rfl (by omega)
   rw[c]
   all_goals rfl
  refine Lv aF (jZ y)<|aC<|aK<|Wk<|sN<|ay<|av (au ((k:Int)+1))<|Lv (au k) fO<|av ((pf b 6))<|Lv ((pf b (k+6))) (je 6 1)<|Lv (au (x (k+6))) (aL g.aH (k+6))<|av (au n)<|Lv (au ((x (k+6))+n)) eZ<|av ((pf b 6))<|Lv ((pf b (k+6))) (je 6 1)<|iQ g (k+6) (au ((x (k+6))+n)) fun w7 W G z5 => ?_
  have A:aP w7 b 54 (rv .i64 (upd x (k+6) ((x (k+6))+n))) 59:=W.to (Fx.xu _ _ _ _)
  have X:=r.bZ G (by omega)
  have v:=G.below d d.size (by omega)
  refine aC<|ay<|Lv (.agg (aA 54 (rv .i64 (upd x (k+6) ((x (k+6))+n))))) (fA A.aH 0)<|fB X 0 fun w8 Y H z6 => ?_
  have Z:aP w8 l 54 (rv .i64 (upd x (k+6) ((x (k+6))+n))) 59:=aU Y
  have m19:=A.bZ H (by omega)
  have O:=H.below v v.size (by omega)
  refine av (au 0) (aC (Wr (⟨.tuple #[.agg (aA 54 (rv .i64 (upd x (k+6) ((x (k+6))+n)))),au 0],gG Tryz.results109 ⟨_,rfl,aT Z.aH (by kernel_rfl) (by kernel_rfl)⟩ (by exact rfl),?_⟩)))
  refine⟨?_,O⟩
  have c:bE x ((k:Int)+1) n=(upd x (k+6) (x (k+6)+n),0):=by
   unfold bE rR
   rw[mJ a k o,decide_eq_false f,pl,Nat.add_comm 6 k]
   exact ze a s t h rfl (by omega)
  rw[c]
  all_goals rfl
 refine Lv aG (mE j)<|aC<|aM<|ay<|av (.agg (aA 54 (rv .i64 (fun _=>0))))<|av (au (dW x i n))<|fB D 0 fun w9 aa I z7 => ?_
 have ab:aP w9 l 54 (rv .i64 (fun _=>0)) 59:=aU aa
 have m22:=q.bZ I (by omega)
 have P:=I.below m m.size (by omega)
 refine av (au (dW x i n)) (aC (Wr (sR (⟨.tuple #[.agg (aA 54 (rv .i64 (fun _=>0))),au (dW x i n)],gG Tryz.results109 ⟨_,rfl,aT ab.aH (by kernel_rfl) (by kernel_rfl)⟩ (by exact rfl),?_⟩))))
 refine⟨?_,P⟩
 have c:bE x i n=(zero,dW x i n):=by
  exact Jl j
 rw[c]
 all_goals rfl
set_option maxRecDepth 10000 in
theorem Vq(x:Nat->Int)(i n:Int)(w:World) :
 Calls Tryz.prog 111 #[.agg (aA 54 (rv .i64 x)),au i,au n] w fun e w'=>e = .returned (.tuple #[.agg (aA 54 (rv .i64 (bF x i n).1)),au (bF x i n).2])/\Below w.heap.size w w':=by
 refine Kent Tryz.func111 41 ?_
 refine ay<|pK fun c w1 T t s1 z1 => ?_
 have y:=aY s1.old (Below.refl w.heap.size w)
 have tL:=gH T
 have vR:=t.lt
 refine wC 54 (rv .i64 (fun _=>0)) fun s w2 D H s2 z2 => ?_
 have⟨I,P⟩:=eG s2.old t y
 have qO:=jc D y.size
 have IY:=bY D t.lt
 have zJ:=H.lt
 refine av (au 0)<|aC<|ay<|Lv (.agg (aA 54 (rv .i64 x))) (fA I.aH 0)<|av (au i)<|av (au n)<|dA (Eb x i n _) _ rfl ?_
 intro d V
 have⟨g,u,l⟩:=jk V I H P
 refine av (au (dW x i n))<|aC<|Ws<|ay<|av (au (dW x i n)) ?_
 by_cases m:(dW x i n)=0
 ·refine Lv aF (jJ m)<|aC<|aK<|Wk<|sN<|Ws<|Ws ?_
  obtain⟨j,J,K,p⟩:=Ec m
  have v:=ko j
  obtain⟨k,W,U,_⟩:=nV p
  subst U
  have q1:=v (k+6)
  have q2:=v (k+12)
  -- region 4 draws
  refine wh<|aR (au n)<|aR (au ((k:Int)+1))<|Qv (au k) (fun a b=>fO)<|aR ((pf c 6))<|Qv ((pf c (k+6))) (fun a b=>je 6 1)<|Qv (au (x (k+6))) (fun a b=>aL (g.aH.dr b) (k+6))<|aR (au ((k:Int)+1))<|Qv (au k) (fun a b=>fO)<|aR ((pf c 12))<|Qv ((pf c (k+12))) (fun a b=>je 6 1)<|Qv (au (x (k+12))) (fun a b=>aL (g.aH.dr b) (k+12))<|Qv (au ((x (k+6))-(x (k+12)))) (fun a b=>fO) ?_
  by_cases o:((x (k+6))-(x (k+12)))<n
  ·refine Qv aG (fun a b=>jY o)<|Qn ?_
   rintro _ ⟨h,rfl⟩
   obtain⟨BI,q⟩ : ∃ a,a=World.drewN d h:=⟨_,rfl⟩
   rw[<- q]
   have s4:Stp d.heap.size d BI:=by rw[q]; exact Sb (iU d h)
   have⟨m6,m7,z⟩:=jk s4.old g u l
   clear q
   refine sN<|aM<|ay<|av (.agg (aA 54 (rv .i64 (fun _=>0))))<|fB m7 0 fun w4 m8 L z3 => ?_
   have m9:aP w4 s 54 (rv .i64 (fun _=>0)) 59:=aU m8
   have m10:=m6.bZ L (by omega)
   have Q:=L.below z z.size (by omega)
   refine av (au 12) (aC (Wr (sR (⟨.tuple #[.agg (aA 54 (rv .i64 (fun _=>0))),au 12],gG Tryz.results111 ⟨_,rfl,aT m9.aH (by kernel_rfl) (by kernel_rfl)⟩ (by exact rfl),?_⟩))))
   refine⟨?_,Q⟩
   have f:bF x ((k:Int)+1) n=(zero,12):=by
    unfold bF rT C F
    rw[pl,Nat.add_comm 6 k,Nat.add_comm 12 k,decide_eq_true o]
    exact vE j J K p rfl (by decide)
   rw[f]
   all_goals rfl
  refine Qv aF (fun a b=>jZ o)<|Qn ?_
  rintro _ ⟨h,rfl⟩
  obtain⟨wq2,r⟩ : ∃ a,a=World.drewN d h:=⟨_,rfl⟩
  rw[<- r]
  have s6:Stp d.heap.size d wq2:=by rw[r]; exact Sb (iU d h)
  have⟨E,X,A⟩:=jk s6.old g u l
  clear r
  refine sN<|aK<|Wk<|sN<|ay<|av (au ((k:Int)+1))<|Lv (au k) fO<|av ((pf c 12))<|Lv ((pf c (k+12))) (je 6 1)<|Lv (au (x (k+12))) (aL E.aH (k+12))<|av (au n)<|Lv (au ((x (k+12))+n)) eZ<|av ((pf c 12))<|Lv ((pf c (k+12))) (je 6 1)<|iQ E (k+12) (au ((x (k+12))+n)) fun w5 Y M z4 => ?_
  have G:aP w5 c 54 (rv .i64 (upd x (k+12) ((x (k+12))+n))) 59:=Y.to (Fx.xu _ _ _ _)
  have Z:=X.bZ M (by omega)
  have B:=M.below A A.size (by omega)
  refine aC<|ay<|Lv (.agg (aA 54 (rv .i64 (upd x (k+12) ((x (k+12))+n))))) (fA G.aH 0)<|fB Z 0 fun w6 aa N z5 => ?_
  have ab:aP w6 s 54 (rv .i64 (upd x (k+12) ((x (k+12))+n))) 59:=aU aa
  have m18:=G.bZ N (by omega)
  have R:=N.below B B.size (by omega)
  refine av (au 0) (aC (Wr (⟨.tuple #[.agg (aA 54 (rv .i64 (upd x (k+12) ((x (k+12))+n)))),au 0],gG Tryz.results111 ⟨_,rfl,aT ab.aH (by kernel_rfl) (by kernel_rfl)⟩ (by exact rfl),?_⟩)))
  refine⟨?_,R⟩
  have f:bF x ((k:Int)+1) n=(upd x (k+12) (x (k+12)+n),0):=by
   unfold bF rT C F
   rw[pl,Nat.add_comm 6 k,Nat.add_comm 12 k,decide_eq_false o]
   exact ze j J K p rfl (by have:=RY j W; omega)
  rw[f]
  all_goals rfl
 refine Lv aG (mE m)<|aC<|aM<|ay<|av (.agg (aA 54 (rv .i64 (fun _=>0))))<|av (au (dW x i n))<|fB u 0 fun w7 ac O z6 => ?_
 have ad:aP w7 s 54 (rv .i64 (fun _=>0)) 59:=aU ac
 have m21:=g.bZ O (by omega)
 have S:=O.below l l.size (by omega)
 refine av (au (dW x i n)) (aC (Wr (sR (⟨.tuple #[.agg (aA 54 (rv .i64 (fun _=>0))),au (dW x i n)],gG Tryz.results111 ⟨_,rfl,aT ad.aH (by kernel_rfl) (by kernel_rfl)⟩ (by exact rfl),?_⟩))))
 refine⟨?_,S⟩
 have f:bF x i n=(zero,dW x i n):=by
  exact Jl m
 rw[f]
 all_goals rfl
set_option maxRecDepth 10000 in
theorem Vr(x:Nat->Int)(i j n:Int)(w:World) :
 Calls Tryz.prog 81 #[.agg (aA 54 (rv .i64 x)),au i,au j,au n] w fun e w'=>e = .returned (.tuple #[.agg (aA 54 (rv .i64 (cK x i j n).1)),au (cK x i j n).2])/\Below w.heap.size w w':=by
 refine Kent Tryz.func81 59 ?_
 refine ay<|pK fun c w1 aa z s1 z1 => ?_
 have B:=aY s1.old (Below.refl w.heap.size w)
 have tL:=gH aa
 have vR:=z.lt
 refine wC 54 (rv .i64 (fun _=>0)) fun h w2 F H s2 z2 => ?_
 have⟨J,W⟩:=eG s2.old z B
 have qO:=jc F B.size
 have IY:=bY F z.lt
 have zJ:=H.lt
 refine av (au 0)<|aC<|ay<|Lv (.agg (aA 54 (rv .i64 x))) (fA J.aH 0)<|av (au i)<|av (au n)<|dA (Eb x i n _) _ rfl ?_
 intro w3 hb1
 have⟨p,u,f⟩:=jk hb1 J H W
 refine av (au (dW x i n))<|aC<|Ws<|ay<|av (au (dW x i n)) ?_
 by_cases t:(dW x i n)=0
 ·refine Lv aF (jJ t)<|aC<|aK<|Wk<|sN<|Ws<|Ws ?_
  obtain⟨b,r,s,l⟩:=Ec t
  have S:=ko b
  obtain⟨k,y,ei,_⟩:=nV l
  subst ei
  refine Wl<|av (au j) ?_
  by_cases d:(fV j)=true
  ·refine kg (qb j _) aG (by rw[d])<|av aF<|aC<|aK<|Wk<|sN<|Ws<|Ws ?_
   obtain⟨q,hq,ej,_⟩:=nV d
   subst ej
   refine Wl<|av (au ((k:Int)+1))<|av (au ((q:Int)+1)) ?_
   by_cases g:((k:Int)+1)=((q:Int)+1)
   ·refine Lv aG (eP g)<|aC<|aM<|ay<|av (.agg (aA 54 (rv .i64 (fun _=>0))))<|fB u 0 fun w4 m6 O z3 => ?_
    have m7:aP w4 h 54 (rv .i64 (fun _=>0)) 59:=aU m6
    have m8:=p.bZ O (by omega)
    have X:=O.below f f.size (by omega)
    refine av (au 1) (aC (Wr (sR (⟨.tuple #[.agg (aA 54 (rv .i64 (fun _=>0))),au 1],gG Tryz.results81 ⟨_,rfl,aT m7.aH (by kernel_rfl) (by kernel_rfl)⟩ (by exact rfl),?_⟩))))
    refine⟨?_,X⟩
    have a:cK x ((k:Int)+1) ((q:Int)+1) n=(zero,1):=by
     unfold cK ni
     rw[if_pos g]
     exact vE b r s (by rw[l,d]; rfl) rfl (by decide)
    rw[a]
    all_goals rfl
   refine Lv aF (fF g)<|aC<|aK<|Wk<|sN<|Ws<|ay<|av (au n)<|Lv (.agg (aA 54 (rv .i64 x))) (fA p.aH 0)<|av (au ((k:Int)+1))<|dA (zR x k _ (by omega) (ko b)) _ rfl ?_
   intro w5 hb2
   have⟨v,A,m⟩:=jk hb2 p u f
   by_cases o:(L x k)<n
   ·refine Lv aG (jY o)<|aC<|aM<|ay<|av (.agg (aA 54 (rv .i64 (fun _=>0))))<|fB A 0 fun w6 m11 P z4 => ?_
    have m12:aP w6 h 54 (rv .i64 (fun _=>0)) 59:=aU m11
    have m13:=v.bZ P (by omega)
    have Y:=P.below m m.size (by omega)
    refine av (au 11) (aC (Wr (sR (⟨.tuple #[.agg (aA 54 (rv .i64 (fun _=>0))),au 11],gG Tryz.results81 ⟨_,rfl,aT m12.aH (by kernel_rfl) (by kernel_rfl)⟩ (by exact rfl),?_⟩))))
    refine⟨?_,Y⟩
    have a:cK x ((k:Int)+1) ((q:Int)+1) n=(zero,11):=by
     unfold cK ni
     rw[if_neg g,mJ b k y,decide_eq_true o]
     exact vE b r s (by rw[l,d]; rfl) rfl (by decide)
    rw[a]
    all_goals rfl
   refine Lv aF (jZ o)<|aC<|aK<|Wk<|sN<|Ws<|Ws ?_
   have q1:=S (6*k+q+18)
   refine Wl<|av (au ((k:Int)+1))<|Lv (au k) fO<|av (au ((q:Int)+1))<|Lv (au q) fO<|av ((pf c 18))<|Lv ((pf c (6*k+18))) (je 6 6)<|Lv ((pf c (6*k+q+18))) (je 6 1)<|Lv (au (x (6*k+q+18))) (aL v.aH (6*k+q+18))<|av (au n)<|Lv (au ((x (6*k+q+18))+n)) eZ ?_
   by_cases E:1125899906842624<((x (6*k+q+18))+n)
   ·refine Lv aG (jY E)<|aC<|aM<|ay<|av (.agg (aA 54 (rv .i64 (fun _=>0))))<|fB A 0 fun w7 m14 Q z5 => ?_
    have m15:aP w7 h 54 (rv .i64 (fun _=>0)) 59:=aU m14
    have m16:=v.bZ Q (by omega)
    have Z:=Q.below m m.size (by omega)
    refine av (au 6) (aC (Wr (sR (⟨.tuple #[.agg (aA 54 (rv .i64 (fun _=>0))),au 6],gG Tryz.results81 ⟨_,rfl,aT m15.aH (by kernel_rfl) (by kernel_rfl)⟩ (by exact rfl),?_⟩))))
    refine⟨?_,Z⟩
    have a:cK x ((k:Int)+1) ((q:Int)+1) n=(zero,6):=by
     unfold cK ni
     rw[if_neg g,mJ b k y,decide_eq_false o,Jm]
     exact BL b r s (by rw[l,d]; rfl) rfl (by omega)
    rw[a]
    all_goals rfl
   refine Lv aF (jZ E)<|aC<|aK<|Wk<|sN<|Ws ?_
   -- region 12 draws
   refine Wt 13 (by kernel_rfl) (by kernel_rfl) fun oU dL gU => ?_
   have⟨G,m18,C⟩:=jk dL v A m
   refine Dr (au ((k:Int)+1))<|pG (au k) fO<|Dr (au ((q:Int)+1))<|pG (au q) fO<|Dr ((pf c 18))<|pG ((pf c (6*k+18))) (je 6 6)<|pG ((pf c (6*k+q+18))) (je 6 1)<|pG (au (x (6*k+q+18))) (aL G.aH (6*k+q+18))<|Dr (au n)<|pG (au ((x (6*k+q+18))+n)) eZ<|Dr ((pf c 18))<|pG ((pf c (6*k+18))) (je 6 6)<|pG ((pf c (6*k+q+18))) (je 6 1)<|Fx.St.nil ?_
   refine iQ G (6*k+q+18) (au ((x (6*k+q+18))+n)) fun w8 m19 R z6 => ?_
   have I:aP w8 c 54 (rv .i64 (upd x (6*k+q+18) ((x (6*k+q+18))+n))) 59:=m19.to (Fx.xu _ _ _ _)
   have m21:=m18.bZ R (by omega)
   have D:=R.below C C.size (by omega)
   refine aC<|ay<|Lv (.agg (aA 54 (rv .i64 (upd x (6*k+q+18) ((x (6*k+q+18))+n))))) (fA I.aH 0)<|fB m21 0 fun w9 m22 K z7 => ?_
   have m23:aP w9 h 54 (rv .i64 (upd x (6*k+q+18) ((x (6*k+q+18))+n))) 59:=aU m22
   have m24:=I.bZ K (by omega)
   have T:=K.below D D.size (by omega)
   refine av (au 0) (aC (Wr (⟨.tuple #[.agg (aA 54 (rv .i64 (upd x (6*k+q+18) ((x (6*k+q+18))+n)))),au 0],gG Tryz.results81 ⟨_,rfl,aT m23.aH (by kernel_rfl) (by kernel_rfl)⟩ (by exact rfl),?_⟩)))
   refine⟨?_,T⟩
   have a:cK x ((k:Int)+1) ((q:Int)+1) n=(upd x (6*k+q+18) (x (6*k+q+18)+n),0):=by
    unfold cK ni
    rw[if_neg g,mJ b k y,decide_eq_false o,Jm]
    exact ze b r s (by rw[l,d]; rfl) rfl (by omega)
   rw[a]
   all_goals rfl
  rw[Bool.not_eq_true]at d
  refine kg (qb j _) aF (by rw[d])<|av aG<|aC<|aM<|ay<|av (.agg (aA 54 (rv .i64 (fun _=>0))))<|fB u 0 fun rJ lW M z8 => ?_
  have mR:aP rJ h 54 (rv .i64 (fun _=>0)) 59:=aU lW
  have nY:=p.bZ M (by omega)
  have U:=M.below f f.size (by omega)
  refine av (au 10) (aC (Wr (sR (⟨.tuple #[.agg (aA 54 (rv .i64 (fun _=>0))),au 10],gG Tryz.results81 ⟨_,rfl,aT mR.aH (by kernel_rfl) (by kernel_rfl)⟩ (by exact rfl),?_⟩))))
  refine⟨?_,U⟩
  have a:cK x ((k:Int)+1) j n=(zero,10):=by
   unfold cK
   rw[d,Bool.and_false]
   exact OB b r s
  rw[a]
  all_goals rfl
 refine Lv aG (mE t)<|aC<|aM<|ay<|av (.agg (aA 54 (rv .i64 (fun _=>0))))<|av (au (dW x i n))<|fB u 0 fun DI nT N z9 => ?_
 have oF:aP DI h 54 (rv .i64 (fun _=>0)) 59:=aU nT
 have nE:=p.bZ N (by omega)
 have V:=N.below f f.size (by omega)
 refine av (au (dW x i n)) (aC (Wr (sR (⟨.tuple #[.agg (aA 54 (rv .i64 (fun _=>0))),au (dW x i n)],gG Tryz.results81 ⟨_,rfl,aT oF.aH (by kernel_rfl) (by kernel_rfl)⟩ (by exact rfl),?_⟩))))
 refine⟨?_,V⟩
 have a:cK x i j n=(zero,dW x i n):=by
  exact OC t
 rw[a]
 all_goals rfl
namespace Rt
theorem zS{m:jK}{x:Int}(h:0<=m.node x) : ∃ q:Nat,q<m.s.nn/\gF (fun i=>decide (m.id i=x)) m.s.nn=(q:Int)/\m.id q=x:=by
 rcases jf (fun i=>decide (m.id i=x)) m.s.nn with ⟨q,b,e,a⟩|⟨e,_⟩
 ·exact⟨q,b,e,of_decide_eq_true a⟩
 unfold jK.node at h; omega
theorem MR{n:Nat}{x:Nat->Int}{r:Int} : ∀ j,j<(n+1)*1->gM (rv .u64 x) (n*1) (bG (fun j=>rv .u64 (fun _=>0) (j % 1)) (0*1) 1 (fun _=>aD r)) j=rv .u64 (aJ x n r) j:=by
 intro j a
 unfold gM rv aJ
 by_cases h:j<n*1
 ·rw[if_pos h,if_neg (by omega)]
 rw[if_neg h,if_pos (by omega)]
 unfold bG
 rw[if_pos (by omega)]
theorem Jo{P:Nat->Bool}{n k j:Nat}(e:k=j+1)(h : ∀ i,k<=i->i<n->P i=true)(c:P j=true) : ∀ i,j<=i->i<n->P i=true:=fun i d b=>by
 by_cases a:i=j
 ·subst a; exact c
 ·exact h i (by omega) b
end Rt
theorem zT(m:jK)(p a:Nat)(o r:Int)(w:World)(h:Al w p m)(ha:a<6)(b:o=(a:Int)+1) :
 Calls Tryz.prog 108 #[(pt p),au o,aD r] w fun e w'=>e = .returned (.bool (decide (0<=m.jQ a r)))/\Below w.heap.size w w':=by
 subst b; exact Vd m p a r w h ha
set_option maxRecDepth 20000 in
set_option maxHeartbeats 2000000 in
theorem Vs(m:jK)(B p a D:Nat)(v:EvM)(w:World)(O:su w B p m)(G:B<=w.heap.size)(ha:a<6)(ho:v.o=(a:Int)+1)(bgg:m.s.gn<=900000)(X7 : ∀ i,i<6->m.rn i<=900000)(hTN : ∀ x,m.node x=bB m.t m.tn x)(hD:bB m.t m.tn (bf m.t m.tn D v.node)<0)(hD2:D<=1000) :
 Calls Tryz.prog 79 #[(pt p),.agg (aA 14 (bO v))] w fun e w'=>e = .returned (au (iE m.core v))/\Below B w w'/\(iE m.core v=0 -> ∃ m',m'.core=kK m.core v/\su w' B p m'):=by
 have RF:=O.c
 have hLn:=O.n
 have hLg:=O.g
 have RG:=O.tc
 have RH:=O.t
 have hLr:=O.r
 have RI:=O.pB
 have Cm:=O.tB
 have bn:=O.bn
 have bg:=O.bg
 have bt:=O.bt
 have ZJ:p<w.heap.size:=RF.lt
 have O9:m.tb<w.heap.size:=RG.lt
 refine Kent Tryz.func79 188 ?_
 refine ay<|pK fun I w1 kV m1 s1 z1 => ?_
 have⟨m2,m3,m4,m5,m6,m7⟩:=qo s1.old RF hLn hLg RG RH hLr
 have b1:=dX s1.old (Below.refl B w) G
 have tL:=jc kV (Below.refl B w).size
 have⟨mH,vZ⟩:=wM kV RF.lt RG.lt
 have vR:=m1.lt
 refine av (au 0)<|aC<|Ws<|ay<|av ((pt p))<|av ((pt I))<|Lv (au v.o) (aL m1.aH 0)<|av ((pf I 12))<|Lv (aD v.req) (aL m1.aH 12) ?_
 have K8:Al w1 p m := { c:=m2.aH,an:=m3.arr,ag:=m4.arr,tc:=m5.aH,at2:=m6.arr,ar:=fun i N=>(m7.1 i N).arr,bn:=(by show m.s.nn<=1000000; omega),bg:=bg,bt:=(by show m.tn<=1000000; omega),br:=O.br }
 by_cases c17:(decide (0<=m.jQ a v.req))=true
 ·refine dA (zT m p a v.o v.req _ K8 ha ho) aG (by rw[c17]) ?_
  intro w2 hb1
  have b2:=dX hb1 b1 G
  refine aC<|aM<|ay<|av (au 14)<|aC<|Wr<|sR<|aI (au 14) ?_
  have eN:bA v=a:=by unfold bA; omega
  have Y:iE m.core v=14:=by unfold iE; rw[eN]; exact if_pos (of_decide_eq_true c17)
  exact⟨nD Y.symm,b2,fun h0=>by rw[Y]at h0; cases h0⟩
 rw[Bool.not_eq_true]at c17
 refine dA (zT m p a v.o v.req _ K8 ha ho) aF (by rw[c17]) ?_
 intro w3 hb2
 have⟨m15,m16,m17,m18,m19,m20,m21⟩:=jl hb2 m2 m3 m4 m5 m6 m7 m1
 have b3:=dX hb2 b1 G
 refine aC<|aK<|Wk<|sN<|Ws ?_
 -- region 3 draws
 refine jo [0,1,2,4,3,5,6,7] [0,0,0,4,0,4,3,0] [(6,3,[3]),(6,5,[5]),(7,6,[6])] fun oU dL gU => ?_
 have⟨m22,m23,m24,lW,mR,nY,nT⟩:=jl dL m15 m16 m17 m18 m19 m20 m21
 have b4:=dX dL b3 G
 refine aV ((pt p))<|aV ((pt p))<|aV ((pf p 20))<|aV ((pf I 9))<|Rs ((pt m.tb)) (aL m22.aH 20) ?_
 refine Rs (aD v.node) (aL nT.aH 9) ?_
 refine fQ<|jM (DR m.tb m.ta m.tn m.tc m.t v.node D _ (pU lW mR bt) hD hD2) ?_
 rintro e w4 ⟨K,vv,he,hown,nZ,hK1,hb3⟩
 obtain⟨a1,C,rfl⟩:=hown.val
 refine⟨.slice a1 K C,he,?_⟩
 clear he
 have OD:K=dn m.t m.tn v.node:=qF nZ hK1 hD hD2
 have hKD:K<=1000:=by rw[OD]; exact CU _ _
 have⟨oF,nE,lH,m32,oI,nG,oJ⟩:=jl hb3 m22 m23 m24 lW mR nY nT
 have b5:=dX hb3 b4 G
 refine Ln<|aV (.slice a1 (K) (C))<|bM<|Ws<|ay<|av (.slice a1 (K) (C))<|av (au K) ?_
 by_cases c27:(K:Int)=0
 ·refine Lv aG (eP c27)<|aC<|aM<|ay<|av (au 9)<|aC<|Wr<|sR<|aI (au 9) ?_
  have eN:bA v=a:=by unfold bA; omega
  have ne1 : ¬ 0<=m.core.jQ (bA v) v.req:=by rw[eN]; exact of_decide_eq_false c17
  have Y:iE m.core v=9:=by unfold iE; rw[if_neg ne1]; exact if_pos (OD.symm.trans (by omega))
  exact⟨nD Y.symm,b5,fun h0=>by rw[Y]at h0; cases h0⟩
 refine Lv aF (fF c27)<|aC<|aK<|Wk<|sN<|Ws<|ay<|av (au 0)<|aC<|Wb<|Wo (fun f H => ∃ k:Nat,∃ Rk:Nat->Nat->Int,k<=K/\cO (fun x=>bE x v.o v.aX) (mY m.core v.node) m.R k=(Rk,0)/\f 0=(pt p)/\f 3=(pt I)/\f 5 = .slice a1 (K) (C)/\f 6=au ((k:Int))/\aP H p 27 (kJ m) 71/\Fx.Own H B 66 5 (.slice m.s.ga (m.s.gn) (m.s.gc)) m.s.gn (GK m)/\aP H m.tb 1 (fun _ => .slice m.ta m.tn m.tc) 123/\Fx.Own H B 128 2 (.slice m.ta (m.tn) (m.tc)) m.tn (Oj m.t)/\uZ H B 6 m/\aP H I 14 (bO v) 32/\Fx.Own H oU.heap.size 28 1 (.slice a1 (K) (C)) K (rv .u64 (fun i=>bf m.t m.tn i v.node))/\Fx.Own H B 61 56 (.slice m.s.na (m.s.nn) (m.s.nc)) m.s.nn (flat 56 (fun l=>kQ (m.id l) (m.par l) (Rk l)))/\Below B w H) (fun f _=>(K-(intOf (f 6)).toNat)) ⟨0,m.R,by omega,rfl,(by rfl),(by rfl),(by rfl),Fx.ic,oF,lH,m32,oI,nG,oJ,hown,nE,b5⟩ ?_
 rintro f1 w5 ⟨k,Rk,hk,hRk,h1,Q,h3,h4,pO,qL,qM,pQ,qW,mW,lY,lX,b6⟩
 refine Ws<|ay<|aS h4<|aS h3<|av (au K) ?_
 by_cases c31:(k:Int)<(K:Int)
 ·refine Lv aG (gy c31)<|aC<|aM<|Wk<|sN<|Ws<|Wb<|Ws ?_
  obtain⟨q,hq,eq0,_⟩:=zS (m:=m) (x:=bf m.t m.tn k v.node) (by rw[hTN]; exact nZ k (by omega))
  have ex1:mY m.core v.node k=q:=by show(gF (fun i=>decide (m.id i=bf m.t m.tn k v.node)) m.s.nn).toNat=q; rw[eq0]; rfl
  refine Wl<|aS h1<|aS h3<|aS h4 ?_
  obtain⟨BK,eq1⟩:=lY.addr (by omega)
  have qX:Fx.Own w5 oU.heap.size 28 1 (bI BK K C) K (rv .u64 (fun i=>bf m.t m.tn i v.node)):=lY.dU (congrArg (fun q=>Value.slice q K C) eq1)
  refine Lv ((pf BK k)) (cu 1 (hx:=(rfl.trans (congrArg (fun q=>Value.slice q (K) (C)) eq1))))<|Lv (aD (bf m.t m.tn k v.node)) (aL qX.aH k) ?_
  have oZ:Fx.Own w5 oU.heap.size 28 1 (.slice a1 (K) (C)) K (rv .u64 (fun i=>bf m.t m.tn i v.node)):=qX.dU (congrArg (fun q=>Value.slice q K C) eq1.symm)
  have RZ:Al w5 p { m with R:=Rk } := { c:=pO.aH,an:=lX.arr,ag:=qL.arr,tc:=qM.aH,at2:=pQ.arr,ar:=fun i N=>(qW.1 i N).arr,bn:=(by show m.s.nn<=1000000; omega),bg:=bg,bt:=(by show m.tn<=1000000; omega),br:=O.br }
  refine dA ((DN { m with R:=Rk } p (bf m.t m.tn k v.node) _ RZ).mono (fun e w2 Q=>(⟨Q.1.trans (nD eq0),Q.2⟩:e = .returned (au (q:Int))/\_))) _ rfl ?_
  intro w6 hb4
  have⟨mX,rM,vU,qY,qZ,uw,uS,rZ⟩:=lu hb4 pO qL qM pQ qW mW lX oZ
  have b7:=dX hb4 b6 G
  refine av (au q)<|aC<|Ws ?_
  -- region 10 draws
  obtain⟨V,ET⟩:=uS.addr (by omega)
  have sP:Fx.Own w6 B 61 56 (bI V m.s.nn m.s.nc) m.s.nn (flat 56 (fun l=>kQ (m.id l) (m.par l) (Rk l))):=uS.dU (congrArg (fun q=>Value.slice q m.s.nn m.s.nc) ET)
  refine qQ (T:=59) (T':=59) (a := .tmp 8) (v := .tmp 55) (m:=54) (z:=rv .i64 (fun _=>0)) (y:=rv .i64 ((bE (Rk q) v.o v.aX).1)) (u := .agg (aA 54 (rv .i64 ((bE (Rk q) v.o v.aX).1)))) 17 18 (List.replicate 20 (0,2,[],[])) #[(pt p),(pt p),(pt p),(pf p 18),.slice m.s.na (m.s.nn) (m.s.nc),au ((q:Int)),(pf V (56*q)),(pf V (56*q+2)),.agg (aA 54 (rv .i64 (Rk q))),(pt I),au v.o,(pf I 11),au v.aX,.tuple #[.agg (aA 54 (rv .i64 ((bE (Rk q) v.o v.aX).1))),au ((bE (Rk q) v.o v.aX).2)],.tuple #[.agg (aA 54 (rv .i64 ((bE (Rk q) v.o v.aX).1))),au ((bE (Rk q) v.o v.aX).2)],.agg (aA 54 (rv .i64 ((bE (Rk q) v.o v.aX).1))),au ((bE (Rk q) v.o v.aX).2),undef,undef,au ((bE (Rk q) v.o v.aX).2)] (by kernel_rfl) (by kernel_rfl) (by kernel_rfl) (by kernel_rfl) (by kernel_rfl) (by kernel_rfl) rfl (by kernel_rfl) rfl rfl (by kernel_rfl) (fun Z=>(show ev _ (.tmp 8)=(pt Z)from by kernel_rfl)) (fun Z=>(show ev _ (.tmp 55) = .agg (aA 54 (rv .i64 ((bE (Rk q) v.o v.aX).1)))from by kernel_rfl)) (bJ _ _) (fun _ _=>rfl) (by kernel_rfl) (fun Z => ?_) ?_
  ·refine⟨?_,?_,?_,?_,?_,?_,?_,?_,?_,?_,?_,?_,?_,?_,?_,?_,?_,?_,?_,?_,trivial⟩
   ·exact .inr (.inr (qR ((pt p)) fun d b=>fD rfl ((bU (by kernel_rfl)).trans h1)))
   ·exact .inr (.inr oD)
   ·exact .inr (.inr oD)
   ·exact .inr (.inr oD)
   ·exact .inr (.inr (qR (.slice m.s.na (m.s.nn) (m.s.nc)) fun d b=>bC (x:=kJ m) rfl (show ev _ (.tmp 44)=(pf p 18)from by kernel_rfl) (by kernel_rfl) (mX.aH.below b (by have:=mX.lt; omega)) (i:=18) (by omega) (by omega) rfl))
   ·exact .inr (.inr oD)
   ·exact .inr (.inr (qR ((pf V (56*q))) fun d b=>dR rfl ((show ev _ (.tmp 45) = .slice m.s.na (m.s.nn) (m.s.nc)from by kernel_rfl).trans (congrArg (fun q=>Value.slice q (m.s.nn) (m.s.nc)) ET)) (show ev _ (.tmp 46)=au ((q:Int))from by kernel_rfl) Tryz.underlying50 (s:=56) (by kernel_rfl) (by omega) (by omega) (by omega)))
   ·exact .inr (.inr oD)
   ·exact .inr (.inr (qR (.agg (aA 54 (rv .i64 (Rk q)))) fun d b=>dZ (x:=flat 56 (fun l=>kQ (m.id l) (m.par l) (Rk l))) (y:=rv .i64 (Rk q)) rfl (show ev _ (.tmp 48)=(pf V (56*q+2))from by kernel_rfl) (by kernel_rfl) (by kernel_rfl) (sP.aH.below b (by have:=sP.lt; omega)) (i:=56*q+2) (by omega) (by omega) (fun jq hjq=>(Fx.iT (k:=q) (j:=2+jq) (by omega) (by omega)).trans ((fun jq _=>CP _ _ _ jq) jq hjq))))
   ·exact .inr (.inr (qR ((pt I)) fun d b=>fI rfl ((bU (by kernel_rfl)).trans Q) Tryz.underlying32 rfl (s:=1) (by kernel_rfl) rfl rfl))
   ·exact .inr (.inr (qR (au v.o) fun d b=>bC (x:=bO v) rfl (show ev _ (.tmp 50)=(pt I)from by kernel_rfl) (by kernel_rfl) (uw.aH.below b (by have:=uw.lt; omega)) (i:=0) (by omega) (by omega) rfl))
   ·exact .inr (.inr (qR ((pf I 11)) fun d b=>fI rfl ((bU (by kernel_rfl)).trans Q) Tryz.underlying32 rfl (s:=1) (by kernel_rfl) rfl (by show _+11=_; omega)))
   ·exact .inr (.inr (qR (au v.aX) fun d b=>bC (x:=bO v) rfl (show ev _ (.tmp 52)=(pf I 11)from by kernel_rfl) (by kernel_rfl) (uw.aH.below b (by have:=uw.lt; omega)) (i:=11) (by omega) (by omega) rfl))
   ·exact .inr (.inr (Fx.Gn (v := .tuple #[.agg (aA 54 (rv .i64 ((bE (Rk q) v.o v.aX).1))),au ((bE (Rk q) v.o v.aX).2)]) (by kernel_rfl) (by kernel_rfl) (Fx.qbC (fun d b=>rC (args := [.agg (aA 54 (rv .i64 (Rk q))),au v.o,au v.aX]) rfl (Fx.L9 (show ev _ (.tmp 49) = .agg (aA 54 (rv .i64 (Rk q)))from by kernel_rfl) (show ev _ (.tmp 51)=au v.o from by kernel_rfl) (show ev _ (.tmp 53)=au v.aX from by kernel_rfl)) Tryz.func109 rfl rfl) (fun d b=>(Vp (Rk q) v.o v.aX _).mono fun e v2 h=>⟨h.1,h.2⟩))))
   ·exact .inr (.inr oD)
   ·exact .inr (.inr oD)
   ·exact .inr (.inr oD)
   ·exact .inl rfl
   ·exact .inr (.inl rfl)
   exact .inr (.inr oD)
  rintro Z w7 E A qO wP hb5
  have DV:p≠Z:=Nat.ne_of_lt (Nat.lt_of_lt_of_le (mX.lt) qO)
  have aiw:m.tb≠Z:=Nat.ne_of_lt (Nat.lt_of_lt_of_le (vU.lt) qO)
  have ZK:I≠Z:=Nat.ne_of_lt (Nat.lt_of_lt_of_le (uw.lt) qO)
  have aix:V≠Z:=Nat.ne_of_lt (Nat.lt_of_lt_of_le (sP.lt) qO)
  have⟨sQ,sS,rO,vV,pR,vW,mU,qN⟩:=lu hb5 mX rM vU qY qZ uw rZ sP
  have b8:=dX hb5 b7 G
  have qO:w.heap.size<=Z:=Nat.le_trans b7.size qO
  have zJ:=wP.lt
  have q1:E 0=(pt p):=by rw[A]; exact(bU (by kernel_rfl)).trans h1
  have q2:E 3=(pt I):=by rw[A]; exact(bU (by kernel_rfl)).trans Q
  have q3:E 5 = .slice a1 (K) (C):=by rw[A]; exact(bU (by kernel_rfl)).trans h3
  have q4:E 6=au ((k:Int)):=by rw[A]; exact(bU (by kernel_rfl)).trans h4
  have q5:E 28=au ((k:Int)):=by rw[A]; kernel_rfl
  have q6:E 29 = .slice a1 (K) (C):=by rw[A]; kernel_rfl
  have q7:E 30=au ((K:Int)):=by rw[A]; kernel_rfl
  have q8:E 31 = .bool true:=by rw[A]; kernel_rfl
  have q9:E 34=(pt p):=by rw[A]; kernel_rfl
  have q10:E 35 = .slice a1 (K) (C):=by rw[A]; kernel_rfl
  have q11:E 36=au ((k:Int)):=by rw[A]; kernel_rfl
  have q12:E 37=(pf BK k):=by rw[A]; kernel_rfl
  have q13:E 38=aD (bf m.t m.tn k v.node):=by rw[A]; kernel_rfl
  have q14:E 39=au ((q:Int)):=by rw[A]; kernel_rfl
  have q15:E 7=au ((q:Int)):=by rw[A]; kernel_rfl
  have q16:E 41=(pt p):=by rw[A]; kernel_rfl
  have q17:E 42=(pt p):=by rw[A]; kernel_rfl
  have q18:E 43=(pt p):=by rw[A]; kernel_rfl
  have q19:E 44=(pf p 18):=by rw[A]; kernel_rfl
  have q20:E 45 = .slice m.s.na (m.s.nn) (m.s.nc):=by rw[A]; kernel_rfl
  have q21:E 46=au ((q:Int)):=by rw[A]; kernel_rfl
  have q22:E 47=(pf V (56*q)):=by rw[A]; kernel_rfl
  have q23:E 48=(pf V (56*q+2)):=by rw[A]; kernel_rfl
  have q24:E 49 = .agg (aA 54 (rv .i64 (Rk q))):=by rw[A]; kernel_rfl
  have q25:E 50=(pt I):=by rw[A]; kernel_rfl
  have q26:E 51=au v.o:=by rw[A]; kernel_rfl
  have q27:E 52=(pf I 11):=by rw[A]; kernel_rfl
  have q28:E 53=au v.aX:=by rw[A]; kernel_rfl
  have q29:E 54 = .tuple #[.agg (aA 54 (rv .i64 ((bE (Rk q) v.o v.aX).1))),au ((bE (Rk q) v.o v.aX).2)]:=by rw[A]; kernel_rfl
  have q30:E 40 = .tuple #[.agg (aA 54 (rv .i64 ((bE (Rk q) v.o v.aX).1))),au ((bE (Rk q) v.o v.aX).2)]:=by rw[A]; kernel_rfl
  have q31:E 55 = .agg (aA 54 (rv .i64 ((bE (Rk q) v.o v.aX).1))):=by rw[A]; kernel_rfl
  have q32:E 56=au ((bE (Rk q) v.o v.aX).2):=by rw[A]; kernel_rfl
  have q33:E 8=(pt Z):=by rw[A]; kernel_rfl
  have q34:E 9=au ((bE (Rk q) v.o v.aX).2):=by rw[A]; kernel_rfl
  clear A
  refine sN<|Ws<|ay<|aS q34 ?_
  by_cases ZY:((bE (Rk q) v.o v.aX).2)=0
  ·refine Lv aF (jJ ZY)<|aC<|aK<|Wk<|sN ?_
   -- region 13 draws
   refine jo [0,1,2,3,5,4,6,7,8,9] [0,0,0,0,4,0,4,0,0,3] [(9,4,[4]),(9,6,[6])] fun yP fG lQ => ?_
   have⟨m64,wm,uy,uz,sj,ru,sU,sV,uD⟩:=Ay fG sQ sS rO vV pR vW mU qN wP
   have b9:=dX fG b8 G
   refine bQ q1<|aV ((pt p))<|aV ((pt p))<|aV ((pf p 18))<|bQ q15<|Rs (.slice m.s.na (m.s.nn) (m.s.nc)) (aL m64.aH 18) ?_
   refine Rs (.agg (aA 54 (rv .i64 ((bE (Rk q) v.o v.aX).1)))) (fA uD.aH 0 (ha:=q33)) ?_
   refine Rp ((pf V (56*q))) (fun _=>cu 56 (hx:=(rfl.trans (congrArg (fun q=>Value.slice q (m.s.nn) (m.s.nc)) ET))))<|aV ((pf V (56*q+2)))<|fQ<|yN sV (56*q+2) fun w8 sZ s9 z2 => ?_
   have gI:=gY s9 sV.Il
   have⟨yB,uE,wQ,wF,wR,vX,uT⟩:=PU gI m64 wm uy uz sj ru sU
   have b10:=s9.below b9 (Nat.le_trans G b9.size) sV.blk.1
   have wo:Fx.Own w8 B 61 56 (bI V m.s.nn m.s.nc) m.s.nn (flat 56 (fun l=>kQ (m.id l) (m.par l) (aJ Rk q ((bE (Rk q) v.o v.aX).1) l))):=sZ.congr (fun X W=>(Fx.Aw (k:=q) (j:=2) (by omega) (by omega) X W).trans (bH (fun i N j hj=>Bg i N j hj) X W))
   refine Ln<|Rn<|bP<|sN<|Wl<|aS q4<|Lv (au ((k:Int)+1)) eZ<|av (au ((k:Int)+1))<|Ln ?_
   have xW:Fx.Own w8 B 61 56 (.slice m.s.na (m.s.nn) (m.s.nc)) m.s.nn (flat 56 (fun l=>kQ (m.id l) (m.par l) (aJ Rk q ((bE (Rk q) v.o v.aX).1) l))):=wo.dU (congrArg (fun q=>Value.slice q m.s.nn m.s.nc) ET.symm)
   refine gJ ⟨k+1,(aJ Rk q (bE (Rk q) v.o v.aX).1),by omega,(D8 hRk ex1 (by first|exact ZY|exact Classical.not_not.1 ZY)),q1,q2,q3,Fx.ic,yB,uE,wQ,wF,wR,vX,uT,xW,b10⟩ ?_
   show(K-(intOf ((au ((k:Int)+1)))).toNat)<_
   simp only[h4,intOf]; omega
  refine Lv aG (mE ZY)<|aC<|aM<|ay<|aS q34<|av (au ((bE (Rk q) v.o v.aX).2))<|aC<|Wr<|sR<|bK<|sR<|oQ<|bK<|sR<|aI (au ((bE (Rk q) v.o v.aX).2)) ?_
  have eN:bA v=a:=by unfold bA; omega
  have ne1 : ¬ 0<=m.core.jQ (bA v) v.req:=by rw[eN]; exact of_decide_eq_false c17
  have Z0 : ¬ dn m.core.t m.core.tn v.node=0:=fun e=>c27 (by rw[show K=0 from OD.trans e]; rfl)
  have ew:lK m.core v=cO (fun x=>bE x v.o v.aX) (mY m.core v.node) m.R K:=by unfold lK; rw[show dn m.core.t m.core.tn v.node=K from OD.symm]; rfl
  have Y:iE m.core v=(bE (Rk q) v.o v.aX).2:=by
   unfold iE; rw[if_neg ne1,if_neg Z0,ew]
   have e1:=FJ hRk ex1 ZY
   rw[za (k:=k+1) (by rw[e1]; exact ZY) K (by omega)]; exact e1
  exact⟨nD Y.symm,b8,fun h0=>absurd (Y.symm.trans h0) ZY⟩
 refine Lv aF (gD c31)<|aC<|aK<|Wx<|bV<|fU<|bW<|sN<|Ws ?_
 have hRK:cO (fun x=>bE x v.o v.aX) (mY m.core v.node) m.R K=(Rk,0):=by rw[show K=k by omega]; exact hRk
 refine Wl<|Lv ((pt I)) (iN Q 0)<|Lv (au v.o) (aL mW.aH 0)<|Lv ((pf I 12)) (iN Q 12)<|Lv (aD v.req) (aL mW.aH 12)<|Lv ((pf I 9)) (iN Q 9)<|Lv (aD v.node) (aL mW.aH 9)<|Lv ((pf I 11)) (iN Q 11)<|Lv (au v.aX) (aL mW.aH 11)<|av (.agg (aA 5 (bG (bG (bG (bG (fun J=>if J<1 then au 0 else if J<3 then aD 0 else if J<4 then au 0 else aD 0) 0 1 (fun _=>au v.o)) 1 1 (fun _=>aD v.req)) 2 1 (fun _=>aD v.node)) 3 1 (fun _=>au v.aX))))<|wC 5 (fun J=>if J<1 then au 0 else if J<3 then aD 0 else if J<4 then au 0 else aD 0) fun U w9 yT wu s10 z3 => ?_
 have⟨yR,yC,xX,xG,xY,yS,AZ⟩:=jl s10.old pO qL qM pQ qW mW lX
 have b11:=dX s10.old b6 G
 have Dy:=jc yT b6.size
 have ZL:=bY yT pO.lt
 have GL:(.slice m.s.ga (m.s.gn) (m.s.gc):Value).ownBlock≠some U:=by rw[yT]; exact qL.jC (Nat.le_refl _)
 have⟨ZM,aiz⟩:=wM yT qM.lt mW.lt
 have KQ:=wu.lt
 refine fB wu 0 (h1:=(bT (bT (bT (bT (fun jq _=>by show((fun J=>if J<1 then au 0 else if J<3 then aD 0 else if J<4 then au 0 else aD 0:Nat->Value) jq).oneCell'=true; simp only[]; repeat (first|rfl|split)) (fun _ _=>rfl)) (fun _ _=>rfl)) (fun _ _=>rfl)) (fun _ _=>rfl))) fun rJ zN s11 z4 => ?_
 have zO:aP rJ U 5 (bG (bG (bG (bG (fun J=>if J<1 then au 0 else if J<3 then aD 0 else if J<4 then au 0 else aD 0) 0 1 (fun _=>au v.o)) 1 1 (fun _=>aD v.req)) 2 1 (fun _=>aD v.node)) 3 1 (fun _=>au v.aX)) 66:=aU zN
 have jN:=gY s11 wu.ty
 have xL:=kR jN yR
 have Ck:=yC.bZ s11 GL
 have⟨A8,CS,DU,vk,vo⟩:=qp jN xX xG xY yS AZ
 have b12:=s11.below b11 (Nat.le_trans G b11.size) (by omega)
 refine aC<|Ws ?_
 have sw:aP rJ U 5 (iM (uF v)) 66:=zO.congr (fun j hj=>by rcases j with _|_|_|_|_|j <;> first|rfl|omega)
 refine Wl<|aS h1<|av ((pt p))<|av ((pt p))<|av ((pf p 19))<|Lv (.slice m.s.ga (m.s.gn) (m.s.gc)) (aL xL.aH 19)<|av (au m.s.gn)<|av (au m.s.gn)<|aC<|Ws ?_
 -- region 16 draws
 refine Ak [0,1,2,3,4,5,6,7,8,9,10,11,12] [0,0,0,0,0,1,4,2,2,0,0,0,3] (iG [66]) vP Fx.iG.trans (fu := [(12,5,[5]),(7,6,[6]),(8,6,[7,6]),(12,6,[6]),(8,7,[7]),(9,7,[7]),(10,7,[7]),(11,7,[7]),(12,7,[7]),(9,8,[8]),(10,8,[8]),(11,8,[8]),(12,8,[8])]) (by kernel_rfl) (by kernel_rfl) (by kernel_rfl) (by kernel_rfl) (by kernel_rfl) fun Pb kF zH => ?_
 have⟨og,nJ,oN,oh,pV,qE,tZ,pW⟩:=lu kF xL Ck A8 CS DU vk vo sw
 have b13:=dX kF b12 G
 refine bQ h1<|bQ h1<|aV ((pt p))<|aV ((pt p))<|aV ((pf p 19))<|Rd (v := .slice m.s.ga (m.s.gn) (m.s.gc)) (by rfl) (by rfl) (vP _) (fun d b=>bC (x:=kJ m) rfl rfl (by kernel_rfl) (og.jG b (by decide)).aH (i:=19) (by omega) (by omega) rfl) ?_
 refine Rs (.agg (aA 5 (iM (uF v)))) (fA pW.aH 0) ?_
 refine zC<|yj (vs := [(0,.agg (aA 5 (iM (uF v))))]) (s:=5) (zc:=fun J=>if J<1 then au 0 else if J<3 then aD 0 else if J<4 then au 0 else aD 0) (y:=bG (fun j=>(fun J=>if J<1 then au 0 else if J<3 then aD 0 else if J<4 then au 0 else aD 0) (j % 5)) (0*5) 5 (iM (uF v))) (by rfl) rfl rfl Tryz.underlying51 (by kernel_rfl) (by rfl) (by rfl) (by kernel_rfl) (by rw[bD (off:=0*5) (s:=5) (y:=iM (uF v)) rfl (bJ _ _) (by rfl)]; rfl) rfl fun g4 DI KJ sD s13 z5 => ?_
 have⟨xZ,uf,yc,A9,wz,sF,oO,wU⟩:=lu s13.old og nJ oN oh pV qE tZ pW
 have b14:=dX s13.old b13 G
 have Uq:=jc KJ b13.size
 have Vt:=bY KJ og.lt
 have Vu:(.slice m.s.ga (m.s.gn) (m.s.gc):Value).ownBlock≠some g4:=by rw[KJ]; exact nJ.jC (Nat.le_refl _)
 have⟨agb,Vv,agc⟩:=Iq KJ oN.lt qE.lt pW.lt
 have R3:=sD.lt
 refine Ln ⟨Fx.iG.of_below s13.old,?_⟩
 refine zC<|yI (B:=B) (s:=5) (bytes:=40) (k:=m.s.gn) (m:=1) (v := .slice m.s.ga (m.s.gn) (m.s.gc)) (x:=GK m) (by rfl) rfl rfl rfl Tryz.underlying51 (by kernel_rfl) (by kernel_rfl) rfl rfl uf sD.aH (xM (rU _)) (by omega) (by omega) (by omega) (Nat.le_trans G b14.size) fun F C Ch ho1 hg1 tJ hlt1 => ?_
 have qy:=yL hg1 uf
 have⟨sG,Ba,GN,DW,zP,DX⟩:=PS qy xZ yc A9 wz sF oO
 have EP:=wU.grown hg1 GL
 have agd:U≠F:=fun e=>tJ.elim (fun e2=>GL (by rw[e]; exact e2)) (fun e2=>by have:=wU.lt; omega)
 have wV:Fx.Own Ch B 66 5 (bI F (m.s.gn+1) C) (m.s.gn+1) (flat 5 (Fx.Im (fun l=>iM (m.g l)) (iM (uF v)) m.s.gn m.s.gn)):=(ho1.congr (fun j hj=>(Fx.wJ j hj).trans (bH (fun i N q _=>Fx.wK i N q) j hj)))
 have b15:Below B w Ch:=xR b14 hg1 (Nat.le_trans G b14.size) (fun q hq=>(uf.ge hq).1)
 refine Ln ⟨qy,?_⟩
 refine aV ((pt p))<|aV ((pt p))<|aV ((pf p 19))<|fQ<|iQ sG 19 (bI F (m.s.gn+1) C) fun EN Bb AQ z6 => ?_
 have yQ:=gY AQ sG.ty
 have⟨yY,GZ,Jg,DY,DZ,ER,ES⟩:=PU yQ Ba GN DW zP DX EP wV
 have b16:=AQ.below b15 (Nat.le_trans G b15.size) (by omega)
 refine Ln<|bM<|Cy (fun f H => ∃ k:Nat,k<=m.s.gn/\k=down (fun i=>D9 v (m.g i)) m.s.gn/\f 0=(pt p)/\f 3=(pt I)/\f 10=(pt U)/\f 11=au ((k:Int))/\aP H m.tb 1 (fun _ => .slice m.ta m.tn m.tc) 123/\Fx.Own H B 128 2 (.slice m.ta (m.tn) (m.tc)) m.tn (Oj m.t)/\uZ H B 6 m/\aP H I 14 (bO v) 32/\Fx.Own H B 61 56 (.slice m.s.na (m.s.nn) (m.s.nc)) m.s.nn (flat 56 (fun l=>kQ (m.id l) (m.par l) (Rk l)))/\aP H U 5 (iM (uF v)) 66/\aP H p 27 (dz (kJ m) 19 (bI F (m.s.gn+1) C)) 71/\Fx.Own H B 66 5 (bI F (m.s.gn+1) C) (m.s.gn+1) (flat 5 (Fx.Im (fun l=>iM (m.g l)) (iM (uF v)) m.s.gn k))/\Below B w H) ?_ ?_
 ·refine Wb<|Wo (fun f H => ∃ k:Nat,k<=m.s.gn/\(∀ i,k<=i->i<m.s.gn->D9 v (m.g i)=true)/\f 0=(pt p)/\f 3=(pt I)/\f 10=(pt U)/\f 11=au ((k:Int))/\aP H m.tb 1 (fun _ => .slice m.ta m.tn m.tc) 123/\Fx.Own H B 128 2 (.slice m.ta (m.tn) (m.tc)) m.tn (Oj m.t)/\uZ H B 6 m/\aP H I 14 (bO v) 32/\Fx.Own H B 61 56 (.slice m.s.na (m.s.nn) (m.s.nc)) m.s.nn (flat 56 (fun l=>kQ (m.id l) (m.par l) (Rk l)))/\aP H U 5 (iM (uF v)) 66/\aP H p 27 (dz (kJ m) 19 (bI F (m.s.gn+1) C)) 71/\Fx.Own H B 66 5 (bI F (m.s.gn+1) C) (m.s.gn+1) (flat 5 (Fx.Im (fun l=>iM (m.g l)) (iM (uF v)) m.s.gn k))/\Below B w H) (fun f _=>(intOf (f 11)).toNat) ⟨m.s.gn,by omega,(fun i h1 Q=>absurd h1 (by omega)),h1,Q,(by rfl),Fx.ic,yY,GZ,Jg,DY,DZ,ER,Bb,ES,b16⟩ ?_
  rintro f3 L ⟨k,hk,hgt,S,h6,h7,M,Bc,D5,Bd,Ed,D6,yZ,Bf,zQ,b17⟩
  refine Ws<|Ws ?_
  -- region 17 draws
  refine wh<|dS M ?_
  by_cases c97:0<(k:Int)
  ·obtain⟨j,ej⟩ : ∃ j,k=j+1:=⟨k-1,by omega⟩
   refine Qv aG (fun d b=>jY c97)<|aR aG<|dS S<|aR ((pt p))<|aR ((pt p))<|aR ((pf p 19))<|Qv (bI F (m.s.gn+1) C) (fun d b=>aL (Bf.aH.dr b) 19 (Fx.jW (by omega)))<|dS M<|Qv (au j) (fun d b=>fO)<|Qv ((pf F (5*j))) (fun d b=>cu 5)<|aR ((pf F (5*j)))<|Qv (au ((m.g j) 0)) (fun d b=>aL (zQ.aH.dr b) (5*j) (Fx.gW (k:=j) (j:=0) (by omega) (by omega) ((congrFun (Fx.yt (by omega) (by omega)) 0).trans rfl)))<|Qv ((pt U)) (fun d b=>iN h7 0)<|Qv (au v.o) (fun d b=>aL (yZ.aH.dr b) 0) ?_
   by_cases R4:v.o<((m.g j) 0)
   ·refine Qv aG (fun d b=>jY R4)<|aR aG<|aN<|aN<|aN<|aN<|aN<|aN<|aN<|aN<|aN<|aN<|aN<|aN<|aN<|aN<|aN<|aN<|aN<|aN<|aN<|aN<|aN<|aN<|aN ?_
    refine aN<|aN<|aN<|aN<|aN<|aR aG<|aR aG<|Qn ?_
    rintro _ ⟨P,rfl⟩
    obtain⟨BI,qD⟩ : ∃ d,d=World.drewN L P:=⟨_,rfl⟩
    rw[<- qD]
    have s15:Stp L.heap.size L BI:=by rw[qD]; exact Sb (iU L P)
    have⟨GQ,RJ,R5,RL,RN,Z4,RO,ZN⟩:=lu s15.old Bc D5 Bd Ed D6 yZ Bf zQ
    have b18:=dX s15.old b17 G
    clear qD
    refine sN<|aM<|Wk<|sN<|Wb<|Ws ?_
    -- region 18 draws
    refine jo [0,1,2,3,5,6,7,8,9,11,12,4,10,13,14,15,16] [0,0,0,0,4,0,0,0,0,0,4,0,0,0,4,0,3] [(16,4,[4]),(16,10,[10]),(16,14,[14])] fun Zd oV Fv => ?_
    have⟨RP,Oq,RQ,RS,ZO,ZP,Z5,Ot⟩:=lu oV GQ RJ R5 RL RN Z4 RO ZN
    have b19:=dX oV b18 G
    refine bQ S<|aV ((pt p))<|aV ((pt p))<|aV ((pf p 19))<|bQ M<|bQ S<|aV ((pt p))<|aV ((pt p))<|aV ((pf p 19))<|bQ M<|Rp (au j) (fun _=>fO)<|Rs (bI F (m.s.gn+1) C) (aL Z5.aH 19 (Fx.jW (by omega))) ?_
    refine Rs (bI F (m.s.gn+1) C) (aL Z5.aH 19 (Fx.jW (by omega))) ?_
    refine Rp ((pf F (5*j))) (fun _=>cu 5)<|Rs (.agg (aA 5 (iM (m.g j)))) (fA Ot.aH (5*j) (fun jq hjq=>(Fx.iT (k:=j) (by omega) hjq).trans (congrFun (Fx.yt (by omega) (by omega)) jq))) ?_
    refine Rp ((pf F (5*k))) (fun _=>cu 5)<|fQ<|yN Ot (5*k) (h1:=(fun j _=>rU _ j)) fun Mw ZQ H7 z7 => ?_
    have xU:=gY H7 Ot.Il
    have⟨adG,ZR,ZT,ZU,aiA⟩:=qp xU RP Oq RQ RS ZO
    have aiB:=ZP.bZ H7 (by omega)
    have aiC:=kR xU Z5
    have b20:=H7.below b19 (Nat.le_trans G b19.size) Ot.blk.1
    have aiD:Fx.Own Mw B 66 5 (bI F (m.s.gn+1) C) (m.s.gn+1) (flat 5 (Fx.Im (fun l=>iM (m.g l)) (iM (uF v)) m.s.gn j)):=ZQ.congr (fun X W=>(Fx.tF (k:=k) (by omega) X W).trans (bH (fun i N q _=>Fx.xw ej (by omega) i N q) X W))
    refine Ln<|bM<|Wl<|aS M<|Lv (au j) fO<|av (au j)<|Ln<|bP<|gJ ⟨j,by omega,(Jo ej hgt (by unfold D9; rw[decide_eq_true R4]; rfl)),S,h6,h7,Fx.ic,adG,ZR,ZT,ZU,aiA,aiB,aiC,aiD,b20⟩ ?_
    show(intOf ((au j))).toNat<_
    simp only[M,intOf]; omega
   refine Qv aF (fun d b=>jZ R4)<|aR aF<|dS S<|aR ((pt p))<|aR ((pt p))<|aR ((pf p 19))<|Qv (bI F (m.s.gn+1) C) (fun d b=>aL (Bf.aH.dr b) 19 (Fx.jW (by omega)))<|dS M<|Qv (au j) (fun d b=>fO)<|Qv ((pf F (5*j))) (fun d b=>cu 5)<|aR ((pf F (5*j)))<|Qv (au ((m.g j) 0)) (fun d b=>aL (zQ.aH.dr b) (5*j) (Fx.gW (k:=j) (j:=0) (by omega) (by omega) ((congrFun (Fx.yt (by omega) (by omega)) 0).trans rfl)))<|Qv ((pt U)) (fun d b=>iN h7 0)<|Qv (au v.o) (fun d b=>aL (yZ.aH.dr b) 0) ?_
   by_cases Vw:((m.g j) 0)=v.o
   ·refine Qv aG (fun d b=>eP Vw)<|aR aG<|dS S<|aR ((pt p))<|aR ((pt p))<|aR ((pf p 19))<|Qv (bI F (m.s.gn+1) C) (fun d b=>aL (Bf.aH.dr b) 19 (Fx.jW (by omega)))<|dS M<|Qv (au j) (fun d b=>fO)<|Qv ((pf F (5*j))) (fun d b=>cu 5)<|aR ((pf F (5*j+1)))<|Qv (aD ((m.g j) 1)) (fun d b=>aL (zQ.aH.dr b) (5*j+1) (Fx.gW (k:=j) (j:=1) (by omega) (by omega) ((congrFun (Fx.yt (by omega) (by omega)) 1).trans rfl)))<|Qv ((pf U 1)) (fun d b=>iN h7 1)<|Qv (aD v.req) (fun d b=>aL (yZ.aH.dr b) 1) ?_
    by_cases c139:v.req<((m.g j) 1)
    ·refine Qv aG (fun d b=>jY c139)<|aR aG<|aR aG<|aR aG<|Qn ?_
     rintro _ ⟨P,rfl⟩
     obtain⟨wq2,vg⟩ : ∃ d,d=World.drewN L P:=⟨_,rfl⟩
     rw[<- vg]
     have Ki:Stp L.heap.size L wq2:=by rw[vg]; exact Sb (iU L P)
     have⟨aiE,aiF,aiG,aiH,aiI,aiJ,aiK,aiL⟩:=lu Ki.old Bc D5 Bd Ed D6 yZ Bf zQ
     have KP:=dX Ki.old b17 G
     clear vg
     refine sN<|aM<|Wk<|sN<|Wb<|Ws ?_
     -- region 18 draws
     refine jo [0,1,2,3,5,6,7,8,9,11,12,4,10,13,14,15,16] [0,0,0,0,4,0,0,0,0,0,4,0,0,0,4,0,3] [(16,4,[4]),(16,10,[10]),(16,14,[14])] fun wt5 yA Qu => ?_
     have⟨aiM,aiN,aiO,aiP,aiQ,aiR,Z6,Vx⟩:=lu yA aiE aiF aiG aiH aiI aiJ aiK aiL
     have Kg:=dX yA KP G
     refine bQ S<|aV ((pt p))<|aV ((pt p))<|aV ((pf p 19))<|bQ M<|bQ S<|aV ((pt p))<|aV ((pt p))<|aV ((pf p 19))<|bQ M<|Rp (au j) (fun _=>fO)<|Rs (bI F (m.s.gn+1) C) (aL Z6.aH 19 (Fx.jW (by omega))) ?_
     refine Rs (bI F (m.s.gn+1) C) (aL Z6.aH 19 (Fx.jW (by omega))) ?_
     refine Rp ((pf F (5*j))) (fun _=>cu 5)<|Rs (.agg (aA 5 (iM (m.g j)))) (fA Vx.aH (5*j) (fun jq hjq=>(Fx.iT (k:=j) (by omega) hjq).trans (congrFun (Fx.yt (by omega) (by omega)) jq))) ?_
     refine Rp ((pf F (5*k))) (fun _=>cu 5)<|fQ<|yN Vx (5*k) (h1:=(fun j _=>rU _ j)) fun w16 aiS s20 z8 => ?_
     have xV:=gY s20 Vx.Il
     have⟨aiT,aiU,aiV,aiW,aiX⟩:=qp xV aiM aiN aiO aiP aiQ
     have aiY:=aiR.bZ s20 (by omega)
     have aiZ:=kR xV Z6
     have Qp:=s20.below Kg (Nat.le_trans G Kg.size) Vx.blk.1
     have aja:Fx.Own w16 B 66 5 (bI F (m.s.gn+1) C) (m.s.gn+1) (flat 5 (Fx.Im (fun l=>iM (m.g l)) (iM (uF v)) m.s.gn j)):=aiS.congr (fun X W=>(Fx.tF (k:=k) (by omega) X W).trans (bH (fun i N q _=>Fx.xw ej (by omega) i N q) X W))
     refine Ln<|bM<|Wl<|aS M<|Lv (au j) fO<|av (au j)<|Ln<|bP<|gJ ⟨j,by omega,(Jo ej hgt (by unfold D9; rw[decide_eq_true Vw,decide_eq_true c139]; cases decide (v.o<m.g j 0) <;> rfl)),S,h6,h7,Fx.ic,aiT,aiU,aiV,aiW,aiX,aiY,aiZ,aja,Qp⟩ ?_
     show(intOf ((au j))).toNat<_
     simp only[M,intOf]; omega
    refine Qv aF (fun d b=>jZ c139)<|aR aF<|aR aF<|aR aF<|Qn ?_
    rintro _ ⟨P,rfl⟩
    obtain⟨Oy,Ee⟩ : ∃ d,d=World.drewN L P:=⟨_,rfl⟩
    rw[<- Ee]
    have s21:Stp L.heap.size L Oy:=by rw[Ee]; exact Sb (iU L P)
    have⟨ajb,ajc,ajd,aje,ajf,ajg,ajh,aji⟩:=lu s21.old Bc D5 Bd Ed D6 yZ Bf zQ
    have Qq:=dX s21.old b17 G
    clear Ee
    refine sN<|aK<|Wx<|bV<|fU<|bW ?_
    exact wD ⟨k,hk,(Fx.nR hk hgt (.inr (fun j2 e=>by rw[show j2=j by omega]; unfold D9; rw[decide_eq_false R4,decide_eq_false c139,Bool.and_false]; rfl))),S,h6,h7,(M.trans Fx.ic),ajb,ajc,ajd,aje,ajf,ajg,ajh,aji,Qq⟩
   refine Qv aF (fun d b=>fF Vw)<|aR aF<|aN<|aN<|aN<|aN<|aN<|aN<|aN<|aN<|aN<|aN<|aN<|aN<|aN<|aR aF<|aR aF<|aR aF<|Qn ?_
   rintro _ ⟨P,rfl⟩
   obtain⟨ZX,Ef⟩ : ∃ d,d=World.drewN L P:=⟨_,rfl⟩
   rw[<- Ef]
   have s22:Stp L.heap.size L ZX:=by rw[Ef]; exact Sb (iU L P)
   have⟨ajj,ajk,ajl,ajm,ajn,ajo,ajp,ajq⟩:=lu s22.old Bc D5 Bd Ed D6 yZ Bf zQ
   have Ze:=dX s22.old b17 G
   clear Ef
   refine sN<|aK<|Wx<|bV<|fU<|bW ?_
   exact wD ⟨k,hk,(Fx.nR hk hgt (.inr (fun j2 e=>by rw[show j2=j by omega]; unfold D9; rw[decide_eq_false R4,decide_eq_false Vw]; rfl))),S,h6,h7,(M.trans Fx.ic),ajj,ajk,ajl,ajm,ajn,ajo,ajp,ajq,Ze⟩
  refine Qv aF (fun d b=>jZ c97)<|aR aF<|aN<|aN<|aN<|aN<|aN<|aN<|aN<|aN<|aN<|aN<|aN<|aN<|aN<|aN<|aN<|aN<|aN<|aN<|aN<|aN<|aN<|aN<|aN ?_
  refine aN<|aN<|aN<|aN<|aN<|aN<|aN<|aN<|aN<|aN<|aN<|aN<|aN<|aN<|aN<|aN<|aN<|aN<|aN<|aN<|aR aF<|Qn ?_
  rintro _ ⟨P,rfl⟩
  obtain⟨wq5,K9⟩ : ∃ d,d=World.drewN L P:=⟨_,rfl⟩
  rw[<- K9]
  have s23:Stp L.heap.size L wq5:=by rw[K9]; exact Sb (iU L P)
  have⟨ajr,ajs,ajt,aju,ajv,ajw,ajx,ajy⟩:=lu s23.old Bc D5 Bd Ed D6 yZ Bf zQ
  have UW:=dX s23.old b17 G
  clear K9
  refine sN<|aK<|Wx<|bV<|fU<|bW ?_
  exact wD ⟨k,hk,(Fx.nR hk hgt (.inl (by omega))),S,h6,h7,(M.trans Fx.ic),ajr,ajs,ajt,aju,ajv,ajw,ajx,ajy,UW⟩
 rintro f4 Qy ⟨k,hk,ek,h9,h10,h11,h12,ajz,ajA,ajB,ajC,ajD,ajE,ajF,ajG,UY⟩
 refine Ws ?_
 -- region 20 draws
 refine jo [0,1,2,3,5,4,6,7,8] [0,0,0,0,4,0,4,0,3] [(8,4,[4]),(8,6,[6])] fun wt6 IV ade => ?_
 have⟨ajH,ajI,ajJ,ajK,ajL,adQ,adR,Z7⟩:=lu IV ajz ajA ajB ajC ajD ajE ajF ajG
 have NZ:=dX IV UY G
 refine bQ h9<|aV ((pt p))<|aV ((pt p))<|aV ((pf p 19))<|bQ h12<|Rs (bI F (m.s.gn+1) C) (aL adR.aH 19 (Fx.jW (by omega))) ?_
 refine Rs (.agg (aA 5 (iM (uF v)))) (fA adQ.aH 0 (ha:=h11)) ?_
 refine Rp ((pf F (5*k))) (fun _=>cu 5)<|fQ<|yN Z7 (5*k) (h1:=(fun j _=>rU _ j)) fun Qz ajM XM z9 => ?_
 have zM:=gY XM Z7.Il
 have⟨ajN,ajO,adS,ajP,ajQ⟩:=qp zM ajH ajI ajJ ajK ajL
 have ajR:=adQ.bZ XM (by omega)
 have ajS:=kR zM adR
 have b29:=XM.below NZ (Nat.le_trans G NZ.size) Z7.blk.1
 have ajT:Fx.Own Qz B 66 5 (bI F (m.s.gn+1) C) (m.s.gn+1) (flat 5 (Fx.Gs (fun l=>iM (m.g l)) k (iM (uF v)))):=ajM.congr (fun X W=>(Fx.tF (k:=k) (by omega) X W).trans (bH (fun i N q _=>Fx.rF (by omega) i N q) X W))
 refine Ln<|bM<|Ws ?_
 have ajU:Fx.Own Qz B 28 1 (.slice (m.ra a) ((m.rn a)) ((m.rc a))) (m.rn a) (rv .u64 (m.rq a)):=adS.1 a ha
 have bra:=O.br a ha
 -- region 21 draws
 refine Ak [0,1,4,5,8,9,12,16,17,2,3,6,7,10,11,13,14,15,18,19] [0,0,1,0,0,0,1,0,0,0,0,1,0,4,2,2,0,0,0,3] (iG [28]) vP Fx.iG.trans (fu := [(19,2,[2]),(19,6,[6]),(19,11,[11]),(14,13,[13]),(15,13,[14,13]),(19,13,[13]),(15,14,[14]),(18,14,[14]),(19,14,[14]),(18,15,[15]),(19,15,[15])]) (by kernel_rfl) (by kernel_rfl) (by kernel_rfl) (by kernel_rfl) (by kernel_rfl) fun wt7 IW adg => ?_
 have⟨adT,ajV,ajW,Vy,ajX,ajY,Z8,adU,adV⟩:=Ay IW ajN ajO adS ajP ajQ ajR ajS ajT ajU
 have Zf:=dX IW b29 G
 refine bQ h9<|Rp ((pt I)) (fun _=>iN h10 0)<|bQ h9<|Rp ((pt I)) (fun _=>iN h10 0)<|aV ((pt p))<|aV ((pf p 21))<|Rp ((pf I 12)) (fun _=>iN h10 12)<|aV ((pt p))<|aV ((pf p 21))<|Rd (v:=au v.o) (by rfl) (by rfl) (vP _) (fun d b=>bC (x:=bO v) rfl rfl (by kernel_rfl) (Vy.jG b (by decide)).aH (i:=0) (by omega) (by omega) rfl) ?_
 refine Rp (au a) (fun _=>fO)<|Rd (v:=au v.o) (by rfl) (by rfl) (vP _) (fun d b=>bC (x:=bO v) rfl rfl (by kernel_rfl) (Vy.jG b (by decide)).aH (i:=0) (by omega) (by omega) rfl) ?_
 refine Rp (au a) (fun _=>fO)<|Rp ((pf p (a+21))) (fun _=>je 6 1)<|Rd (v := .slice (m.ra a) ((m.rn a)) ((m.rc a))) (by rfl) (by rfl) (vP _) (fun d b=>bC (x:=dz (kJ m) 19 (bI F (m.s.gn+1) C)) rfl rfl (by kernel_rfl) (Z8.jG b (by decide)).aH (i:=a+21) (by omega) (by omega) (Fx.zx (by omega) (uY _ (by omega)))) ?_
 refine Rs (aD v.req) (aL Vy.aH 12) ?_
 refine zC<|yj (vs := [(0,aD v.req)]) (s:=1) (zc:=rv .u64 (fun _=>0)) (y:=bG (fun j=>(rv .u64 (fun _=>0)) (j % 1)) (0*1) 1 (fun _=>aD v.req)) (by rfl) rfl rfl Tryz.underlying63 (by kernel_rfl) (by rfl) (by rfl) (by kernel_rfl) (by rw[bD (off:=0*1) (s:=1) (y:=fun _=>aD v.req) rfl (cells_one (by rfl)) (by rfl)]; rfl) rfl fun g6 XO Z9 adW s27 z10 => ?_
 have⟨ajZ,akb,akc,akd,ake,akf,aac⟩:=jl s27.old adT ajV ajW ajX Z8 adU adV
 have Zg:=dX s27.old Zf G
 have lg6:=jc Z9 Zf.size
 have⟨agf,agh,agi,agj,agk⟩:=AA Z9 adT.lt Vy.lt ajY.lt Z8.lt adU.lt
 have agl:(.slice (m.ra a) ((m.rn a)) ((m.rc a)):Value).ownBlock≠some g6:=by rw[Z9]; exact adV.jC (Nat.le_refl _)
 have tg6:=adW.lt
 refine Ln ⟨Fx.iG.of_below s27.old,?_⟩
 refine zC<|yI (B:=B) (s:=1) (bytes:=8) (k:=(m.rn a)) (m:=1) (v := .slice (m.ra a) ((m.rn a)) ((m.rc a))) (x:=rv .u64 (m.rq a)) (by rfl) rfl rfl rfl Tryz.underlying63 (by kernel_rfl) (by kernel_rfl) rfl rfl aac adW.aH (xM (fun _=>rfl)) (by omega) (by omega) (by omega) (Nat.le_trans G Zg.size) fun g7 cap2 Mx ho2 hg2 Jc hlt2 => ?_
 have DT:=yL hg2 aac
 have⟨akg,akh,aki,adX,akj⟩:=qp DT ajZ akb akd ake akf
 have akk:Fx.Own Mx B 28 1 (.slice (some ⟨g7,0,none⟩) ((m.rn a)+1) cap2) ((m.rn a)+1) (rv .u64 (aJ (m.rq a) (m.rn a) v.req)):=(ho2.congr (fun j hj=>MR j hj))
 have b32:Below B w Mx:=xR Zg hg2 (Nat.le_trans G Zg.size) (fun q hq=>(aac.ge hq).1)
 have akl:uZ Mx B 6 { m with ra:=aJ m.ra a (some ⟨g7,0,none⟩),rn:=aJ m.rn a (m.rn a+1),rc:=aJ m.rc a cap2,rq:=aJ m.rq a (aJ (m.rq a) (m.rn a) v.req) }:=uZ.app akc ha rfl rfl rfl rfl akk hg2 Jc
 refine Ln ⟨DT,?_⟩
 refine Rp ((pf p (a+21))) (fun _=>je 6 1)<|fQ<|iQ adX (a+21) (.slice (some ⟨g7,0,none⟩) ((m.rn a)+1) (cap2)) fun Um akm s28 z11 => ?_
 have aad:=gY s28 adX.ty
 have⟨akn,ako,akp,akq,akr⟩:=qp aad akg akh aki akj akl
 have b33:=s28.below b32 (Nat.le_trans G b32.size) (by omega)
 refine Ln<|bM<|ay<|av (au 0)<|aC<|Wr<|aI (au 0) ?_
 have eN:bA v=a:=by unfold bA; omega
 have ne1 : ¬ 0<=m.core.jQ (bA v) v.req:=by rw[eN]; exact of_decide_eq_false c17
 have Z0 : ¬ dn m.core.t m.core.tn v.node=0:=fun e=>c27 (by rw[show K=0 from OD.trans e]; rfl)
 have ew:lK m.core v=cO (fun x=>bE x v.o v.aX) (mY m.core v.node) m.R K:=by unfold lK; rw[show dn m.core.t m.core.tn v.node=K from OD.symm]; rfl
 have Y:iE m.core v=0:=by unfold iE; rw[if_neg ne1,if_neg Z0,ew,hRK]
 have eW:lK m.core v=(Rk,0):=ew.trans hRK
 have aks:Fx.Own Um B 66 5 (bI F (m.s.gn+1) C) (m.s.gn+1) (flat 5 fun l=>iM (bX m.g k (uF v) l)):=by rw[<- Vo]; exact akq
 refine⟨nD Y.symm,b33,fun _=>⟨{ m with s := { m.s with ga:=some ⟨F,0,none⟩,gn:=m.s.gn+1,gc:=C },R:=Rk,g:=bX m.g k (uF v),ra:=aJ m.ra a (some ⟨g7,0,none⟩),rn:=aJ m.rn a (m.rn a+1),rc:=aJ m.rc a cap2,rq:=aJ m.rq a (aJ (m.rq a) (m.rn a) v.req) },?_,?_⟩⟩
 ·unfold kK oP; rw[eW,eN]; rw[show down (fun i=>D9 v (m.core.g i)) m.core.gn=k from ek.symm]; rfl
 exact { c:=akm.to ((congrArg (fun z=>dz z (a+21) _) (K4 m _ _ _)).trans (Ji _ rfl _ _ _)),n:=akp,g:=aks,tc:=akn,t:=ako,r:=akr,pB:=RI,tB:=Cm,bn:=bn,bg:=(by show m.s.gn+1<=1000000; omega),bt:=bt,br:=(fun i N=>by show aJ m.rn a (m.rn a+1) i<=1000000; have:=X7 i N; have:=X7 a ha; unfold aJ; split <;> omega) }
namespace Rt
def yE(L:gV)(v:EvM):Nat:=(L.grant v.o v.of).toNat
def kL(L:gV)(v:EvM):(Nat->Nat->Int) × Int:=cO (fun x=>bF x v.o (L.g (yE L v) 3)) (mY L (L.g (yE L v) 2)) L.R (dn L.t L.tn (L.g (yE L v) 2))
def iq(L:gV)(v:EvM):Int:=if 0<=L.jQ (bA v) v.req then 14 else if L.grant v.o v.of<0\/L.g (yE L v) 4≠0 then 12 else(kL L v).2
def jF(L:gV)(v:EvM):gV:=oP { L with R:=(kL L v).1,g:=aJ L.g (yE L v) (aJ (L.g (yE L v)) 4 v.req) } (bA v) v.req
theorem R6{m:jK}{o r:Int}(h : ¬ m.grant o r<0) : ∃ q:Nat,q<m.s.gn/\m.grant o r=(q:Int)/\m.g q 0=o/\m.g q 1=r:=by
 rcases jf (fun i=>decide (m.g i 0=o)&&decide (m.g i 1=r)) m.s.gn with ⟨q,b,e,a⟩|⟨e,_⟩
 ·rw[Bool.and_eq_true]at a
  exact⟨q,b,e,of_decide_eq_true a.1,of_decide_eq_true a.2⟩
 unfold jK.grant at h; omega
theorem OE{n q:Nat}{g:Nat->Nat->Int}{r:Int} : ∀ i,i<n -> ∀ j,j<5->Fx.pJ (fun a=>iM (g a)) q (dz (iM (g q)) 4 (aD r)) i j=iM (aJ g q (aJ (g q) 4 r) i) j:=fun i _ j b=>by
 unfold Fx.pJ
 by_cases h:i=q
 ·subst h
  rw[if_pos rfl]
  unfold aJ dz iM
  rw[if_pos rfl]
  rcases j with _|_|_|_|_|j <;> first|rfl|omega
 ·rw[if_neg h]; unfold aJ; rw[if_neg h]
end Rt
set_option maxRecDepth 20000 in
set_option maxHeartbeats 2000000 in
theorem Vz(m:jK)(B p a:Nat)(v:EvM)(w:World)(H:su w B p m)(F:B<=w.heap.size)(ha:a<6)(ho:v.o=(a:Int)+1)(bgg:m.s.gn<=900000)(X7 : ∀ i,i<6->m.rn i<=900000)(hTN : ∀ x,m.node x=bB m.t m.tn x)(hDx : ∀ x,∃ D,D<=1000/\bB m.t m.tn (bf m.t m.tn D x)<0) :
 Calls Tryz.prog 80 #[(pt p),.agg (aA 14 (bO v))] w fun e w'=>e = .returned (au (iq m.core v))/\Below B w w'/\(iq m.core v=0 -> ∃ m',m'.core=jF m.core v/\su w' B p m'):=by
 have RF:=H.c
 have hLn:=H.n
 have hLg:=H.g
 have RG:=H.tc
 have RH:=H.t
 have hLr:=H.r
 have RI:=H.pB
 have Cm:=H.tB
 have bn:=H.bn
 have bg:=H.bg
 have bt:=H.bt
 have ZJ:p<w.heap.size:=RF.lt
 have O9:m.tb<w.heap.size:=RG.lt
 refine Kent Tryz.func80 128 ?_
 refine ay<|pK fun G w1 kV m1 s1 z1 => ?_
 have⟨m2,m3,m4,m5,m6,m7⟩:=qo s1.old RF hLn hLg RG RH hLr
 have b1:=dX s1.old (Below.refl B w) F
 have tL:=jc kV (Below.refl B w).size
 have⟨mH,vZ⟩:=wM kV RF.lt RG.lt
 have vR:=m1.lt
 refine av (au 0)<|aC<|Ws<|ay<|av ((pt p))<|av ((pt G))<|Lv (au v.o) (aL m1.aH 0)<|av ((pf G 12))<|Lv (aD v.req) (aL m1.aH 12) ?_
 have K8:Al w1 p m := { c:=m2.aH,an:=m3.arr,ag:=m4.arr,tc:=m5.aH,at2:=m6.arr,ar:=fun i N=>(m7.1 i N).arr,bn:=(by show m.s.nn<=1000000; omega),bg:=bg,bt:=(by show m.tn<=1000000; omega),br:=H.br }
 by_cases V:(decide (0<=m.jQ a v.req))=true
 ·refine dA (zT m p a v.o v.req _ K8 ha ho) aG (by rw[V]) ?_
  intro w2 hb1
  have b2:=dX hb1 b1 F
  refine aC<|aM<|ay<|av (au 14)<|aC<|Wr<|sR<|aI (au 14) ?_
  have O:bA v=a:=by unfold bA; omega
  have J:iq m.core v=14:=by unfold iq; rw[O]; exact if_pos (of_decide_eq_true V)
  exact⟨nD J.symm,b2,fun P=>by rw[J]at P; cases P⟩
 rw[Bool.not_eq_true]at V
 refine dA (zT m p a v.o v.req _ K8 ha ho) aF (by rw[V]) ?_
 intro w3 hb2
 have⟨m15,m16,m17,m18,m19,m20,m21⟩:=jl hb2 m2 m3 m4 m5 m6 m7 m1
 have b3:=dX hb2 b1 F
 refine aC<|aK<|Wk<|sN<|ay<|av ((pt p))<|av ((pt G))<|Lv (au v.o) (aL m21.aH 0)<|av ((pf G 13))<|Lv (aD v.of) (aL m21.aH 13) ?_
 have RZ:Al w3 p m := { c:=m15.aH,an:=m16.arr,ag:=m17.arr,tc:=m18.aH,at2:=m19.arr,ar:=fun i N=>(m20.1 i N).arr,bn:=(by show m.s.nn<=1000000; omega),bg:=bg,bt:=(by show m.tn<=1000000; omega),br:=H.br }
 refine dA (Vb m p v.o v.of _ RZ) _ rfl ?_
 intro w4 hb3
 have⟨m22,m23,m24,lW,mR,nY,nT⟩:=jl hb3 m15 m16 m17 m18 m19 m20 m21
 have b4:=dX hb3 b3 F
 refine av (au (m.grant v.o v.of))<|aC<|Ws<|ay<|av (au (m.grant v.o v.of)) ?_
 by_cases ab:(m.grant v.o v.of)<0
 ·refine Lv aG (gy ab)<|av aG<|cB<|cB<|cB<|cB<|cB<|cB<|cB<|cB<|cB<|cB<|av aG<|aC<|aM<|ay<|av (au 12)<|aC<|Wr<|sR<|aI (au 12) ?_
  have O:bA v=a:=by unfold bA; omega
  have aa : ¬ 0<=m.core.jQ (bA v) v.req:=by rw[O]; exact of_decide_eq_false V
  have J:iq m.core v=12:=by unfold iq; rw[if_neg aa]; exact if_pos (.inl ab)
  exact⟨nD J.symm,b4,fun P=>by rw[J]at P; cases P⟩
 obtain⟨b,hkg,ekg,_,_⟩:=R6 ab
 have ac:yE m.core v=b:=by show(m.grant v.o v.of).toNat=b; rw[ekg]; rfl
 refine Lv aF (gD ab)<|av aF<|av ((pt p))<|av ((pt p))<|av ((pt p))<|av ((pf p 19))<|Lv (.slice m.s.ga (m.s.gn) (m.s.gc)) (aL m22.aH 19)<|aS (congrArg (Value.int .i64) ekg) ?_
 obtain⟨af,eq1⟩:=m24.addr (by omega)
 have oF:Fx.Own w4 B 66 5 (bI af m.s.gn m.s.gc) m.s.gn (GK m):=m24.dU (congrArg (fun q=>Value.slice q m.s.gn m.s.gc) eq1)
 refine Lv ((pf af (5*b))) (cu 5 (hx:=(rfl.trans (congrArg (fun q=>Value.slice q (m.s.gn) (m.s.gc)) eq1))))<|av ((pf af (5*b+4)))<|Lv (aD ((m.g b) 4)) (aL oF.aH (5*b+4) (Fx.gW (k:=b) (j:=4) (by omega) (by omega) rfl)) ?_
 by_cases ae:((m.g b) 4)=0
 ·refine Lv aF (jJ ae)<|av aF<|aC<|aK<|Wk<|sN<|Ws ?_
  obtain⟨D,hD2,hD⟩:=hDx (m.g b 2)
  -- region 6 draws
  refine jo [0,1,2,4,5,6,7,9,3,8,10,11,12,13,14] [0,0,0,4,0,0,0,0,4,0,0,0,4,3,0] [(13,3,[3]),(13,8,[12,11,10,8]),(13,12,[12]),(14,13,[13])] fun oU dL gU => ?_
  have⟨nE,lH,m32,oI,nG,oJ,pO⟩:=jl dL m22 m23 lW mR nY nT oF
  have b5:=dX dL b4 F
  refine aV ((pt p))<|aV ((pt p))<|aV ((pf p 20))<|aV ((pt p))<|aV ((pt p))<|aV ((pt p))<|aV ((pf p 19))<|bQ (congrArg (Value.int .i64) ekg)<|Rs ((pt m.tb)) (aL nE.aH 20) ?_
  refine Rs (.slice m.s.ga (m.s.gn) (m.s.gc)) (aL nE.aH 19) ?_
  refine Rp ((pf af (5*b))) (fun _=>cu 5 (hx:=(rfl.trans (congrArg (fun q=>Value.slice q (m.s.gn) (m.s.gc)) eq1))))<|aV ((pf af (5*b+2)))<|Rs (aD ((m.g b) 2)) (aL pO.aH (5*b+2) (Fx.gW (k:=b) (j:=2) (by omega) (by omega) rfl)) ?_
  refine fQ<|jM (DR m.tb m.ta m.tn m.tc m.t (m.g b 2) D _ (pU m32 oI bt) hD hD2) ?_
  rintro e w5 ⟨K,vv,he,hown,nZ,hK1,hb4⟩
  obtain⟨U,E,rfl⟩:=hown.val
  refine⟨.slice U K E,he,?_⟩
  clear he
  have OD:K=dn m.t m.tn (m.g b 2):=qF nZ hK1 hD hD2
  have hKD:K<=1000:=by rw[OD]; exact CU _ _
  have⟨qL,qM,pQ,qW,mW,lY,lX⟩:=jl hb4 nE lH m32 oI nG oJ pO
  have b6:=dX hb4 b5 F
  refine Ln<|aV (.slice U (K) (E))<|bM<|Ws<|ay<|av (au 0)<|aC<|Wb ?_
  have qX:Fx.Own w5 B 66 5 (.slice m.s.ga (m.s.gn) (m.s.gc)) m.s.gn (GK m):=lX.dU (congrArg (fun q=>Value.slice q m.s.gn m.s.gc) eq1.symm)
  refine Wo (fun f S => ∃ k:Nat,∃ Rk:Nat->Nat->Int,k<=K/\cO (fun x=>bF x v.o (m.g b 3)) (mY m.core (m.g b 2)) m.R k=(Rk,0)/\f 0=(pt p)/\f 3=(pt G)/\f 6 = .slice U (K) (E)/\f 7=au ((k:Int))/\f 5=au ((b:Int))/\aP S p 27 (kJ m) 71/\aP S m.tb 1 (fun _ => .slice m.ta m.tn m.tc) 123/\Fx.Own S B 128 2 (.slice m.ta (m.tn) (m.tc)) m.tn (Oj m.t)/\uZ S B 6 m/\aP S G 14 (bO v) 32/\Fx.Own S B 66 5 (.slice m.s.ga (m.s.gn) (m.s.gc)) m.s.gn (GK m)/\Fx.Own S oU.heap.size 28 1 (.slice U (K) (E)) K (rv .u64 (fun i=>bf m.t m.tn i (m.g b 2)))/\Fx.Own S B 61 56 (.slice m.s.na (m.s.nn) (m.s.nc)) m.s.nn (flat 56 (fun C=>kQ (m.id C) (m.par C) (Rk C)))/\Below B w S) (fun f _=>(K-(intOf (f 7)).toNat)) ⟨0,m.R,by omega,rfl,(by rfl),(by rfl),(by rfl),Fx.ic,((congrArg (Value.int .i64) ekg).trans Fx.ic),qL,pQ,qW,mW,lY,qX,hown,qM,b6⟩ ?_
  rintro f1 w6 ⟨k,Rk,hk,hRk,Y,Q,h3,h4,h5,oZ,mX,rM,vU,qY,qZ,uw,uS,b7⟩
  refine Ws<|ay<|aS h4<|aS h3<|av (au K) ?_
  by_cases c54:(k:Int)<(K:Int)
  ·refine Lv aG (gy c54)<|aC<|aM<|Wk<|sN<|Ws<|Wb<|Ws ?_
   obtain⟨q,hq,eq0,_⟩:=zS (m:=m) (x:=bf m.t m.tn k (m.g b 2)) (by rw[hTN]; exact nZ k (by omega))
   have ex1:mY m.core (m.g b 2) k=q:=by show(gF (fun i=>decide (m.id i=bf m.t m.tn k (m.g b 2))) m.s.nn).toNat=q; rw[eq0]; rfl
   refine Wl<|aS Y<|aS h3<|aS h4 ?_
   obtain⟨La,ET⟩:=uw.addr (by omega)
   have rZ:Fx.Own w6 oU.heap.size 28 1 (bI La K E) K (rv .u64 (fun i=>bf m.t m.tn i (m.g b 2))):=uw.dU (congrArg (fun q=>Value.slice q K E) ET)
   refine Lv ((pf La k)) (cu 1 (hx:=(rfl.trans (congrArg (fun q=>Value.slice q (K) (E)) ET))))<|Lv (aD ((fun i=>bf m.t m.tn i (m.g b 2)) k)) (aL rZ.aH k) ?_
   have sP:Fx.Own w6 oU.heap.size 28 1 (.slice U (K) (E)) K (rv .u64 (fun i=>bf m.t m.tn i (m.g b 2))):=rZ.dU (congrArg (fun q=>Value.slice q K E) ET.symm)
   have akt:Al w6 p { m with R:=Rk } := { c:=oZ.aH,an:=uS.arr,ag:=qZ.arr,tc:=mX.aH,at2:=rM.arr,ar:=fun i N=>(vU.1 i N).arr,bn:=(by show m.s.nn<=1000000; omega),bg:=bg,bt:=(by show m.tn<=1000000; omega),br:=H.br }
   refine dA ((DN { m with R:=Rk } p (bf m.t m.tn k (m.g b 2)) _ akt).mono (fun e w2 Q=>(⟨Q.1.trans (nD eq0),Q.2⟩:e = .returned (au (q:Int))/\_))) _ rfl ?_
   intro w7 hb5
   have⟨ad,sQ,sS,rO,vV,pR,vW,mU⟩:=lu hb5 oZ mX rM vU qY qZ uS sP
   have b8:=dX hb5 b7 F
   refine av (au q)<|aC<|Ws ?_
   -- region 11 draws
   obtain⟨M,Ur⟩:=vW.addr (by omega)
   have qN:Fx.Own w7 B 61 56 (bI M m.s.nn m.s.nc) m.s.nn (flat 56 (fun C=>kQ (m.id C) (m.par C) (Rk C))):=vW.dU (congrArg (fun q=>Value.slice q m.s.nn m.s.nc) Ur)
   obtain⟨W,VA⟩:=pR.addr (by omega)
   have m64:Fx.Own w7 B 66 5 (bI W m.s.gn m.s.gc) m.s.gn (GK m):=pR.dU (congrArg (fun q=>Value.slice q m.s.gn m.s.gc) VA)
   refine qQ (T:=59) (T':=59) (a := .tmp 9) (v := .tmp 85) (m:=54) (z:=rv .i64 (fun _=>0)) (y:=rv .i64 ((bF (Rk q) v.o ((m.g b) 3)).1)) (u := .agg (aA 54 (rv .i64 ((bF (Rk q) v.o ((m.g b) 3)).1)))) 24 25 (List.replicate 27 (0,2,[],[])) #[(pt p),(pt p),(pt p),(pf p 18),.slice m.s.na (m.s.nn) (m.s.nc),au ((q:Int)),(pf M (56*q)),(pf M (56*q+2)),.agg (aA 54 (rv .i64 (Rk q))),(pt G),au v.o,(pt p),(pt p),(pt p),(pf p 19),.slice m.s.ga (m.s.gn) (m.s.gc),au ((b:Int)),(pf W (5*b)),(pf W (5*b+3)),au ((m.g b) 3),.tuple #[.agg (aA 54 (rv .i64 ((bF (Rk q) v.o ((m.g b) 3)).1))),au ((bF (Rk q) v.o ((m.g b) 3)).2)],.tuple #[.agg (aA 54 (rv .i64 ((bF (Rk q) v.o ((m.g b) 3)).1))),au ((bF (Rk q) v.o ((m.g b) 3)).2)],.agg (aA 54 (rv .i64 ((bF (Rk q) v.o ((m.g b) 3)).1))),au ((bF (Rk q) v.o ((m.g b) 3)).2),undef,undef,au ((bF (Rk q) v.o ((m.g b) 3)).2)] (by kernel_rfl) (by kernel_rfl) (by kernel_rfl) (by kernel_rfl) (by kernel_rfl) (by kernel_rfl) rfl (by kernel_rfl) rfl rfl (by kernel_rfl) (fun L=>(show ev _ (.tmp 9)=(pt L)from by kernel_rfl)) (fun L=>(show ev _ (.tmp 85) = .agg (aA 54 (rv .i64 ((bF (Rk q) v.o ((m.g b) 3)).1)))from by kernel_rfl)) (bJ _ _) (fun _ _=>rfl) (by kernel_rfl) (fun L => ?_) ?_
   ·refine⟨?_,?_,?_,?_,?_,?_,?_,?_,?_,?_,?_,?_,?_,?_,?_,?_,?_,?_,?_,?_,?_,?_,?_,?_,?_,?_,?_,trivial⟩
    ·exact .inr (.inr (qR ((pt p)) fun I A=>fD rfl ((bU (by kernel_rfl)).trans Y)))
    ·exact .inr (.inr oD)
    ·exact .inr (.inr oD)
    ·exact .inr (.inr oD)
    ·exact .inr (.inr (qR (.slice m.s.na (m.s.nn) (m.s.nc)) fun I A=>bC (x:=kJ m) rfl (show ev _ (.tmp 67)=(pf p 18)from by kernel_rfl) (by kernel_rfl) (ad.aH.below A (by have:=ad.lt; omega)) (i:=18) (by omega) (by omega) rfl))
    ·exact .inr (.inr oD)
    ·exact .inr (.inr (qR ((pf M (56*q))) fun I A=>dR rfl ((show ev _ (.tmp 68) = .slice m.s.na (m.s.nn) (m.s.nc)from by kernel_rfl).trans (congrArg (fun q=>Value.slice q (m.s.nn) (m.s.nc)) Ur)) (show ev _ (.tmp 69)=au ((q:Int))from by kernel_rfl) Tryz.underlying50 (s:=56) (by kernel_rfl) (by omega) (by omega) (by omega)))
    ·exact .inr (.inr oD)
    ·exact .inr (.inr (qR (.agg (aA 54 (rv .i64 (Rk q)))) fun I A=>dZ (x:=flat 56 (fun C=>kQ (m.id C) (m.par C) (Rk C))) (y:=rv .i64 (Rk q)) rfl (show ev _ (.tmp 71)=(pf M (56*q+2))from by kernel_rfl) (by kernel_rfl) (by kernel_rfl) (qN.aH.below A (by have:=qN.lt; omega)) (i:=56*q+2) (by omega) (by omega) (fun jq hjq=>(Fx.iT (k:=q) (j:=2+jq) (by omega) (by omega)).trans ((fun jq _=>CP _ _ _ jq) jq hjq))))
    ·exact .inr (.inr (qR ((pt G)) fun I A=>fI rfl ((bU (by kernel_rfl)).trans Q) Tryz.underlying32 rfl (s:=1) (by kernel_rfl) rfl rfl))
    ·exact .inr (.inr (qR (au v.o) fun I A=>bC (x:=bO v) rfl (show ev _ (.tmp 73)=(pt G)from by kernel_rfl) (by kernel_rfl) (vV.aH.below A (by have:=vV.lt; omega)) (i:=0) (by omega) (by omega) rfl))
    ·exact .inr (.inr (qR ((pt p)) fun I A=>fD rfl ((bU (by kernel_rfl)).trans Y)))
    ·exact .inr (.inr oD)
    ·exact .inr (.inr oD)
    ·exact .inr (.inr oD)
    ·exact .inr (.inr (qR (.slice m.s.ga (m.s.gn) (m.s.gc)) fun I A=>bC (x:=kJ m) rfl (show ev _ (.tmp 78)=(pf p 19)from by kernel_rfl) (by kernel_rfl) (ad.aH.below A (by have:=ad.lt; omega)) (i:=19) (by omega) (by omega) rfl))
    ·exact .inr (.inr (qR (au b) fun I A=>fD rfl ((bU (by kernel_rfl)).trans h5)))
    ·exact .inr (.inr (qR ((pf W (5*b))) fun I A=>dR rfl ((show ev _ (.tmp 79) = .slice m.s.ga (m.s.gn) (m.s.gc)from by kernel_rfl).trans (congrArg (fun q=>Value.slice q (m.s.gn) (m.s.gc)) VA)) (show ev _ (.tmp 80)=au ((b:Int))from by kernel_rfl) Tryz.underlying51 (s:=5) (by kernel_rfl) (by omega) (by omega) (by omega)))
    ·exact .inr (.inr oD)
    ·exact .inr (.inr (qR (au ((m.g b) 3)) fun I A=>bC (x:=GK m) rfl (show ev _ (.tmp 82)=(pf W (5*b+3))from by kernel_rfl) (by kernel_rfl) (m64.aH.below A (by have:=m64.lt; omega)) (i:=5*b+3) (by omega) (by omega) (Fx.gW (k:=b) (j:=3) (by omega) (by omega) rfl)))
    ·exact .inr (.inr (Fx.Gn (v := .tuple #[.agg (aA 54 (rv .i64 ((bF (Rk q) v.o ((m.g b) 3)).1))),au ((bF (Rk q) v.o ((m.g b) 3)).2)]) (by kernel_rfl) (by kernel_rfl) (Fx.qbC (fun I A=>rC (args := [.agg (aA 54 (rv .i64 (Rk q))),au v.o,au ((m.g b) 3)]) rfl (Fx.L9 (show ev _ (.tmp 72) = .agg (aA 54 (rv .i64 (Rk q)))from by kernel_rfl) (show ev _ (.tmp 74)=au v.o from by kernel_rfl) (show ev _ (.tmp 83)=au ((m.g b) 3)from by kernel_rfl)) Tryz.func111 rfl rfl) (fun I A=>(Vq (Rk q) v.o ((m.g b) 3) _).mono fun e v2 h=>⟨h.1,h.2⟩))))
    ·exact .inr (.inr oD)
    ·exact .inr (.inr oD)
    ·exact .inr (.inr oD)
    ·exact .inl rfl
    ·exact .inr (.inl rfl)
    exact .inr (.inr oD)
   rintro L w8 l d Z wm hb6
   have aae:p≠L:=Nat.ne_of_lt (Nat.lt_of_lt_of_le (ad.lt) Z)
   have aaf:m.tb≠L:=Nat.ne_of_lt (Nat.lt_of_lt_of_le (sQ.lt) Z)
   have aag:G≠L:=Nat.ne_of_lt (Nat.lt_of_lt_of_le (vV.lt) Z)
   have aah:M≠L:=Nat.ne_of_lt (Nat.lt_of_lt_of_le (qN.lt) Z)
   have aku:W≠L:=Nat.ne_of_lt (Nat.lt_of_lt_of_le (m64.lt) Z)
   have⟨uy,uz,sj,ru,sU,sV,uD,sZ⟩:=lu hb6 ad sQ sS rO vV mU qN m64
   have b9:=dX hb6 b8 F
   have Z:w.heap.size<=L:=Nat.le_trans b8.size Z
   have zJ:=wm.lt
   have q1:l 0=(pt p):=by rw[d]; exact(bU (by kernel_rfl)).trans Y
   have q2:l 3=(pt G):=by rw[d]; exact(bU (by kernel_rfl)).trans Q
   have q3:l 6 = .slice U (K) (E):=by rw[d]; exact(bU (by kernel_rfl)).trans h3
   have q4:l 7=au ((k:Int)):=by rw[d]; exact(bU (by kernel_rfl)).trans h4
   have q5:l 5=au ((b:Int)):=by rw[d]; exact(bU (by kernel_rfl)).trans h5
   have q6:l 51=au ((k:Int)):=by rw[d]; kernel_rfl
   have q7:l 52 = .slice U (K) (E):=by rw[d]; kernel_rfl
   have q8:l 53=au ((K:Int)):=by rw[d]; kernel_rfl
   have q9:l 54 = .bool true:=by rw[d]; kernel_rfl
   have q10:l 57=(pt p):=by rw[d]; kernel_rfl
   have q11:l 58 = .slice U (K) (E):=by rw[d]; kernel_rfl
   have q12:l 59=au ((k:Int)):=by rw[d]; kernel_rfl
   have q13:l 60=(pf La k):=by rw[d]; kernel_rfl
   have q14:l 61=aD ((fun i=>bf m.t m.tn i (m.g b 2)) k):=by rw[d]; kernel_rfl
   have q15:l 62=au ((q:Int)):=by rw[d]; kernel_rfl
   have q16:l 8=au ((q:Int)):=by rw[d]; kernel_rfl
   have q17:l 64=(pt p):=by rw[d]; kernel_rfl
   have q18:l 65=(pt p):=by rw[d]; kernel_rfl
   have q19:l 66=(pt p):=by rw[d]; kernel_rfl
   have q20:l 67=(pf p 18):=by rw[d]; kernel_rfl
   have q21:l 68 = .slice m.s.na (m.s.nn) (m.s.nc):=by rw[d]; kernel_rfl
   have q22:l 69=au ((q:Int)):=by rw[d]; kernel_rfl
   have q23:l 70=(pf M (56*q)):=by rw[d]; kernel_rfl
   have q24:l 71=(pf M (56*q+2)):=by rw[d]; kernel_rfl
   have q25:l 72 = .agg (aA 54 (rv .i64 (Rk q))):=by rw[d]; kernel_rfl
   have q26:l 73=(pt G):=by rw[d]; kernel_rfl
   have q27:l 74=au v.o:=by rw[d]; kernel_rfl
   have q28:l 75=(pt p):=by rw[d]; kernel_rfl
   have q29:l 76=(pt p):=by rw[d]; kernel_rfl
   have q30:l 77=(pt p):=by rw[d]; kernel_rfl
   have q31:l 78=(pf p 19):=by rw[d]; kernel_rfl
   have q32:l 79 = .slice m.s.ga (m.s.gn) (m.s.gc):=by rw[d]; kernel_rfl
   have q33:l 80=au ((b:Int)):=by rw[d]; kernel_rfl
   have q34:l 81=(pf W (5*b)):=by rw[d]; kernel_rfl
   have q35:l 82=(pf W (5*b+3)):=by rw[d]; kernel_rfl
   have q36:l 83=au ((m.g b) 3):=by rw[d]; kernel_rfl
   have q37:l 84 = .tuple #[.agg (aA 54 (rv .i64 ((bF (Rk q) v.o ((m.g b) 3)).1))),au ((bF (Rk q) v.o ((m.g b) 3)).2)]:=by rw[d]; kernel_rfl
   have q38:l 63 = .tuple #[.agg (aA 54 (rv .i64 ((bF (Rk q) v.o ((m.g b) 3)).1))),au ((bF (Rk q) v.o ((m.g b) 3)).2)]:=by rw[d]; kernel_rfl
   have q39:l 85 = .agg (aA 54 (rv .i64 ((bF (Rk q) v.o ((m.g b) 3)).1))):=by rw[d]; kernel_rfl
   have q40:l 86=au ((bF (Rk q) v.o ((m.g b) 3)).2):=by rw[d]; kernel_rfl
   have q41:l 9=(pt L):=by rw[d]; kernel_rfl
   have q42:l 10=au ((bF (Rk q) v.o ((m.g b) 3)).2):=by rw[d]; kernel_rfl
   clear d
   refine sN<|Ws<|ay<|aS q42 ?_
   by_cases X:((bF (Rk q) v.o ((m.g b) 3)).2)=0
   ·refine Lv aF (jJ X)<|aC<|aK<|Wk<|sN ?_
    -- region 14 draws
    refine jo [0,1,2,3,5,4,6,7,8,9] [0,0,0,0,4,0,4,0,0,3] [(9,4,[4]),(9,6,[6])] fun yP fG lQ => ?_
    have⟨yB,uE,wQ,wF,wR,vX,uT,tN,wo⟩:=Ay fG uy uz sj ru sU sV uD sZ wm
    have b10:=dX fG b9 F
    refine bQ q1<|aV ((pt p))<|aV ((pt p))<|aV ((pf p 18))<|bQ q16<|Rs (.slice m.s.na (m.s.nn) (m.s.nc)) (aL yB.aH 18) ?_
    refine Rs (.agg (aA 54 (rv .i64 ((bF (Rk q) v.o ((m.g b) 3)).1)))) (fA wo.aH 0 (ha:=q41)) ?_
    refine Rp ((pf M (56*q))) (fun _=>cu 56 (hx:=(rfl.trans (congrArg (fun q=>Value.slice q (m.s.nn) (m.s.nc)) Ur))))<|aV ((pf M (56*q+2)))<|fQ<|yN uT (56*q+2) fun w9 xW s10 z2 => ?_
    have gI:=gY s10 uT.Il
    have⟨wu,yR,yC,xX,xG,xY,yS⟩:=PU gI yB uE wQ wF wR vX tN
    have b11:=s10.below b10 (Nat.le_trans F b10.size) uT.blk.1
    have AZ:Fx.Own w9 B 61 56 (bI M m.s.nn m.s.nc) m.s.nn (flat 56 (fun C=>kQ (m.id C) (m.par C) (aJ Rk q ((bF (Rk q) v.o ((m.g b) 3)).1) C))):=xW.congr (fun pq hp=>(Fx.Aw (k:=q) (j:=2) (by omega) (by omega) pq hp).trans (bH (fun i N j hj=>Bg i N j hj) pq hp))
    refine Ln<|Rn<|bP<|sN<|Wl<|aS q4<|Lv (au ((k:Int)+1)) eZ<|av (au ((k:Int)+1))<|Ln ?_
    have zN:Fx.Own w9 B 66 5 (.slice m.s.ga (m.s.gn) (m.s.gc)) m.s.gn (GK m):=yS.dU (congrArg (fun q=>Value.slice q m.s.gn m.s.gc) VA.symm)
    have zO:Fx.Own w9 B 61 56 (.slice m.s.na (m.s.nn) (m.s.nc)) m.s.nn (flat 56 (fun C=>kQ (m.id C) (m.par C) (aJ Rk q ((bF (Rk q) v.o ((m.g b) 3)).1) C))):=AZ.dU (congrArg (fun q=>Value.slice q m.s.nn m.s.nc) Ur.symm)
    refine gJ ⟨k+1,(aJ Rk q (bF (Rk q) v.o (m.g b 3)).1),by omega,(D8 hRk ex1 (by first|exact X|exact Classical.not_not.1 X)),q1,q2,q3,Fx.ic,(q5.trans Fx.ic),wu,yR,yC,xX,xG,zN,xY,zO,b11⟩ ?_
    show(K-(intOf ((au ((k:Int)+1)))).toNat)<_
    simp only[h4,intOf]; omega
   refine Lv aG (mE X)<|aC<|aM<|ay<|aS q42<|av (au ((bF (Rk q) v.o ((m.g b) 3)).2))<|aC<|Wr<|sR<|bK<|sR<|oQ<|bK<|sR<|aI (au ((bF (Rk q) v.o ((m.g b) 3)).2)) ?_
   have O:bA v=a:=by unfold bA; omega
   have aa : ¬ 0<=m.core.jQ (bA v) v.req:=by rw[O]; exact of_decide_eq_false V
   have Z0 : ¬ (m.core.grant v.o v.of<0\/m.core.g (yE m.core v) 4≠0):=by rw[ac]; exact fun h=>h.elim ab (fun h=>h ae)
   have ew:kL m.core v=cO (fun x=>bF x v.o (m.g b 3)) (mY m.core (m.g b 2)) m.R K:=by unfold kL; rw[ac,show dn m.core.t m.core.tn (m.core.g b 2)=K from OD.symm]; rfl
   have J:iq m.core v=(bF (Rk q) v.o (m.g b 3)).2:=by
    unfold iq; rw[if_neg aa,if_neg Z0,ew]
    have e1:=FJ hRk ex1 X
    rw[za (k:=k+1) (by rw[e1]; exact X) K (by omega)]; exact e1
   exact⟨nD J.symm,b9,fun P=>absurd (J.symm.trans P) X⟩
  refine Lv aF (gD c54)<|aC<|aK<|Wx<|bV<|fU<|bW<|sN<|Ws ?_
  have hRK:cO (fun x=>bF x v.o (m.g b 3)) (mY m.core (m.g b 2)) m.R K=(Rk,0):=by rw[show K=k by omega]; exact hRk
  -- region 15 draws
  refine jo [0,1,2,3,5,6,4,7,8,9,10] [0,0,0,0,4,0,0,4,0,0,3] [(10,4,[4]),(10,7,[7])] fun Pb kF zH => ?_
  have⟨xL,Ck,A8,CS,DU,vk,vo⟩:=jl kF oZ mX rM vU qY qZ uS
  have b12:=dX kF b7 F
  refine bQ Y<|aV ((pt p))<|aV ((pt p))<|aV ((pf p 19))<|bQ h5<|Rp ((pf G 12)) (fun _=>iN Q 12)<|Rs (.slice m.s.ga (m.s.gn) (m.s.gc)) (aL xL.aH 19) ?_
  refine Rs (aD v.req) (aL DU.aH 12) ?_
  obtain⟨gq5,eq5⟩:=vk.addr (by omega)
  have sw:Fx.Own Pb B 66 5 (bI gq5 m.s.gn m.s.gc) m.s.gn (GK m):=vk.dU (congrArg (fun q=>Value.slice q m.s.gn m.s.gc) eq5)
  refine Rp ((pf gq5 (5*b))) (fun _=>cu 5 (hx:=(rfl.trans (congrArg (fun q=>Value.slice q (m.s.gn) (m.s.gc)) eq5))))<|aV ((pf gq5 (5*b+4)))<|fQ<|oC sw (5*b+4) (aD v.req) fun rJ og s12 z3 => ?_
  have jN:=gY s12 sw.Il
  have⟨nJ,oN,oh,pV,qE,pW⟩:=PS jN xL Ck A8 CS DU vo
  have b13:=s12.below b12 (Nat.le_trans F b12.size) sw.blk.1
  have sD:Fx.Own rJ B 66 5 (bI gq5 m.s.gn m.s.gc) m.s.gn (flat 5 (fun C=>iM (aJ m.g b (aJ (m.g b) 4 v.req) C))):=og.congr (fun pq hp=>(Fx.Fb (k:=b) (j:=4) (by omega) (by omega) pq hp).trans (bH (fun i N j hj=>OE i N j hj) pq hp))
  refine Ln<|bM<|Ws ?_
  have xZ:Fx.Own rJ B 66 5 (.slice m.s.ga (m.s.gn) (m.s.gc)) m.s.gn (flat 5 (fun C=>iM (aJ m.g b (aJ (m.g b) 4 v.req) C))):=sD.dU (congrArg (fun q=>Value.slice q m.s.gn m.s.gc) eq5.symm)
  have uf:Fx.Own rJ B 28 1 (.slice (m.ra a) ((m.rn a)) ((m.rc a))) (m.rn a) (rv .u64 (m.rq a)):=pV.1 a ha
  have bra:=H.br a ha
  -- region 16 draws
  refine Ak [0,1,4,5,8,9,12,16,17,2,3,6,7,10,11,13,14,15,18,19] [0,0,1,0,0,0,1,0,0,0,0,1,0,4,2,2,0,0,0,3] (iG [28]) vP Fx.iG.trans (fu := [(19,2,[2]),(19,6,[6]),(19,11,[11]),(14,13,[13]),(15,13,[14,13]),(19,13,[13]),(15,14,[14]),(18,14,[14]),(19,14,[14]),(18,15,[15]),(19,15,[15])]) (by kernel_rfl) (by kernel_rfl) (by kernel_rfl) (by kernel_rfl) (by kernel_rfl) fun Zd oV Fv => ?_
  have⟨yc,A9,wz,sF,oO,wU,wV,sG⟩:=lu oV nJ oN oh pV qE pW xZ uf
  have b14:=dX oV b13 F
  refine bQ Y<|Rp ((pt G)) (fun _=>iN Q 0)<|bQ Y<|Rp ((pt G)) (fun _=>iN Q 0)<|aV ((pt p))<|aV ((pf p 21))<|Rp ((pf G 12)) (fun _=>iN Q 12)<|aV ((pt p))<|aV ((pf p 21))<|Rd (v:=au v.o) (by rfl) (by rfl) (vP _) (fun I A=>bC (x:=bO v) rfl rfl (by kernel_rfl) (oO.jG A (by decide)).aH (i:=0) (by omega) (by omega) rfl) ?_
  refine Rp (au a) (fun _=>fO)<|Rd (v:=au v.o) (by rfl) (by rfl) (vP _) (fun I A=>bC (x:=bO v) rfl rfl (by kernel_rfl) (oO.jG A (by decide)).aH (i:=0) (by omega) (by omega) rfl) ?_
  refine Rp (au a) (fun _=>fO)<|Rp ((pf p (a+21))) (fun _=>je 6 1)<|Rd (v := .slice (m.ra a) ((m.rn a)) ((m.rc a))) (by rfl) (by rfl) (vP _) (fun I A=>bC (x:=kJ m) rfl rfl (by kernel_rfl) (yc.jG A (by decide)).aH (i:=a+21) (by omega) (by omega) (uY _ (by omega))) ?_
  refine Rs (aD v.req) (aL oO.aH 12) ?_
  refine zC<|yj (vs := [(0,aD v.req)]) (s:=1) (zc:=rv .u64 (fun _=>0)) (y:=bG (fun j=>(rv .u64 (fun _=>0)) (j % 1)) (0*1) 1 (fun _=>aD v.req)) (by rfl) rfl rfl Tryz.underlying63 (by kernel_rfl) (by rfl) (by rfl) (by kernel_rfl) (by rw[bD (off:=0*1) (s:=1) (y:=fun _=>aD v.req) rfl (cells_one (by rfl)) (by rfl)]; rfl) rfl fun g3 DI yT Ba AQ z4 => ?_
  have⟨GN,DW,zP,DX,Bb,yY,GZ⟩:=jl AQ.old yc A9 wz sF wU wV sG
  have b15:=dX AQ.old b14 F
  have Dy:=jc yT b14.size
  have⟨agq,agr,ags⟩:=Iq yT yc.lt A9.lt oO.lt
  have agt:(.slice (m.ra a) ((m.rn a)) ((m.rc a)):Value).ownBlock≠some g3:=by rw[yT]; exact sG.jC (Nat.le_refl _)
  have KQ:=Ba.lt
  refine Ln ⟨Fx.iG.of_below AQ.old,?_⟩
  refine zC<|yI (B:=B) (s:=1) (bytes:=8) (k:=(m.rn a)) (m:=1) (v := .slice (m.ra a) ((m.rn a)) ((m.rc a))) (x:=rv .u64 (m.rq a)) (by rfl) rfl rfl rfl Tryz.underlying63 (by kernel_rfl) (by kernel_rfl) rfl rfl GZ Ba.aH (xM (fun _=>rfl)) (by omega) (by omega) (by omega) (Nat.le_trans F b15.size) fun g4 E Ch ho1 hg1 tJ hlt1 => ?_
  have qy:=yL hg1 GZ
  have⟨DY,DZ,ER,Bc,D5⟩:=qp qy GN DW zP Bb yY
  have Jg:Fx.Own Ch B 28 1 (.slice (some ⟨g4,0,none⟩) ((m.rn a)+1) E) ((m.rn a)+1) (rv .u64 (aJ (m.rq a) (m.rn a) v.req)):=(ho1.congr (fun j hj=>MR j hj))
  have b16:Below B w Ch:=xR b15 hg1 (Nat.le_trans F b15.size) (fun q hq=>(GZ.ge hq).1)
  have Bd:uZ Ch B 6 { m with ra:=aJ m.ra a (some ⟨g4,0,none⟩),rn:=aJ m.rn a (m.rn a+1),rc:=aJ m.rc a E,rq:=aJ m.rq a (aJ (m.rq a) (m.rn a) v.req) }:=uZ.app DX ha rfl rfl rfl rfl Jg hg1 tJ
  refine Ln ⟨qy,?_⟩
  refine Rp ((pf p (a+21))) (fun _=>je 6 1)<|fQ<|iQ DY (a+21) (.slice (some ⟨g4,0,none⟩) ((m.rn a)+1) (E)) fun EN Ed s15 z5 => ?_
  have yQ:=gY s15 DY.ty
  have⟨D6,yZ,zQ,GQ,R5⟩:=qp yQ DZ ER Bc D5 Bd
  have b17:=s15.below b16 (Nat.le_trans F b16.size) (by omega)
  refine Ln<|bM<|ay<|av (au 0)<|aC<|Wr<|aI (au 0) ?_
  have O:bA v=a:=by unfold bA; omega
  have aa : ¬ 0<=m.core.jQ (bA v) v.req:=by rw[O]; exact of_decide_eq_false V
  have Z0 : ¬ (m.core.grant v.o v.of<0\/m.core.g (yE m.core v) 4≠0):=by rw[ac]; exact fun h=>h.elim ab (fun h=>h ae)
  have ew:kL m.core v=cO (fun x=>bF x v.o (m.g b 3)) (mY m.core (m.g b 2)) m.R K:=by unfold kL; rw[ac,show dn m.core.t m.core.tn (m.core.g b 2)=K from OD.symm]; rfl
  have J:iq m.core v=0:=by unfold iq; rw[if_neg aa,if_neg Z0,ew,hRK]
  have eW:kL m.core v=(Rk,0):=ew.trans hRK
  refine⟨nD J.symm,b17,fun _=>⟨{ m with s := { m.s with ga:=m.s.ga,gn:=m.s.gn,gc:=m.s.gc },R:=Rk,g:=aJ m.g b (aJ (m.g b) 4 v.req),ra:=aJ m.ra a (some ⟨g4,0,none⟩),rn:=aJ m.rn a (m.rn a+1),rc:=aJ m.rc a E,rq:=aJ m.rq a (aJ (m.rq a) (m.rn a) v.req) },?_,?_⟩⟩
  ·unfold jF oP; rw[eW,O]; rw[ac]; rfl
  exact { c:=Ed.to (Ji _ rfl _ _ _),n:=zQ,g:=GQ,tc:=D6,t:=yZ,r:=R5,pB:=RI,tB:=Cm,bn:=bn,bg:=(by show m.s.gn<=1000000; omega),bt:=bt,br:=(fun i N=>by show aJ m.rn a (m.rn a+1) i<=1000000; have:=X7 i N; have:=X7 a ha; unfold aJ; split <;> omega) }
 refine Lv aG (mE ae)<|av aG<|aC<|aM<|ay<|av (au 12)<|aC<|Wr<|sR<|aI (au 12) ?_
 have O:bA v=a:=by unfold bA; omega
 have aa : ¬ 0<=m.core.jQ (bA v) v.req:=by rw[O]; exact of_decide_eq_false V
 have J:iq m.core v=12:=by unfold iq; rw[if_neg aa,ac]; exact if_pos (.inr ae)
 exact⟨nD J.symm,b4,fun P=>by rw[J]at P; cases P⟩
namespace Rt
def vF(L:gV)(v:EvM):Int:=if L.node v.node<0 then 9 else if 140737488355328<L.R (L.node v.node).toNat (bA v)+v.aX then 6 else 0
def Eh(L:gV)(v:EvM):gV := { L with R:=aJ L.R (L.node v.node).toNat (upd (L.R (L.node v.node).toNat) (bA v) (L.R (L.node v.node).toNat (bA v)+v.aX)) }
def wW(L:gV)(v:EvM):(Nat->Int) × Int:=cK (L.R (L.node v.node).toNat) v.o v.dst v.aX
def nK(L:gV)(v:EvM):Int:=if L.node v.node<0 then 9 else if v.dst<1\/6<v.dst\/L.inn (v.dst-1).toNat=false then 10 else(wW L v).2
def Ei(L:gV)(v:EvM):gV := { L with R:=aJ L.R (L.node v.node).toNat (wW L v).1 }
noncomputable def dM(L:gV)(v:EvM):Int :=
 if v.kind=1 then jE L v else if v.kind=2 then vF L v else if v.kind=3 then iE L v else if v.kind=4 then iq L v else if v.kind=5 then nK L v else 0
def iw(L:gV)(v:EvM):gV :=
 if v.kind=1 then oM L v else if v.kind=2 then Eh L v else if v.kind=3 then kK L v else if v.kind=4 then jF L v else if v.kind=5 then Ei L v
 else if v.kind=6 then { L with inn:=aJ L.inn (v.dst-1).toNat true } else { L with left:=aJ L.left (bA v) true }
theorem Lb{n q a:Nat}{id par:Nat->Int}{R:Nat->Nat->Int}{x:Int} : ∀ i,i<n -> ∀ j,j<56->Fx.pJ (fun b=>kQ (id b) (par b) (R b)) q (dz (kQ (id q) (par q) (R q)) (a+2) (au x)) i j=kQ (id i) (par i) (aJ R q (upd (R q) a x) i) j:=fun i _ j _=>by
 unfold Fx.pJ
 by_cases h:i=q
 ·subst h; rw[if_pos rfl,MK rfl]; unfold aJ; rw[if_pos rfl]
 ·rw[if_neg h]; unfold aJ; rw[if_neg h]
theorem VB(m:jK){i:Nat}(hi:i<6):dz (kJ m) i (.bool true)=kJ { m with s := { m.s with inn:=aJ m.s.inn i true } }:=by
 funext p
 unfold dz kJ
 by_cases h:p=i
 ·subst h; rw[if_pos rfl,if_pos (by omega)]; unfold nH; rw[if_pos hi]; simp[aJ]
 rw[if_neg h]
 by_cases a:p<20
 ·rw[if_pos a,if_pos a]; unfold nH
  by_cases b:p<6
  ·rw[if_pos b,if_pos b]; simp[aJ,h]
  rw[if_neg b,if_neg b]
 rw[if_neg a,if_neg a]
theorem R7(m:jK){i q:Nat}(hi:i<6)(d:q=i+6):dz (kJ m) q (.bool true)=kJ { m with s := { m.s with left:=aJ m.s.left i true } }:=by
 subst d
 funext p
 unfold dz kJ
 by_cases h:p=i+6
 ·subst h; rw[if_pos rfl,if_pos (by omega)]; unfold nH; rw[if_neg (by omega),if_pos (by omega)]; simp[aJ]
 rw[if_neg h]
 by_cases a:p<20
 ·rw[if_pos a,if_pos a]; unfold nH
  by_cases b:p<6
  ·rw[if_pos b,if_pos b]
  rw[if_neg b,if_neg b]
  by_cases c:p<12
  ·rw[if_pos c,if_pos c]; simp[aJ,show ¬ p-6=i by omega]
  rw[if_neg c,if_neg c]
 rw[if_neg a,if_neg a]
theorem OG(m:jK){i q:Nat}(hi:i<6)(e:q=i+12)(x:Int):dz (kJ m) q (aD x)=kJ { m with s := { m.s with known:=aJ m.s.known i x } }:=by
 subst e
 funext p
 unfold dz kJ
 by_cases h:p=i+12
 ·subst h; rw[if_pos rfl,if_pos (by omega)]; unfold nH; rw[if_neg (by omega),if_neg (by omega),if_pos (by omega)]; simp[aJ]
 rw[if_neg h]
 by_cases a:p<20
 ·rw[if_pos a,if_pos a]; unfold nH
  by_cases b:p<6
  ·rw[if_pos b,if_pos b]
  rw[if_neg b,if_neg b]
  by_cases c:p<12
  ·rw[if_pos c,if_pos c]
  rw[if_neg c,if_neg c]
  by_cases d:p<18
  ·rw[if_pos d,if_pos d]; simp[aJ,show ¬ p-12=i by omega]
  rw[if_neg d,if_neg d]
 rw[if_neg a,if_neg a]
theorem lV{v:EvM}(h:dh v=true):1<=v.kind/\v.kind<=7:=by
 unfold dh at h
 simp only[Bool.and_eq_true]at h
 have a:=h.2
 unfold dK at a
 split at a; · omega
 split at a; · omega
 split at a; · omega
 split at a; · omega
 split at a; · omega
 split at a; · omega
 have:=of_decide_eq_true a; omega
theorem vG{v:EvM}(h:dh v=true)(c:v.kind=2\/v.kind=3\/v.kind=5):1<=v.aX/\v.aX<=1125899906842624:=by
 unfold dh at h
 simp only[Bool.and_eq_true]at h
 have a:=h.2
 unfold dK at a
 rw[if_neg (by omega)]at a
 have b:someE v=true->1<=v.aX/\v.aX<=1125899906842624:=fun h=>by unfold someE at h; simpa using h
 split at a; · exact b a
 split at a; · rw[Bool.and_eq_true]at a; exact b a.1
 rw[if_neg (by omega)]at a
 split at a; · rw[Bool.and_eq_true]at a; exact b a.1
 omega
theorem FK{v:EvM}(h:dh v=true)(c:v.kind=6) : ∃ b:Nat,b<6/\v.dst=(b:Int)+1:=by
 unfold dh at h
 simp only[Bool.and_eq_true]at h
 have a:=h.2
 unfold dK at a
 rw[if_neg (by omega),if_neg (by omega),if_neg (by omega),if_neg (by omega),if_neg (by omega),if_pos c]at a
 unfold lI at a
 rw[Bool.and_eq_true]at a
 exact eY a.1
end Rt
set_option maxRecDepth 20000 in
set_option maxHeartbeats 2000000 in
theorem aaj(m:jK)(B p a:Nat)(v:EvM)(w:World)(S:su w B p m)(H:B<=w.heap.size)(ha:a<6)(ho:v.o=(a:Int)+1)(bnn:m.s.nn<=900)(bgg:m.s.gn<=900000)(X7 : ∀ i,i<6->m.rn i<=900000)(hTN : ∀ x,m.node x=bB m.t m.tn x)(hDx : ∀ x,∃ D,D<=1000/\bB m.t m.tn (bf m.t m.tn D x)<0)(hv:fC v)(hmay:dh v=true)(hR : ∀ k,k<m.s.nn->may (m.R k)=true) :
 Calls Tryz.prog 54 #[(pt p),.agg (aA 14 (bO v))] w fun e w'=>e = .returned (au (dM m.core v))/\Below B w w'/\(dM m.core v=0 -> ∃ m',m'.core=iw m.core v/\su w' B p m'):=by
 have RI:=S.pB
 have Cm:=S.tB
 have bn:=S.bn
 have bg:=S.bg
 have bt:=S.bt
 have ZJ:p<w.heap.size:=S.c.lt
 have O9:m.tb<w.heap.size:=S.tc.lt
 have hvk:=hv.kind
 have hvt:=hv.dst
 have hkr:=lV hmay
 obtain⟨D,hD2,hD⟩:=hDx v.node
 refine Kent Tryz.func54 152 ?_
 refine ay<|pK fun I w1 kV W s1 z1 => ?_
 have C:=aY s1.old S
 have X:=dX s1.old (Below.refl B w) H
 have tL:=jc kV (Below.refl B w).size
 have vR:=W.lt
 refine av (au 0)<|aC<|Ws<|ay<|av ((pf I 8))<|Lv (.int .u8 (v.kind)) (aL W.aH 8)<|aC<|Wb<|ay ?_
 by_cases F:v.kind=1
 ·refine Lv aG (eP F)<|av aG<|aC<|aM<|ay<|av ((pt p))<|Lv (.agg (aA 14 (bO v))) (fA W.aH 0)<|dA (Vl m B p a D v _ C (Nat.le_trans H X.size) ha ho bnn hD hD2) _ rfl ?_
  rintro w2 ⟨hb1,hr1⟩
  have b2:Below B w w2:=X.trans hb1
  refine av (au (jE m.core v))<|aC<|Wr<|bK<|sR<|aI (au (jE m.core v)) ?_
  have A:dM m.core v=jE m.core v:=by unfold dM; rw[if_pos F]
  have ec:iw m.core v=oM m.core v:=by unfold iw; rw[if_pos F]
  exact⟨nD A.symm,b2,fun E=>by rw[ec]; exact hr1 (A.symm.trans E)⟩
 refine Lv aF (fF F)<|av aF<|aC<|aK<|ay ?_
 by_cases G:v.kind=2
 ·refine Lv aG (eP G)<|av aG<|aC<|aM<|Ws ?_
  have aa:=C.c
  have ac:=C.n
  have ab:=C.g
  have ae:=C.tc
  have af:=C.t
  have ad:=C.r
  refine Wl<|av ((pt p))<|av ((pf I 9))<|Lv (aD v.node) (aL W.aH 9) ?_
  have K8:Al w1 p m := { c:=aa.aH,an:=ac.arr,ag:=ab.arr,tc:=ae.aH,at2:=af.arr,ar:=fun i hi=>(ad.1 i hi).arr,bn:=(by show m.s.nn<=1000000; omega),bg:=bg,bt:=(by show m.tn<=1000000; omega),br:=S.br }
  refine dA (DN m p v.node _ K8) _ rfl ?_
  intro w3 hb2
  have⟨m3,m4,m5,m6,m7,m8,m9⟩:=jl hb2 W aa ac ab ae af ad
  have b3:=dX hb2 X H
  refine av (au (m.node v.node))<|aC<|Ws<|ay<|av (au (m.node v.node)) ?_
  by_cases c23:(m.node v.node)<0
  ·refine Lv aG (gy c23)<|aC<|aM<|ay<|av (au 9)<|aC<|Wr<|sR<|bK<|sR<|aI (au 9) ?_
   have P:bA v=a:=by unfold bA; omega
   have A:dM m.core v=9:=by unfold dM; rw[if_neg F,if_pos G]; unfold vF; exact if_pos c23
   exact⟨nD A.symm,b3,fun E=>by rw[A]at E; cases E⟩
  obtain⟨d,hkq,V,_⟩:=zS (m:=m) (x:=v.node) (by omega)
  have V:m.node v.node=(d:Int):=V
  have ekN:(m.core.node v.node).toNat=d:=by show(m.node v.node).toNat=d; rw[V]; rfl
  refine Lv aF (gD c23)<|aC<|aK<|Wk<|sN<|Ws<|Ws ?_
  have hRb:=ko (hR d hkq) a (by omega)
  have hab:=vG hmay (.inl G)
  -- region 8 draws
  refine wh<|aR ((pt p))<|aR ((pt p))<|aR ((pt p))<|aR ((pf p 18))<|Qv (.slice m.s.na (m.s.nn) (m.s.nc)) (fun l f=>aL (m4.aH.dr f) 18)<|dS (congrArg (Value.int .i64) V)<|aR ((pt I))<|Qv (au v.o) (fun l f=>aL (m3.aH.dr f) 0)<|Qv (au a) (fun l f=>fO) ?_
  obtain⟨Q,eq1⟩:=m5.addr (by omega)
  have m10:Fx.Own w3 B 61 56 (bI Q m.s.nn m.s.nc) m.s.nn (H9 m):=m5.dU (congrArg (fun q=>Value.slice q m.s.nn m.s.nc) eq1)
  refine Qv ((pf Q (56*d))) (fun l f=>cu 56 (hx:=(rfl.trans (congrArg (fun q=>Value.slice q (m.s.nn) (m.s.nc)) eq1))))<|aR ((pf Q (56*d+2)))<|aR ((pf Q (56*d+2)))<|Qv ((pf Q (a+56*d+2))) (fun l f=>je 6 1)<|Qv (au ((m.R d) a)) (fun l f=>aL (m10.aH.dr f) (a+56*d+2) (Fx.gW (k:=d) (j:=a+2) (by omega) (by omega) (KZ _ _ _ (by omega))))<|aR ((pf I 11))<|Qv (au v.aX) (fun l f=>aL (m3.aH.dr f) 11)<|Qv (au (((m.R d) a)+v.aX)) (fun l f=>eZ) ?_
  by_cases c41:140737488355328<(((m.R d) a)+v.aX)
  ·refine Qv aG (fun l f=>jY c41)<|Qn ?_
   rintro _ ⟨L,rfl⟩
   obtain⟨BI,qD⟩ : ∃ l,l=World.drewN w3 L:=⟨_,rfl⟩
   rw[<- qD]
   have s3:Stp w3.heap.size w3 BI:=by rw[qD]; exact Sb (iU w3 L)
   have b4:=dX s3.old b3 H
   clear qD
   refine sN<|aM<|ay<|av (au 6)<|aC<|Wr<|sR<|bK<|sR<|aI (au 6) ?_
   have P:bA v=a:=by unfold bA; omega
   have A:dM m.core v=6:=by unfold dM; rw[if_neg F,if_pos G]; unfold vF; rw[ekN,P,if_neg (show ¬ m.core.node v.node<0 from c23)]; exact if_pos c41
   exact⟨nD A.symm,b4,fun E=>by rw[A]at E; cases E⟩
  refine Qv aF (fun l f=>jZ c41)<|Qn ?_
  rintro _ ⟨L,rfl⟩
  obtain⟨wq2,vg⟩ : ∃ l,l=World.drewN w3 L:=⟨_,rfl⟩
  rw[<- vg]
  have s4:Stp w3.heap.size w3 wq2:=by rw[vg]; exact Sb (iU w3 L)
  have⟨m18,m19,m20,m21,m22,m23,m24⟩:=jl s4.old m3 m4 m6 m7 m8 m9 m10
  have b5:=dX s4.old b3 H
  clear vg
  refine sN<|aK<|Wk<|sN ?_
  -- region 10 draws
  refine jo [0,1,2,3,5,6,14,4,9,10,11,17,18,19,7,8,12,13,15,16,20,21] [0,0,0,0,4,0,0,4,0,0,0,0,0,4,0,4,0,0,0,0,0,3] [(21,4,[4]),(21,7,[7]),(21,13,[13]),(21,15,[15])] fun oU dL gU => ?_
  have⟨lW,mR,nY,nT,oF,nE,lH⟩:=jl dL m18 m19 m20 m21 m22 m23 m24
  have b6:=dX dL b5 H
  refine aV ((pt p))<|aV ((pt p))<|aV ((pt p))<|aV ((pf p 18))<|bQ (congrArg (Value.int .i64) V)<|aV ((pt I))<|aV ((pf I 11))<|Rs (.slice m.s.na (m.s.nn) (m.s.nc)) (aL mR.aH 18) ?_
  refine Rp ((pf Q (56*d))) (fun _=>cu 56 (hx:=(rfl.trans (congrArg (fun q=>Value.slice q (m.s.nn) (m.s.nc)) eq1))))<|aV ((pf Q (56*d+2)))<|aV ((pf Q (56*d+2)))<|Rp ((pf Q (56*d))) (fun _=>cu 56 (hx:=(rfl.trans (congrArg (fun q=>Value.slice q (m.s.nn) (m.s.nc)) eq1))))<|aV ((pf Q (56*d+2)))<|aV ((pf Q (56*d+2)))<|Rs (au v.o) (aL lW.aH 0) ?_
  refine Rp (au a) (fun _=>fO)<|Rp ((pf Q (a+56*d+2))) (fun _=>je 6 1)<|Rs (au ((m.R d) a)) (aL lH.aH (a+56*d+2) (Fx.gW (k:=d) (j:=a+2) (by omega) (by omega) (KZ _ _ _ (by omega)))) ?_
  refine Rs (au v.aX) (aL lW.aH 11) ?_
  refine Rp (au (((m.R d) a)+v.aX)) (fun _=>eZ)<|Rp ((pf Q (a+56*d+2))) (fun _=>je 6 1)<|fQ<|oC lH (a+56*d+2) (au (((m.R d) a)+v.aX)) fun w4 m32 s6 z2 => ?_
  have gI:=gY s6 lH.Il
  have⟨nG,oJ,pO,qL,qM⟩:=qp gI mR nY nT oF nE
  have b7:=s6.below b6 (Nat.le_trans H b6.size) lH.blk.1
  have pQ:Fx.Own w4 B 61 56 (bI Q m.s.nn m.s.nc) m.s.nn (flat 56 (fun O=>kQ (m.id O) (m.par O) (aJ m.R d (upd (m.R d) a (((m.R d) a)+v.aX)) O))):=m32.congr (fun pq hp=>(Fx.Fb (k:=d) (j:=a+2) (by omega) (by omega) pq hp).trans (bH (fun i hi j hj=>Lb (a:=a) (x:=((m.R d) a)+v.aX) (q:=d) (id:=m.id) (par:=m.par) (R:=m.R) i hi j hj) pq hp))
  refine Ln<|Rn<|bP<|sN<|ay<|av (au 0)<|aC<|Wr<|aI (au 0) ?_
  have P:bA v=a:=by unfold bA; omega
  have qW:Fx.Own w4 B 61 56 (.slice m.s.na (m.s.nn) (m.s.nc)) m.s.nn (flat 56 (fun O=>kQ (m.id O) (m.par O) (aJ m.R d (upd (m.R d) a (((m.R d) a)+v.aX)) O))):=pQ.dU (congrArg (fun q=>Value.slice q m.s.nn m.s.nc) eq1.symm)
  have A:dM m.core v=0:=by unfold dM; rw[if_neg F,if_pos G]; unfold vF; rw[ekN,P,if_neg (show ¬ m.core.node v.node<0 from c23)]; exact if_neg c41
  refine⟨nD A.symm,b7,fun _=>⟨{ m with R:=aJ m.R d (upd (m.R d) a (m.R d a+v.aX)) },by symm; unfold iw; rw[if_neg F,if_pos G]; unfold Eh; rw[ekN,P]; rfl,?_⟩⟩
  exact { c:=nG,n:=qW,g:=oJ,tc:=pO,t:=qL,r:=qM,pB:=RI,tB:=Cm,bn:=bn,bg:=bg,bt:=bt,br:=S.br }
 refine Lv aF (fF G)<|av aF<|aC<|aK<|ay ?_
 by_cases K:v.kind=3
 ·refine Lv aG (eP K)<|av aG<|aC<|aM<|ay<|av ((pt p))<|Lv (.agg (aA 14 (bO v))) (fA W.aH 0)<|dA (Vs m B p a D v _ C (Nat.le_trans H X.size) ha ho bgg X7 hTN hD hD2) _ rfl ?_
  rintro w5 ⟨hb3,hr2⟩
  have b8:Below B w w5:=X.trans hb3
  refine av (au (iE m.core v))<|aC<|Wr<|bK<|sR<|aI (au (iE m.core v)) ?_
  have A:dM m.core v=iE m.core v:=by unfold dM; rw[if_neg F,if_neg G,if_pos K]
  have ec:iw m.core v=kK m.core v:=by unfold iw; rw[if_neg F,if_neg G,if_pos K]
  exact⟨nD A.symm,b8,fun E=>by rw[ec]; exact hr2 (A.symm.trans E)⟩
 refine Lv aF (fF K)<|av aF<|aC<|aK<|ay ?_
 by_cases N:v.kind=4
 ·refine Lv aG (eP N)<|av aG<|aC<|aM<|ay<|av ((pt p))<|Lv (.agg (aA 14 (bO v))) (fA W.aH 0)<|dA (Vz m B p a  v _ C (Nat.le_trans H X.size) ha ho bgg X7 hTN hDx) _ rfl ?_
  rintro w6 ⟨hb4,hr3⟩
  have J:Below B w w6:=X.trans hb4
  refine av (au (iq m.core v))<|aC<|Wr<|bK<|sR<|aI (au (iq m.core v)) ?_
  have A:dM m.core v=iq m.core v:=by unfold dM; rw[if_neg F,if_neg G,if_neg K,if_pos N]
  have ec:iw m.core v=jF m.core v:=by unfold iw; rw[if_neg F,if_neg G,if_neg K,if_pos N]
  exact⟨nD A.symm,J,fun E=>by rw[ec]; exact hr3 (A.symm.trans E)⟩
 refine Lv aF (fF N)<|av aF<|aC<|aK<|ay ?_
 by_cases U:v.kind=5
 ·refine Lv aG (eP U)<|av aG<|aC<|aM<|Ws ?_
  have aa:=C.c
  have ac:=C.n
  have ab:=C.g
  have ae:=C.tc
  have af:=C.t
  have ad:=C.r
  refine Wl<|av ((pt p))<|av ((pf I 9))<|Lv (aD v.node) (aL W.aH 9) ?_
  have RZ:Al w1 p m := { c:=aa.aH,an:=ac.arr,ag:=ab.arr,tc:=ae.aH,at2:=af.arr,ar:=fun i hi=>(ad.1 i hi).arr,bn:=(by show m.s.nn<=1000000; omega),bg:=bg,bt:=(by show m.tn<=1000000; omega),br:=S.br }
  refine dA (DN m p v.node _ RZ) _ rfl ?_
  intro M hb5
  have⟨mW,lY,lX,qX,oZ,mX,rM⟩:=jl hb5 W aa ac ab ae af ad
  have b10:=dX hb5 X H
  refine av (au (m.node v.node))<|aC<|Ws<|ay<|av (au (m.node v.node)) ?_
  by_cases c80:(m.node v.node)<0
  ·refine Lv aG (gy c80)<|aC<|aM<|ay<|av (au 9)<|aC<|Wr<|sR<|bK<|sR<|aI (au 9) ?_
   have P:bA v=a:=by unfold bA; omega
   have A:dM m.core v=9:=by unfold dM; rw[if_neg F,if_neg G,if_neg K,if_neg N,if_pos U]; unfold nK; exact if_pos c80
   exact⟨nD A.symm,b10,fun E=>by rw[A]at E; cases E⟩
  obtain⟨d,hkq,V,_⟩:=zS (m:=m) (x:=v.node) (by omega)
  have V:m.node v.node=(d:Int):=V
  have ekN:(m.core.node v.node).toNat=d:=by show(m.node v.node).toNat=d; rw[V]; rfl
  refine Lv aF (gD c80)<|aC<|aK<|Wk<|sN<|Ws<|Ws ?_
  -- region 19 draws
  refine wh<|aR ((pf I 10))<|Qv (au v.dst) (fun l f=>aL (mW.aH.dr f) 10) ?_
  by_cases c83:v.dst<1
  ·refine Qv aG (fun l f=>gy c83)<|aR aG<|aN<|aN<|aN<|aR aG<|aR aG<|aN<|aN<|aN<|aN<|aN<|aN<|aN<|aN<|aN<|aN<|aR aG<|Qn ?_
   rintro _ ⟨L,rfl⟩
   obtain⟨Oy,Ee⟩ : ∃ l,l=World.drewN M L:=⟨_,rfl⟩
   rw[<- Ee]
   have s8:Stp M.heap.size M Oy:=by rw[Ee]; exact Sb (iU M L)
   have b11:=dX s8.old b10 H
   clear Ee
   refine sN<|aM<|ay<|av (au 10)<|aC<|Wr<|sR<|bK<|sR<|aI (au 10) ?_
   have P:bA v=a:=by unfold bA; omega
   have A:dM m.core v=10:=by unfold dM; rw[if_neg F,if_neg G,if_neg K,if_neg N,if_pos U]; unfold nK; rw[if_neg (show ¬ m.core.node v.node<0 from c80)]; exact if_pos (.inl c83)
   exact⟨nD A.symm,b11,fun E=>by rw[A]at E; cases E⟩
  refine Qv aF (fun l f=>gD c83)<|aR aF<|aR ((pf I 10))<|Qv (au v.dst) (fun l f=>aL (mW.aH.dr f) 10) ?_
  by_cases c87:6<v.dst
  ·refine Qv aG (fun l f=>jY c87)<|aR aG<|aR aG<|aN<|aN<|aN<|aN<|aN<|aN<|aN<|aN<|aN<|aN<|aR aG<|Qn ?_
   rintro _ ⟨L,rfl⟩
   obtain⟨ZX,Ef⟩ : ∃ l,l=World.drewN M L:=⟨_,rfl⟩
   rw[<- Ef]
   have s9:Stp M.heap.size M ZX:=by rw[Ef]; exact Sb (iU M L)
   have b12:=dX s9.old b10 H
   clear Ef
   refine sN<|aM<|ay<|av (au 10)<|aC<|Wr<|sR<|bK<|sR<|aI (au 10) ?_
   have P:bA v=a:=by unfold bA; omega
   have A:dM m.core v=10:=by unfold dM; rw[if_neg F,if_neg G,if_neg K,if_neg N,if_pos U]; unfold nK; rw[if_neg (show ¬ m.core.node v.node<0 from c80)]; exact if_pos (.inr (.inl c87))
   exact⟨nD A.symm,b12,fun E=>by rw[A]at E; cases E⟩
  obtain⟨J,XT,eb9⟩ : ∃ b:Nat,b<6/\v.dst=(b:Int)+1:=⟨(v.dst-1).toNat,by omega,by omega⟩
  refine Qv aF (fun l f=>jZ c87)<|aR aF<|aR aF<|aR ((pt p))<|aR ((pf I 10))<|Qv (au v.dst) (fun l f=>aL (mW.aH.dr f) 10)<|Qv (au J) (fun l f=>fO)<|aR ((pt p))<|aR ((pt p))<|aR ((pt p))<|Qv ((pf p J)) (fun l f=>je 6 1) ?_
  by_cases c98:(m.s.inn J)=true
  ·refine Qv aG (fun l f=>aL (lY.aH.dr f) J ((jD _ (by omega) (yX _ (by omega))).trans (congrArg Value.bool c98)))<|aR aF<|aR aF<|Qn ?_
   rintro _ ⟨L,rfl⟩
   obtain⟨wq5,K9⟩ : ∃ l,l=World.drewN M L:=⟨_,rfl⟩
   rw[<- K9]
   have s10:Stp M.heap.size M wq5:=by rw[K9]; exact Sb (iU M L)
   have⟨mU,qN,m64,wm,uy,uz,sj⟩:=jl s10.old mW lY lX qX oZ mX rM
   have b13:=dX s10.old b10 H
   clear K9
   refine sN<|aK<|Wk<|sN<|Ws ?_
   -- region 21 draws
   obtain⟨Z,ET⟩:=m64.addr (by omega)
   have ru:Fx.Own wq5 B 61 56 (bI Z m.s.nn m.s.nc) m.s.nn (H9 m):=m64.dU (congrArg (fun q=>Value.slice q m.s.nn m.s.nc) ET)
   refine qQ (T:=59) (T':=59) (a := .tmp 7) (v := .tmp 118) (m:=54) (z:=rv .i64 (fun _=>0)) (y:=rv .i64 ((cK (m.R d) v.o v.dst v.aX).1)) (u := .agg (aA 54 (rv .i64 ((cK (m.R d) v.o v.dst v.aX).1)))) 19 20 (List.replicate 22 (0,2,[],[])) #[(pt p),(pt p),(pt p),(pf p 18),.slice m.s.na (m.s.nn) (m.s.nc),au ((d:Int)),(pf Z (56*d)),(pf Z (56*d+2)),.agg (aA 54 (rv .i64 (m.R d))),(pt I),au v.o,(pf I 10),au v.dst,(pf I 11),au v.aX,.tuple #[.agg (aA 54 (rv .i64 ((cK (m.R d) v.o v.dst v.aX).1))),au ((cK (m.R d) v.o v.dst v.aX).2)],.tuple #[.agg (aA 54 (rv .i64 ((cK (m.R d) v.o v.dst v.aX).1))),au ((cK (m.R d) v.o v.dst v.aX).2)],.agg (aA 54 (rv .i64 ((cK (m.R d) v.o v.dst v.aX).1))),au ((cK (m.R d) v.o v.dst v.aX).2),undef,undef,au ((cK (m.R d) v.o v.dst v.aX).2)] (by kernel_rfl) (by kernel_rfl) (by kernel_rfl) (by kernel_rfl) (by kernel_rfl) (by kernel_rfl) rfl (by kernel_rfl) rfl rfl (by kernel_rfl) (fun Y=>(show ev _ (.tmp 7)=(pt Y)from by kernel_rfl)) (fun Y=>(show ev _ (.tmp 118) = .agg (aA 54 (rv .i64 ((cK (m.R d) v.o v.dst v.aX).1)))from by kernel_rfl)) (bJ _ _) (fun _ _=>rfl) (by kernel_rfl) (fun Y => ?_) ?_
   ·refine⟨?_,?_,?_,?_,?_,?_,?_,?_,?_,?_,?_,?_,?_,?_,?_,?_,?_,?_,?_,?_,?_,?_,trivial⟩
    ·exact .inr (.inr oD)
    ·exact .inr (.inr oD)
    ·exact .inr (.inr oD)
    ·exact .inr (.inr oD)
    ·exact .inr (.inr (qR (.slice m.s.na (m.s.nn) (m.s.nc)) fun l f=>bC (x:=kJ m) rfl (show ev _ (.tmp 105)=(pf p 18)from by kernel_rfl) (by kernel_rfl) (qN.aH.below f (by have:=qN.lt; omega)) (i:=18) (by omega) (by omega) rfl))
    ·exact .inr (.inr (qR (au d) fun l f=>fD rfl ((bU (by kernel_rfl)).trans (congrArg (Value.int .i64) V))))
    ·exact .inr (.inr (qR ((pf Z (56*d))) fun l f=>dR rfl ((show ev _ (.tmp 106) = .slice m.s.na (m.s.nn) (m.s.nc)from by kernel_rfl).trans (congrArg (fun q=>Value.slice q (m.s.nn) (m.s.nc)) ET)) (show ev _ (.tmp 107)=au ((d:Int))from by kernel_rfl) Tryz.underlying50 (s:=56) (by kernel_rfl) (by omega) (by omega) (by omega)))
    ·exact .inr (.inr oD)
    ·exact .inr (.inr (qR (.agg (aA 54 (rv .i64 (m.R d)))) fun l f=>dZ (x:=H9 m) (y:=rv .i64 (m.R d)) rfl (show ev _ (.tmp 109)=(pf Z (56*d+2))from by kernel_rfl) (by kernel_rfl) (by kernel_rfl) (ru.aH.below f (by have:=ru.lt; omega)) (i:=56*d+2) (by omega) (by omega) (fun jq hjq=>(Fx.iT (k:=d) (j:=2+jq) (by omega) (by omega)).trans ((fun jq _=>CP _ _ _ jq) jq hjq))))
    ·exact .inr (.inr oD)
    ·exact .inr (.inr (qR (au v.o) fun l f=>bC (x:=bO v) rfl (show ev _ (.tmp 111)=(pt I)from by kernel_rfl) (by kernel_rfl) (mU.aH.below f (by have:=mU.lt; omega)) (i:=0) (by omega) (by omega) rfl))
    ·exact .inr (.inr oD)
    ·exact .inr (.inr (qR (au v.dst) fun l f=>bC (x:=bO v) rfl (show ev _ (.tmp 113)=(pf I 10)from by kernel_rfl) (by kernel_rfl) (mU.aH.below f (by have:=mU.lt; omega)) (i:=10) (by omega) (by omega) rfl))
    ·exact .inr (.inr oD)
    ·exact .inr (.inr (qR (au v.aX) fun l f=>bC (x:=bO v) rfl (show ev _ (.tmp 115)=(pf I 11)from by kernel_rfl) (by kernel_rfl) (mU.aH.below f (by have:=mU.lt; omega)) (i:=11) (by omega) (by omega) rfl))
    ·exact .inr (.inr (Fx.Gn (v := .tuple #[.agg (aA 54 (rv .i64 ((cK (m.R d) v.o v.dst v.aX).1))),au ((cK (m.R d) v.o v.dst v.aX).2)]) (by kernel_rfl) (by kernel_rfl) (Fx.qbC (fun l f=>rC (args := [.agg (aA 54 (rv .i64 (m.R d))),au v.o,au v.dst,au v.aX]) rfl (Fx.Pn (show ev _ (.tmp 110) = .agg (aA 54 (rv .i64 (m.R d)))from by kernel_rfl) (show ev _ (.tmp 112)=au v.o from by kernel_rfl) (show ev _ (.tmp 114)=au v.dst from by kernel_rfl) (show ev _ (.tmp 116)=au v.aX from by kernel_rfl)) Tryz.func81 rfl rfl) (fun l f=>(Vr (m.R d) v.o v.dst v.aX _).mono fun e v2 h=>⟨h.1,h.2⟩))))
    ·exact .inr (.inr oD)
    ·exact .inr (.inr oD)
    ·exact .inr (.inr oD)
    ·exact .inl rfl
    ·exact .inr (.inl rfl)
    exact .inr (.inr oD)
   rintro Y w8 f1 hf1 qO sU hb6
   have akv:I≠Y:=Nat.ne_of_lt (Nat.lt_of_lt_of_le (mU.lt) qO)
   have aah:p≠Y:=Nat.ne_of_lt (Nat.lt_of_lt_of_le (qN.lt) qO)
   have akw:m.tb≠Y:=Nat.ne_of_lt (Nat.lt_of_lt_of_le (uy.lt) qO)
   have akx:Z≠Y:=Nat.ne_of_lt (Nat.lt_of_lt_of_le (ru.lt) qO)
   have⟨uD,sZ,yB,uE,wQ,wF⟩:=qo hb6 qN wm uy uz sj ru
   have b14:=dX hb6 b13 H
   have qO:w.heap.size<=Y:=Nat.le_trans b13.size qO
   have zJ:=sU.lt
   have q1:f1 0=(pt p):=by rw[hf1]; kernel_rfl
   have q2:f1 4=au 0:=by rw[hf1]; kernel_rfl
   have q3:f1 6=au ((d:Int)):=by rw[hf1]; exact(bU (by kernel_rfl)).trans (congrArg (Value.int .i64) V)
   have q4:f1 7=(pt Y):=by rw[hf1]; kernel_rfl
   have q5:f1 8=au ((cK (m.R d) v.o v.dst v.aX).2):=by rw[hf1]; kernel_rfl
   clear hf1
   refine sN<|Ws<|ay<|aS q5 ?_
   by_cases VD:((cK (m.R d) v.o v.dst v.aX).2)=0
   ·refine Lv aF (jJ VD)<|aC<|aK<|Wk<|sN ?_
    -- region 24 draws
    refine jo [0,1,2,3,5,4,6,7,8,9] [0,0,0,0,4,0,4,0,0,3] [(9,4,[4]),(9,6,[6])] fun yP fG lQ => ?_
    have⟨vX,uT,tN,wo,xW,wu,yR⟩:=jl fG uD sZ yB uE wQ wF sU
    have b15:=dX fG b14 H
    refine bQ q1<|aV ((pt p))<|aV ((pt p))<|aV ((pf p 18))<|bQ q3<|Rs (.slice m.s.na (m.s.nn) (m.s.nc)) (aL vX.aH 18) ?_
    refine Rs (.agg (aA 54 (rv .i64 ((cK (m.R d) v.o v.dst v.aX).1)))) (fA yR.aH 0 (ha:=q4)) ?_
    refine Rp ((pf Z (56*d))) (fun _=>cu 56 (hx:=(rfl.trans (congrArg (fun q=>Value.slice q (m.s.nn) (m.s.nc)) ET))))<|aV ((pf Z (56*d+2)))<|fQ<|yN wu (56*d+2) fun w9 yC s13 z3 => ?_
    have jN:=gY s13 wu.Il
    have⟨xG,xY,yS,Ci,AZ⟩:=qp jN vX uT tN wo xW
    have b16:=s13.below b15 (Nat.le_trans H b15.size) wu.blk.1
    have zO:Fx.Own w9 B 61 56 (bI Z m.s.nn m.s.nc) m.s.nn (flat 56 (fun O=>kQ (m.id O) (m.par O) (aJ m.R d ((cK (m.R d) v.o v.dst v.aX).1) O))):=yC.congr (fun pq hp=>(Fx.Aw (k:=d) (j:=2) (by omega) (by omega) pq hp).trans (bH (fun i hi j hj=>Bg (r:=(cK (m.R d) v.o v.dst v.aX).1) (q:=d) (id:=m.id) (par:=m.par) (R:=m.R) i hi j hj) pq hp))
    refine Ln<|Rn<|bP<|sN<|ay<|av (au 0)<|aC<|Wr<|aI (au 0) ?_
    have P:bA v=a:=by unfold bA; omega
    have eto : ¬ (v.dst<1\/6<v.dst\/m.core.inn (v.dst-1).toNat=false):=fun h=>h.elim c83 (fun h=>h.elim c87 (fun h=>by rw[show(v.dst-1).toNat=J by omega]at h; rw[show m.core.inn J=true from c98]at h; cases h))
    have eW:wW m.core v=cK (m.R d) v.o v.dst v.aX:=by unfold wW; rw[ekN]; rfl
    have xL:Fx.Own w9 B 61 56 (.slice m.s.na (m.s.nn) (m.s.nc)) m.s.nn (flat 56 (fun O=>kQ (m.id O) (m.par O) (aJ m.R d ((cK (m.R d) v.o v.dst v.aX).1) O))):=zO.dU (congrArg (fun q=>Value.slice q m.s.nn m.s.nc) ET.symm)
    have A:dM m.core v=0:=by unfold dM; rw[if_neg F,if_neg G,if_neg K,if_neg N,if_pos U]; unfold nK; rw[if_neg (show ¬ m.core.node v.node<0 from c80),if_neg eto,eW]; exact VD
    refine⟨nD A.symm,b16,fun _=>⟨{ m with R:=aJ m.R d (cK (m.R d) v.o v.dst v.aX).1 },by symm; unfold iw; rw[if_neg F,if_neg G,if_neg K,if_neg N,if_pos U]; unfold Ei; rw[ekN,eW]; rfl,?_⟩⟩
    exact { c:=xG,n:=xL,g:=xY,tc:=yS,t:=Ci,r:=AZ,pB:=RI,tB:=Cm,bn:=bn,bg:=bg,bt:=bt,br:=S.br }
   refine Lv aG (mE VD)<|aC<|aM<|ay<|aS q5<|av (au ((cK (m.R d) v.o v.dst v.aX).2))<|aC<|Wr<|sR<|bK<|sR<|aI (au ((cK (m.R d) v.o v.dst v.aX).2)) ?_
   have P:bA v=a:=by unfold bA; omega
   have eto : ¬ (v.dst<1\/6<v.dst\/m.core.inn (v.dst-1).toNat=false):=fun h=>h.elim c83 (fun h=>h.elim c87 (fun h=>by rw[show(v.dst-1).toNat=J by omega]at h; rw[show m.core.inn J=true from c98]at h; cases h))
   have eW:wW m.core v=cK (m.R d) v.o v.dst v.aX:=by unfold wW; rw[ekN]; rfl
   have A:dM m.core v=(cK (m.R d) v.o v.dst v.aX).2:=by unfold dM; rw[if_neg F,if_neg G,if_neg K,if_neg N,if_pos U]; unfold nK; rw[if_neg (show ¬ m.core.node v.node<0 from c80),if_neg eto,eW]
   exact⟨nD A.symm,b14,fun E=>by rw[A]at E; exact absurd E VD⟩
  rw[Bool.not_eq_true]at c98
  refine Qv aF (fun l f=>aL (lY.aH.dr f) J ((jD _ (by omega) (yX _ (by omega))).trans (congrArg Value.bool c98)))<|aR aG<|aR aG<|Qn ?_
  rintro _ ⟨L,rfl⟩
  obtain⟨wq6,aal⟩ : ∃ l,l=World.drewN M L:=⟨_,rfl⟩
  rw[<- aal]
  have AQ:Stp M.heap.size M wq6:=by rw[aal]; exact Sb (iU M L)
  have b17:=dX AQ.old b10 H
  clear aal
  refine sN<|aM<|ay<|av (au 10)<|aC<|Wr<|sR<|bK<|sR<|aI (au 10) ?_
  have P:bA v=a:=by unfold bA; omega
  have A:dM m.core v=10:=by unfold dM; rw[if_neg F,if_neg G,if_neg K,if_neg N,if_pos U]; unfold nK; rw[if_neg (show ¬ m.core.node v.node<0 from c80)]; exact if_pos (.inr (.inr (by rw[show(v.dst-1).toNat=J by omega]; exact c98)))
  exact⟨nD A.symm,b17,fun E=>by rw[A]at E; cases E⟩
 refine Lv aF (fF U)<|av aF<|aC<|aK<|ay ?_
 by_cases R8:v.kind=6
 ·refine Lv aG (eP R8)<|av aG<|aC<|aM ?_
  have aa:=C.c
  have ac:=C.n
  have ab:=C.g
  have ae:=C.tc
  have af:=C.t
  have ad:=C.r
  obtain⟨J,XT,eb9⟩:=FK hmay R8
  -- region 26 draws
  refine jo [0,1,4,5,6,2,3,7,8] [0,0,4,0,0,0,0,0,3] [(8,2,[2])] fun Pb kF zH => ?_
  have⟨sw,og,nJ,oN,oh,pV,qE⟩:=jl kF W aa ac ab ae af ad
  have b18:=dX kF X H
  refine aV ((pt p))<|aV ((pf I 10))<|aV ((pt p))<|aV ((pt p))<|aV ((pt p))<|Rs (au v.dst) (aL sw.aH 10) ?_
  refine Rp (au J) (fun _=>fO)<|Rp ((pf p J)) (fun _=>je 6 1)<|fQ<|iQ og J aG fun rJ tZ s16 z4 => ?_
  have qy:=gY s16 og.ty
  have⟨sD,xZ,uf,yc,A9⟩:=qp qy nJ oN oh pV qE
  have b19:=s16.below b18 (Nat.le_trans H b18.size) (by omega)
  refine Ln<|Rn<|bP<|sN<|ay<|av (au 0)<|aC<|Wr<|aI (au 0) ?_
  have P:bA v=a:=by unfold bA; omega
  have A:dM m.core v=0:=by unfold dM; rw[if_neg F,if_neg G,if_neg K,if_neg N,if_neg U]
  refine⟨nD A.symm,b19,fun _=>⟨{ m with s := { m.s with inn:=aJ m.s.inn J true } },by symm; unfold iw; rw[if_neg F,if_neg G,if_neg K,if_neg N,if_neg U,if_pos R8]; rw[show(v.dst-1).toNat=J by omega]; rfl,?_⟩⟩
  exact { c:=tZ.to (VB m XT),n:=sD,g:=xZ,tc:=uf,t:=yc,r:=A9,pB:=RI,tB:=Cm,bn:=bn,bg:=bg,bt:=bt,br:=S.br }
 refine Lv aF (fF R8)<|av aF<|aC<|aK<|ay<|Lv aG acB<|av aG<|aC<|aM ?_
 have aa:=C.c
 have ac:=C.n
 have ab:=C.g
 have ae:=C.tc
 have af:=C.t
 have ad:=C.r
 -- region 28 draws
 refine jo [0,1,4,5,6,2,3,7,8] [0,0,4,0,0,0,0,0,3] [(8,2,[2])] fun Zd oV Fv => ?_
 have⟨wz,sF,oO,wU,wV,sG,Ba⟩:=jl oV W aa ac ab ae af ad
 have b20:=dX oV X H
 refine aV ((pt p))<|aV ((pt I))<|aV ((pt p))<|aV ((pt p))<|aV ((pf p 6))<|Rs (au v.o) (aL wz.aH 0) ?_
 refine Rp (au a) (fun _=>fO)<|Rp ((pf p (a+6))) (fun _=>je 6 1)<|fQ<|iQ sF (a+6) aG fun DI GN Ki z5 => ?_
 have yQ:=gY Ki sF.ty
 have⟨zP,DX,EP,Bb,yY⟩:=qp yQ oO wU wV sG Ba
 have KP:=Ki.below b20 (Nat.le_trans H b20.size) (by omega)
 refine Ln<|Rn<|bP<|sN<|ay<|av (au 0)<|aC<|Wr<|aI (au 0) ?_
 have P:bA v=a:=by unfold bA; omega
 have A:dM m.core v=0:=by unfold dM; rw[if_neg F,if_neg G,if_neg K,if_neg N,if_neg U]
 refine⟨nD A.symm,KP,fun _=>⟨{ m with s := { m.s with left:=aJ m.s.left a true } },by symm; unfold iw; rw[if_neg F,if_neg G,if_neg K,if_neg N,if_neg U,if_neg R8]; rw[P]; rfl,?_⟩⟩
 exact { c:=GN.to (R7 m ha rfl),n:=zP,g:=DX,tc:=EP,t:=Bb,r:=yY,pB:=RI,tB:=Cm,bn:=bn,bg:=bg,bt:=bt,br:=S.br }
namespace Rt
structure VE(L:gV)(T:Nat):Prop where
 nn:L.nn<=33
 gn:L.gn<=T
 rn : ∀ i,i<6->L.rn i<=T
 tn : ∀ x,L.node x=bB L.t L.tn x
 dx : ∀ x,∃ D,D<=1000/\bB L.t L.tn (bf L.t L.tn D x)<0
 may : ∀ k,k<L.nn->may (L.R k)=true
 kn:EO L.known
open Classical in
noncomputable def bL(L:gV)(v:EvM):Int :=
 if dh v=false then 1 else if ng L.known v=true then 14 else if eO L.known v=false then 13 else if L.inn (bA v)=false\/L.left (bA v)=true then 10 else dM L v
def FL(L:gV)(v:EvM):gV := { L with known:=aJ L.known (bA v) (L.known (bA v)+1) }
open Classical in
noncomputable def aW(L:gV)(v:EvM):gV:=if bL L v=0 then FL (iw L v) v else L
theorem om(L:gV)(v:EvM):(iw L v).known=L.known:=by
 unfold iw
 split; · unfold oM; rfl
 split; · unfold Eh; rfl
 split; · unfold kK oP; rfl
 split; · unfold jF oP; rfl
 split; · unfold Ei; rfl
 split <;> rfl
end Rt
set_option maxRecDepth 20000 in
set_option maxHeartbeats 2000000 in
theorem G5(m:jK)(B p T:Nat)(v:EvM)(w:World)(L:su w B p m)(z:fC v)(I:VE m.core T)(hT:T<=900000) :
 Calls Tryz.prog 25 #[(pt p),.agg (aA 14 (bO v))] w fun e w' => ∃ p' m',e = .returned (.tuple #[(pt p'),au (bL m.core v)])/\m'.core=aW m.core v/\su w' B p' m'/\Below w.heap.size w w':=by
 have O:=L.c
 have ZJ:p<w.heap.size:=O.lt
 have hpB:=L.pB
 refine Kent Tryz.func25 73 ?_
 refine ay<|pK fun g1 w1 kV U s1 z1 => ?_
 have⟨F,d,Y⟩:=jk s1.old L O (Below.refl w.heap.size w)
 have tL:=gH kV
 have X5:=bY kV O.lt
 have vR:=U.lt
 refine av (.pointer none)<|av (au 0)<|aC<|Ws<|ay<|Lv (.agg (aA 14 (bO v))) (fA U.aH 0) ?_
 by_cases l:(dh v)=true
 ·refine dA (Fy v _ z) aG (by rw[l]) ?_
  intro w2 hb1
  have⟨m4,m5,m6,Z⟩:=mF hb1 F d U Y
  refine av aF<|aC<|aK<|Wk<|sN<|Ws<|Ws ?_
  -- region 3 draws
  refine kZ<|aR ((pt p))<|aR ((pt p))<|aR ((pt p))<|aR ((pf p 12))<|Qv (.agg (aA 6 (rv .u64 m.s.known))) (fun W A=>fA (m5.cb A) 12 (fun j S=>jD _ (by omega) (iY _ S (by omega))))<|Qv (.agg (aA 14 (bO v))) (fun W A=>fA (m6.cb A) 0) ?_
  by_cases u:(ng m.s.known v)=true
  ·refine xS (fun _ _=>Q9 m.s.known v _ z) aG (by rw[u])<|Qn ?_
   intro UR rH
   have⟨m7,b3⟩:=eG rH m4 Z
   refine sN<|aM<|ay<|av ((pt p))<|av ((pt p))<|av (au 14)<|aC<|Wr<|sR<|aI (.tuple #[(pt p),au 14]) ?_
   have b:bL m.core v=14:=by unfold bL; rw[if_neg (by rw[l]; decide)]; exact if_pos u
   have q:aW m.core v=m.core:=by unfold aW; rw[if_neg (by rw[b]; decide)]
   exact⟨p,m,by rw[b],q.symm,m7,b3⟩
  rw[Bool.not_eq_true]at u
  refine xS (fun _ _=>Q9 m.s.known v _ z) aF (by rw[u])<|Qn ?_
  intro XL vS
  have⟨m10,m11,m12,b4⟩:=mF vS m4 m5 m6 Z
  refine sN<|aK<|Wk<|sN<|Ws<|Ws ?_
  -- region 5 draws
  refine kZ<|aR ((pt p))<|aR ((pt p))<|aR ((pt p))<|aR ((pf p 12))<|Qv (.agg (aA 6 (rv .u64 m.s.known))) (fun W A=>fA (m11.cb A) 12 (fun j S=>jD _ (by omega) (iY _ S (by omega))))<|Qv (.agg (aA 14 (bO v))) (fun W A=>fA (m12.cb A) 0) ?_
  by_cases x:(eO m.s.known v)=true
  ·refine xS (fun _ _=>MC m.s.known v _ z I.kn) aG (by rw[x])<|aR aF<|Qn ?_
   intro N vT
   have⟨K,M,m15,G⟩:=mF vT m10 m11 m12 b4
   refine sN<|aK<|Wk<|sN<|Ws ?_
   obtain⟨a,P,ho⟩:=eY (iy l)
   refine Wl<|av ((pt g1))<|Lv (au v.o) (aL m15.aH 0)<|Lv (au a) fO<|av (au a)<|aC<|Ws<|ay<|av ((pt p))<|av (au a)<|av ((pt p))<|av ((pt p))<|av ((pt p))<|Lv ((pf p a)) (je 6 1) ?_
   by_cases C:(m.s.inn a)=true
   ·refine Lv aG (aL M.aH a ((jD _ (by omega) (yX _ (by omega))).trans (congrArg Value.bool C)))<|av aF<|av aF<|av ((pt p))<|av (au a)<|av ((pt p))<|av ((pt p))<|av ((pf p 6))<|Lv ((pf p (a+6))) (je 6 1) ?_
    by_cases D:(m.s.left a)=true
    ·refine Lv aG (aL M.aH (a+6) ((jD _ (by omega) (zL _ (by omega) (by omega))).trans (congrArg Value.bool D)))<|av aG<|aC<|aM<|ay<|av ((pt p))<|av ((pt p))<|av (au 10)<|aC<|Wr<|sR<|aI (.tuple #[(pt p),au 10]) ?_
     have y:bA v=a:=by unfold bA; omega
     have b:bL m.core v=10:=by unfold bL; rw[if_neg (by rw[l]; decide),if_neg (by rw[show ng m.core.known v=false from u]; decide),if_neg (by rw[show eO m.core.known v=true from x]; decide),y]; exact if_pos (.inr D)
     have q:aW m.core v=m.core:=by unfold aW; rw[if_neg (by rw[b]; decide)]
     exact⟨p,m,by rw[b],q.symm,K,G⟩
    rw[Bool.not_eq_true]at D
    refine Lv aF (aL M.aH (a+6) ((jD _ (by omega) (zL _ (by omega) (by omega))).trans (congrArg Value.bool D)))<|av aF<|aC<|aK<|Wk<|sN<|ay<|av ((pt p))<|jM (ZH m p _ K.ldg (by have:=I.nn; have e:m.core.nn=m.s.nn:=rfl; omega) K.bt) ?_
    rintro e w3 ⟨f,F,J,R,hL2,Q⟩
    refine⟨(pt f),J,?_⟩
    clear J
    have⟨m18,b6⟩:=eG Q m15 G
    have E:VE F.core T:=by rw[R]; exact I
    refine av ((pt f))<|aC<|Ws ?_
    have akz:=hL2
    refine Wl<|av ((pt f))<|Lv (.agg (aA 14 (bO v))) (fA m18.aH 0)<|jM (aaj F N.heap.size f a v _ akz Q.size P ho (by have h9:F.s.nn<=33:=E.nn; omega) (Nat.le_trans E.gn hT) (fun i hi=>Nat.le_trans (E.rn i hi) hT) E.tn E.dx z l E.may) ?_
    rintro e X ⟨J,hbd,hL3⟩
    refine⟨au (dM m.core v),by rw[<- R]; exact J,?_⟩
    clear J
    rw[R]at hL3
    have b8:Below N.heap.size N X:=Q.trans hbd
    have b7:Below w.heap.size w X:=b6.trans (hbd.mono (Nat.le_trans (Nat.le_refl _) G.size))
    have m19:su X B p m:=K.up b8
    refine av (au (dM m.core v))<|aC<|Ws<|ay<|av (au (dM m.core v)) ?_
    by_cases H:(dM m.core v)=0
    ·refine Lv aF (jJ H)<|aC<|aK<|Wk<|sN<|Ws ?_
     obtain⟨d,hc3,k⟩:=hL3 H
     have hMc:=k.c
     have hMn:=k.n
     have hMg:=k.g
     have hMt:=k.tc
     have akA:=k.t
     have hMr:=k.r
     have ek3:d.s.known=m.s.known:=by show d.core.known=_; rw[hc3,om]; rfl
     have hk3:=I.kn a P
     have hk3:0<=d.s.known a/\d.s.known a<1099511627776:=by rw[ek3]; exact hk3
     have lp2:=k.pB
     have sw1:=G.size
     -- region 14 draws
     refine jo [0,1,2,3,4,5,8,9,10,6,7,11,12] [0,0,0,0,0,0,4,0,0,0,0,0,3] [(12,6,[6])] fun oU dL gU => ?_
     have⟨V,m21,m22,m23,m24,lW,b9⟩:=jl dL hMc hMn hMg hMt akA hMr b7
     refine aV ((pt f))<|aV (au a)<|aV ((pt f))<|aV ((pt f))<|aV ((pf f 12))<|Rp ((pf f (a+12))) (fun _=>je 6 1)<|aV ((pt f))<|aV ((pt f))<|aV ((pf f 12))<|Rs (aD (d.s.known a)) (aL V.aH (a+12) (jD _ (by omega) (iY _ (by omega) (by omega)))) ?_
     refine Rp (aD (d.s.known a+1)) (fun _=>eZ)<|Rp ((pf f (a+12))) (fun _=>je 6 1)<|fQ<|iQ V (a+12) (aD (d.s.known a+1)) fun w5 mR s8 z2 => ?_
     have gI:=gY s8 V.ty
     have⟨nY,nT,oF,nE,lH⟩:=qp gI m21 m22 m23 m24 lW
     have b10:=s8.below b9 b9.size (by omega)
     refine Ln<|bM<|ay<|av ((pt f))<|av ((pt f))<|av (au 0)<|aC<|Wr<|aI (.tuple #[(pt f),au 0]) ?_
     have y:bA v=a:=by unfold bA; omega
     have b:bL m.core v=0:=by unfold bL; rw[if_neg (by rw[l]; decide),if_neg (by rw[show ng m.core.known v=false from u]; decide),if_neg (by rw[show eO m.core.known v=true from x]; decide),y]; rw[if_neg (show ¬ (m.core.inn a=false\/m.core.left a=true)from fun h=>h.elim (fun h=>by rw[show m.core.inn a=true from C]at h; cases h) (fun h=>by rw[show m.core.left a=false from D]at h; cases h))]; exact H
     have hfin:su w5 N.heap.size f { d with s := { d.s with known:=aJ d.s.known a (d.s.known a+1) } } := { c:=mR.to (OG d P rfl _),n:=nY,g:=nT,tc:=oF,t:=nE,r:=lH,pB:=k.pB,tB:=k.tB,bn:=k.bn,bg:=k.bg,bt:=k.bt,br:=k.br }
     refine⟨f,{ d with s := { d.s with known:=aJ d.s.known a (d.s.known a+1) } },by rw[b],?_,hfin.mono (by have:=L.pB; have:=ZJ; omega),b10⟩
     unfold aW; rw[if_pos b]; unfold FL; rw[y,om,<- hc3,show m.core.known=d.s.known from ek3.symm]; rfl
    refine Lv aG (mE H)<|aC<|aM<|ay<|av ((pt p))<|av (au (dM m.core v))<|av ((pt p))<|av (au (dM m.core v))<|aC<|Wr<|sR<|aI (.tuple #[(pt p),au (dM m.core v)]) ?_
    have y:bA v=a:=by unfold bA; omega
    have b:bL m.core v=dM m.core v:=by unfold bL; rw[if_neg (by rw[l]; decide),if_neg (by rw[show ng m.core.known v=false from u]; decide),if_neg (by rw[show eO m.core.known v=true from x]; decide),y]; rw[if_neg (show ¬ (m.core.inn a=false\/m.core.left a=true)from fun h=>h.elim (fun h=>by rw[show m.core.inn a=true from C]at h; cases h) (fun h=>by rw[show m.core.left a=false from D]at h; cases h))]
    have q:aW m.core v=m.core:=by unfold aW; rw[if_neg (by rw[b]; exact H)]
    exact⟨p,m,by rw[b],q.symm,m19,b7⟩
   rw[Bool.not_eq_true]at C
   refine Lv aF (aL M.aH a ((jD _ (by omega) (yX _ (by omega))).trans (congrArg Value.bool C)))<|av aG<|av aG<|cB<|cB<|cB<|cB<|cB<|cB<|cB<|av aG<|aC<|aM<|ay<|av ((pt p))<|av ((pt p))<|av (au 10)<|aC<|Wr<|sR<|aI (.tuple #[(pt p),au 10]) ?_
   have y:bA v=a:=by unfold bA; omega
   have b:bL m.core v=10:=by unfold bL; rw[if_neg (by rw[l]; decide),if_neg (by rw[show ng m.core.known v=false from u]; decide),if_neg (by rw[show eO m.core.known v=true from x]; decide),y]; exact if_pos (.inl C)
   have q:aW m.core v=m.core:=by unfold aW; rw[if_neg (by rw[b]; decide)]
   exact⟨p,m,by rw[b],q.symm,K,G⟩
  rw[Bool.not_eq_true]at x
  refine xS (fun _ _=>MC m.s.known v _ z I.kn) aF (by rw[x])<|aR aG<|Qn ?_
  intro wb4 zI
  have⟨m32,b11⟩:=eG zI m10 b4
  refine sN<|aM<|ay<|av ((pt p))<|av ((pt p))<|av (au 13)<|aC<|Wr<|sR<|aI (.tuple #[(pt p),au 13]) ?_
  have b:bL m.core v=13:=by unfold bL; rw[if_neg (by rw[l]; decide),if_neg (by rw[show ng m.core.known v=false from u]; decide)]; exact if_pos x
  have q:aW m.core v=m.core:=by unfold aW; rw[if_neg (by rw[b]; decide)]
  exact⟨p,m,by rw[b],q.symm,m32,b11⟩
 rw[Bool.not_eq_true]at l
 refine dA (Fy v _ z) aF (by rw[l]) ?_
 intro w6 hb2
 have⟨oJ,b12⟩:=eG hb2 F Y
 refine av aG<|aC<|aM<|ay<|av ((pt p))<|av ((pt p))<|av (au 1)<|aC<|Wr<|sR<|aI (.tuple #[(pt p),au 1]) ?_
 have b:bL m.core v=1:=by unfold bL; exact if_pos l
 have q:aW m.core v=m.core:=by unfold aW; rw[if_neg (by rw[b]; decide)]
 exact⟨p,m,by rw[b],q.symm,oJ,b12⟩
end Go.Proofs.YtahbiajdgealnaaGreatDoor
