/-
  What the proof of the law rests on, part 5: walks of functions, and plain laws; each says its conditions itself.
-/
import Derived.Test.YtcbedgfikejkoaaGreatDoorRows
import Derived.OrdersIn
import Derived.Test.YtcbedgfikejkoaaGreatDoorZD4
set_option maxRecDepth 20000
set_option linter.unusedVariables false
set_option maxHeartbeats 1600000
set_option linter.unusedSimpArgs false
namespace Go.Proofs.YtcbedgfikejkoaaGreatDoor
open Go.RowKit Rt
open Fx (Lv sN Ln Ws Qv Wl Wr Sb Wk sR Wb Wx Wo Qn gH rv aA aP ev cO Stp aQ flat down mP bL bP bX bY gP gW pV)
section
namespace Rt
def J4(t:Nat->Nat->Int)(tn:Nat)(x y:Int):Nat->Int
 | 0=>0
 | k+1=>J4 t tn x y k+if bF t tn k x=y then 1 else 0
def Dc(t:Nat->Nat->Int)(tn:Nat)(x y:Int):Int:=J4 t tn x y (fB t tn x)
def qI(t:Nat->Nat->Int)(tn:Nat)(g:Nat->Int)(y:Int):Int:=if g 4=0 then g 3*Dc t tn (g 2) y else 0
def pR(t:Nat->Nat->Int)(tn:Nat)(g:Nat->Nat->Int)(y:Int):Nat->Int
 | 0=>0
 | q+1=>pR t tn g y q+qI t tn (g q) y
structure Bf(L:dP):Prop where
 us : ∀ k,k<L.nn->mV (L.R k)=pR L.t L.tn L.g (L.id k) L.gn
 gb : ∀ q,q<L.gn->0<=bC L.t L.tn (L.g q 2)/\1<=L.g q 0/\L.g q 0<=6/\0<=L.g q 3/\L.g q 3<=1125899906842624
structure sM(v:EvM):Prop where
 aT:v.aT<=65536
 req:v.req<=256
structure R4(L:dP)(T:Nat):Prop where
 kt : ∀ i,i<6->L.known i<=T
 rb : ∀ k,k<L.nn -> ∀ a,a<54->L.R k a<=2097152*T
 rq : ∀ i,i<6 -> ∀ j,j<L.rn i->L.rq i j<=256
structure Inv(L:dP)(T:Nat):Prop extends Inv0 L T where
 s:Bf L
 b:R4 L T
section
variable {L:dP} {T:Nat} {v:EvM}
theorem J5{P:Nat->Bool} : ∀ {n i:Nat},i<lead P n->P i=true
 | 0,i,h=>M_ h (z_ _)
 | n+1,i,h=>by
   unfold lead at h;by_cases e:lead P n=n/\P n=true
   ·rw[d_ e]at h;by_cases a:i=n
    ·rw[a]; exact e.2
    ·exact J5 (n:=n) (by omega)
   ·rw[b_ e]at h; exact J5 h
theorem BZ{t:Nat->Nat->Int}{tn i:Nat}{x:Int}(h:i<fB t tn x):0<=bC t tn (bF t tn i x):=h_ (J5 (P:=fun i=>decide (0<=bC t tn (bF t tn i x))) h)
theorem zO{t b:Nat->Nat->Int}{tn c:Nat}{g a:Nat->Nat->Int}{y d:Int} : ∀ n,(∀ q,q<n->qI b c (a q) d=qI t tn (g q) y)->pR b c a d n=pR t tn g y n
 | 0,_=>rfl
 | n+1,h=>by unfold pR; rw[zO n fun q e=>h q (by omega),h n (by omega)]
theorem IX{t:Nat->Nat->Int}{tn:Nat}{g:Nat->Nat->Int}{y:Int} : ∀ n,(∀ q,q<n->qI t tn (g q) y=0)->pR t tn g y n=0
 | 0,_=>rfl
 | n+1,h=>by unfold pR; rw[IX n fun q a=>h q (by omega),h n (by omega)]; rfl
theorem Mc{t:Nat->Nat->Int}{tn k:Nat}{g:Nat->Nat->Int}{x:Nat->Int}{y:Int} : ∀ n,k<n->pR t tn (aI g k x) y n=pR t tn g y n-qI t tn (g k) y+qI t tn x y
 | 0,h=>M_ h (z_ _)
 | n+1,h=>by
   unfold pR;by_cases e:k=n
   ·subst e;rw[zO (t:=t) (tn:=tn) (g:=g) (y:=y) k fun q a=>by unfold aI; rw[b_ (by omega)]];unfold aI; rw[d_ rfl]; omega
   ·rw[Mc n (by omega)];have:aI g k x n=g n:=b_ (fun h=>e h.symm);rw[this]; omega
theorem Md{t:Nat->Nat->Int}{tn k:Nat}{g:Nat->Nat->Int}{x:Nat->Int}{y:Int} : ∀ n,k<=n->pR t tn (cO g k x) y (n+1)=pR t tn g y n+qI t tn x y
 | 0,h=>by
   obtain rfl:k=0:=(by omega);show(0:Int)+qI t tn (cO g 0 x 0) y=0+_;rw[dI]
 | n+1,h=>by
   by_cases e:k=n+1
   ·subst e;show pR t tn (cO g (n+1) x) y (n+1)+qI t tn (cO g (n+1) x (n+1)) y=_;rw[dI,zO (t:=t) (tn:=tn) (g:=g) (y:=y) (n+1) fun q a=>by rw[EU a]]
   ·show pR t tn (cO g k x) y (n+1)+qI t tn (cO g k x (n+1)) y=pR t tn g y n+qI t tn (g n) y+_;rw[Md n (by omega),EW (by omega),Nat.add_sub_cancel]; omega
def VL(idx:Nat->Nat)(k:Nat):Nat->Int
 | 0=>0
 | j+1=>VL idx k j+if idx j=k then 1 else 0
theorem Df{f:(Nat->Int)->(Nat->Int) × Int}{idx:Nat->Nat}{R:Nat->Nat->Int}{d:Int}(e : ∀ x,(f x).2=0->mV (f x).1=mV x+d) : ∀ K,(dz f idx R K).2=0 -> ∀ k,mV ((dz f idx R K).1 k)=mV (R k)+d*VL idx k K
 | 0,_,k=>by show mV (R k)=mV (R k)+d*0; omega
 | K+1,h,k=>by
   unfold dz at h ⊢;by_cases a:(dz f idx R K).2=0
   ·have g:=Df e K a k;rw[d_ a]at h ⊢;by_cases b:(f ((dz f idx R K).1 (idx K))).2=0
    ·rw[d_ b];show mV (aI _ (idx K) _ k)=_;unfold aI VL;rw[Int.mul_add];by_cases c:k=idx K
     ·subst c;rw[d_ rfl,d_ rfl,e _ b,g]; omega
     ·rw[b_ c,b_ (fun h=>c h.symm),g]; omega
    ·rw[b_ b]at h; exact M_ h b
   ·rw[b_ a]at h; exact M_ h a
theorem Om{t:Nat->Nat->Int}{tn k:Nat}{x y:Int}{idx:Nat->Nat} : ∀ K,(∀ i,i<K->(idx i=k<->bF t tn i x=y))->VL idx k K=J4 t tn x y K
 | 0,_=>rfl
 | K+1,h=>by
   unfold VL J4;rw[Om K fun i b=>h i (by omega)];by_cases e:idx K=k
   ·rw[d_ e,d_ ((h K (by omega)).1 e)]
   ·rw[b_ e,b_ (fun a=>e ((h K (by omega)).2 a))]
theorem EX(h:Inv0 L T){x:Int}{i k:Nat}(g:k<L.nn)(hi:i<fB L.t L.tn x):pG L x i=k<->bF L.t L.tn i x=L.id k:=by
 obtain⟨j,f,e,c⟩:=wz (BZ hi);have b:j<L.nn:=by rw[<- h.Db]; exact f
 have l:pG L x i=j:=by unfold pG; rw[h.node,e]; rfl
 rw[l];have a:L.id j=bF L.t L.tn i x:=by rw[<- (h.tid j b).1]; exact c
 constructor
 ·rintro rfl; exact a.symm
 intro d; exact h.inj j k b g (a.trans d)
theorem Me{x:Nat->Int}{a:Nat}{n:Int}(ha:a<6):mV (upd x a n)=mV x:=by
 have b : ∀ k,C (upd x a n) k=C x k:=fun k=>gY _ _ _ _ (by omega);have c : ∀ k,F (upd x a n) k=F x k:=fun k=>gY _ _ _ _ (by omega);unfold mV; simp only[b,c]
theorem VN(h:bR v=true)(b:v.kind=4):1<=v.req:=by
 unfold bR at h;simp only[T_]at h;have a:=h.2;unfold dG at a;rw[b_ (by omega),b_ (by omega),b_ (by omega),d_ b]at a;simp only[T_,decide_eq_true_eq]at a;exact a.1.1
theorem aey{n k:Nat}{g:Nat->Nat->Int}{x:Nat->Int}(a:k<=n)(P:(Nat->Int)->Prop)(h : ∀ q,q<n->P (g q))(hx:P x) : ∀ q,q<n+1->P (cO g k x q):=fun q b=>by
 rcases dY a b with rfl|⟨j,hj,e,_,_⟩
 ·rw[dI]; exact hx
 ·rw[e]; exact h j hj
attribute [local irreducible] fB in
theorem Oo(j:Inv0 L T)(h:Bf L)(e:bR v=true)(b:v.kind=3)(a:jv L v=0):Bf (mW L v):=by
 unfold jv at a;split at a; · cases a
 split at a; · cases a
 rename_i hp;have c:=oP e;have l:=lV e (.inr (.inl b));unfold mW rO;have p:=Df (f:=fun x=>bG x v.o v.aT) (idx:=pG L v.node) (R:=L.R) (d:=v.aT) (fun x s=>by obtain⟨_,_,_,_,_,_,_,_,_,_,r,_⟩:=JW s; exact r) _ a;refine⟨fun k b => ?_,fun q n => ?_⟩
 ·show mV ((nW L v).1 k)=pR L.t L.tn (cO L.g (down (fun i=>DY v (L.g i)) L.gn) (qx v)) (L.id k) (L.gn+1);rw[Md _ (Fx.wY _ _)];have:=p k;rw[show qI L.t L.tn (qx v) (L.id k)=v.aT*Dc L.t L.tn v.node (L.id k)from rfl,<- h.us k b];unfold Dc;rw[<- Om (idx:=pG L v.node) (k:=k) _ fun i m=>EX j b m];exact this
 exact aey (Fx.wY _ _) (fun y=>0<=bC L.t L.tn (y 2)/\1<=y 0/\y 0<=6/\0<=y 3/\y 3<=1125899906842624) h.gb
  ⟨BZ (i:=0) (x:=v.node) (by omega),c.1,c.2.1,by show 0<=v.aT; omega,l.2⟩ q n
attribute [local irreducible] fB in
theorem Oq(s:Inv0 L T)(h:Bf L)(z:bR v=true)(c:v.kind=4)(b:jd L v=0):Bf (kX L v):=by
 unfold jd at b;split at b; · cases b
 split at b; · cases b
 rename_i l;have F:=VN z c
 have E:0<=L.grant v.o v.of:=by rcases ilt (L.grant v.o v.of)with h|h; · exact M_ (.inl h) l
                                ·exact h
 have D:L.g (yZ L v) 4=0:=by
  by_cases e:L.g (yZ L v) 4=0
  ·exact e
  ·exact M_ (.inr e) l
 have n:yZ L v<L.gn:=by
  rcases iR (fun i=>decide (L.g i 0=v.o)&&decide (L.g i 1=v.of)) L.gn with ⟨k,c,e,_⟩|⟨e,_⟩
  ·have m:L.grant v.o v.of=(k:Int):=e;unfold yZ; rw[m]; exact c
  ·have m:L.grant v.o v.of = -1:=e;omega
 unfold kX rO mX;unfold mX at b;generalize yZ L v=q at *;have A:=Df (f:=fun x=>bH x v.o (L.g q 3)) (idx:=pG L (L.g q 2)) (R:=L.R) (d := -(L.g q 3)) (fun x C=>by obtain⟨_,_,_,_,_,_,_,_,_,B,_⟩:=JX C; rw[B]; omega) _ b;have u:=h.gb q n;refine⟨fun k c => ?_,fun p l => ?_⟩
 ·show mV ((dz _ _ _ _).1 k)=pR L.t L.tn (aI L.g q (aI (L.g q) 4 v.req)) (L.id k) L.gn;rw[Mc _ n,<- h.us k c,A k];have a:qI L.t L.tn (aI (L.g q) 4 v.req) (L.id k)=0:=by
   unfold qI; rw[b_]; show ¬ v.req=0; omega
  have r:qI L.t L.tn (L.g q) (L.id k)=L.g q 3*Dc L.t L.tn (L.g q 2) (L.id k):=d_ D;rw[a,r];unfold Dc;rw[<- Om (idx:=pG L (L.g q 2)) (k:=k) _ fun i w=>EX s c w,Int.neg_mul];omega
 show 0<=bC L.t L.tn (aI L.g q (aI (L.g q) 4 v.req) p 2)/\1<=aI L.g q (aI (L.g q) 4 v.req) p 0/\aI L.g q (aI (L.g q) 4 v.req) p 0<=6/\0<=aI L.g q (aI (L.g q) 4 v.req) p 3/\aI L.g q (aI (L.g q) 4 v.req) p 3<=1125899906842624;by_cases e:p=q
 ·subst e;have a : ∀ j,j≠4->aI L.g p (aI (L.g p) 4 v.req) p j=L.g p j:=fun j y=>by
   show(if p=p then aI (L.g p) 4 v.req else L.g p) j=_;rw[d_ rfl]; exact b_ y
  rw[a 2 (by omega),a 0 (by omega),a 3 (by omega)]; exact u
 have a:aI L.g q (aI (L.g q) 4 v.req) p=L.g p:=b_ e;rw[a]; exact h.gb p l
theorem J6{a:dP}(h:Bf L)(j:a.nn=L.nn)(l:a.id=L.id)(c:a.tn=L.tn)(d:a.t=L.t)(e:a.gn=L.gn)(f:a.g=L.g)(m : ∀ k,k<L.nn->mV (a.R k)=mV (L.R k)):Bf a:=by
 refine⟨fun k b => ?_,fun q i => ?_⟩
 ·rw[j]at b; rw[l,c,d,e,f,m k b]; exact h.us k b
 rw[e]at i; rw[c,d,f]; exact h.gb q i
theorem VO{q:Nat}{r:Nat->Int}{R:Nat->Nat->Int}(hr:mV r=mV (R q))(k:Nat):mV (aI R q r k)=mV (R k):=by
 unfold aI; split
 ·rename_i e; rw[e]; exact hr
 rfl
theorem qm.path{t a:Nat->Nat->Int}{tn:Nat}{id par z y:Int}(h:qm t a tn id par)(B:1<=id)(s : ∀ i,i<tn->t i 1=0\/0<=bC t tn (t i 1))(q : ∃ D,D<=4/\bC t tn (bF t tn D z)<0)(E:0<=bC t tn z) :
 Dc a (tn+1) z y=Dc t tn z y/\(y=id->Dc t tn z y=0):=by
 obtain⟨D,x,k⟩:=q;obtain⟨K,A,d,b⟩:=wI D k;have g:K=fB t tn z:=wD b d k (by omega);have f : ∀ i,i<=K->bF a (tn+1) i z=bF t tn i z:=fun i c=>h.iter i fun j C=>b j (by omega);have l:bC a (tn+1) (bF a (tn+1) K z)<0:=by
  rw[f K (A_ _)]
  rcases ilt (bC a (tn+1) (bF t tn K z))with h1|h1
  ·exact h1
  ·exfalso
   rcases h.find.1 h1 with h2|h2
   ·omega
   ·cases K with
    | zero=>have:bC t tn z<0:=d; omega
    | succ K =>
      obtain⟨i,c,e⟩:=iV.1 (b K (by omega));have m:bF t tn (K+1) z=t i 1:=by
       show t (bC t tn (bF t tn K z)).toNat 1=t i 1;rw[<- e,wH h.u c]; rfl
      rw[m]at h2 d
      rcases s i c with h4|h4
      ·omega
      ·omega
 have o:K=fB a (tn+1) z:=wD (fun i c=>by rw[f i (by omega)]; exact h.find.2 (.inl (b i c))) l l (by omega);have p : ∀ n,n<=K->J4 a (tn+1) z y n=J4 t tn z y n:=by
  intro n
  induction n with
  | zero=>intro _; rfl
  | succ n ih=>intro r; unfold J4; rw[ih (by omega),f n (by omega)]
 refine⟨?_,fun v => ?_⟩
 ·unfold Dc; rw[<- g,<- o]; exact p K (A_ _)
 subst v;have : ∀ n,n<=K->J4 t tn z y n=0:=by
  intro n
  induction n with
  | zero=>intro _; rfl
  | succ n ih =>
    intro r; unfold J4;rw[ih (by omega),b_]
    ·rfl
    ·intro e;have:=b n (by omega);rw[e]at this;have w:=wG.2 h.no;omega
 unfold Dc; rw[<- g]; exact this K (A_ _)
attribute [local irreducible] fB in
theorem Ot(a:Inv0 L T)(h:Bf L)(l:bR v=true)(s:v.kind=1)(r:kW L v=0):Bf (rH L v):=by
 obtain⟨k,u,A,E,D,B,C,p,F,G,n⟩:=xQ a l s r;have z:=ku l;rw[p];generalize jE v.o v.seq=x at *;have w : ∀ i,i<L.tn->L.t i 1=0\/0<=bC L.t L.tn (L.t i 1):=fun i c=>by
  have d:=c;rw[a.Db]at d;rw[(a.tid i d).2]
  rcases a.up i d with e|⟨j,hj,e⟩
  ·exact .inl e
  ·exact .inr (iV.2 ⟨j,by rw[a.Db]; exact hj,by rw[(a.tid j hj).1]; exact e⟩)
 have m : ∀ q,q<L.gn -> ∀ y,Dc (qj L.t k x v.node) (L.tn+1) (L.g q 2) y=Dc L.t L.tn (L.g q 2) y/\(y=x->Dc L.t L.tn (L.g q 2) y=0):=fun q b y=>n.path A w (a.dep _) (h.gb q b).1;refine⟨fun i c => ?_,fun q b => ?_⟩
 ·show mV (cO L.R k (upd (fun _=>0) (aN v) v.aT) i)=pR (qj L.t k x v.node) (L.tn+1) L.g (cO L.id k x i) L.gn;rw[zO (t:=L.t) (tn:=L.tn) (g:=L.g) (y:=cO L.id k x i) L.gn fun q b=>by unfold qI; rw[(m q b _).1]]
  rcases dY u c with rfl|⟨j,hj,e,_,_⟩
  ·rw[dI,dI,Me z,IX L.gn fun q b=>by unfold qI; rw[(m q b _).2 rfl,Int.mul_zero]; exact ite_self _];rfl
  rw[e,e]; exact h.us j hj
 have f:=h.gb q b;exact⟨n.find.2 (.inl f.1),f.2⟩
theorem IY(g:Inv0 L T)(h:Bf L)(c:bR v=true)(a:dX L v=0):Bf (iE L v):=by
 have m:=jC c;have l:=ku c;unfold dX at a;unfold iE;by_cases b:v.kind=1
 ·rw[d_ b]at a ⊢; exact Ot g h c b a
 by_cases d:v.kind=2
 ·rw[b_ b,d_ d]at a ⊢;exact J6 h rfl rfl rfl rfl rfl rfl fun k _=>VO (Me l) k
 by_cases e:v.kind=3
 ·rw[b_ b,b_ d,d_ e]at a ⊢; exact Oo g h c e a
 by_cases f:v.kind=4
 ·rw[b_ b,b_ d,b_ e,d_ f]at a ⊢; exact Oq g h c f a
 by_cases i:v.kind=5
 ·rw[b_ b,b_ d,b_ e,b_ f,d_ i]at a ⊢;unfold oO at a;split at a; · cases a
  split at a; · cases a
  obtain⟨_,_,_,_,_,_,_,_,_,_,j,_⟩:=zM a;exact J6 h rfl rfl rfl rfl rfl rfl fun k _=>VO j.u k
 rw[b_ b,b_ d,b_ e,b_ f,b_ i];split
 ·exact J6 h rfl rfl rfl rfl rfl rfl fun _ _=>rfl
 exact J6 h rfl rfl rfl rfl rfl rfl fun _ _=>rfl
theorem VP{t:Nat->Nat->Int}{tn D:Nat}{x:Int}(h:bC t tn (bF t tn D x)<0):fB t tn x<=D:=by
 rcases Nat.lt_or_ge D (fB t tn x)with h1|h1
 ·have:=BZ h1; omega
 exact h1
theorem Inv0.aiN(h:Inv0 L T)(x:Int):fB L.t L.tn x<=4:=by
 obtain⟨D,b,a⟩:=h.dep x;have:=VP a; omega
theorem Ca{x:Nat->Int}{p:Nat}{n c:Int}(h : ∀ a,a<54->x a<=c)(d:n<=c) : ∀ a,a<54->upd x p n a<=c:=fun a b=>by
 show(if a=p then n else x a)<=c;split
 ·exact d
 ·exact h a b
theorem Gi{f:(Nat->Int)->(Nat->Int) × Int}{idx:Nat->Nat}{R:Nat->Nat->Int}{n:Nat}{B d:Int}(o:0<=d)(m : ∀ x c,(f x).2=0->(∀ a,a<54->x a<=c) -> ∀ a,a<54->(f x).1 a<=c+d)(j : ∀ k,k<n -> ∀ a,a<54->R k a<=B) : ∀(K:Nat) k,k<n -> ∀ a,a<54->(dz f idx R K).1 k a<=B+d*(K:Int)
 | 0,k,hk,a,ha=>by have h:=j k hk a ha; show R k a<=B+d*0; omega
 | K+1,k,hk,a,ha=>by
   have b:=Gi o m j (idx:=idx) K;have e:d*((K+1:Nat):Int)=d*(K:Int)+d:=(by rw[Int.natCast_succ,Int.mul_add,Int.mul_one]);rw[e];unfold dz;by_cases l:(dz f idx R K).2=0
   ·rw[d_ l];by_cases g:(f ((dz f idx R K).1 (idx K))).2=0
    ·rw[d_ g];show(if k=idx K then _ else _:Nat->Int) a<=_;by_cases i:k=idx K
     ·rw[d_ i];have:=m _ (B+d*(K:Int)) g (by rw[<- i]; exact b k hk) a ha; omega
     ·rw[b_ i]; have:=b k hk a ha; omega
    ·rw[b_ g]; have:=b k hk a ha; show(dz f idx R K).1 k a<=_; omega
   ·rw[b_ l]; have:=b k hk a ha; omega
theorem VQ{i n c:Int}{x:Nat->Int}(g:n<=65536)(h:(bG x i n).2=0)(hx : ∀ a,a<54->x a<=c) : ∀ a,a<54->(bG x i n).1 a<=c+65536:=by
 obtain⟨a,f,_,_,_,_,_,_,_,_,_,e⟩:=JW h;rw[e];have:=hx (6+a) (by omega);exact Ca (fun b d=>by have:=hx b d; omega) (by omega)
theorem VR{i n c:Int}{x:Nat->Int}(h:(bH x i n).2=0)(hx : ∀ a,a<54->x a<=c) : ∀ a,a<54->(bH x i n).1 a<=c+0:=by
 obtain⟨a,g,_,_,_,b,_,_,_,_,e⟩:=JX h;rw[e,D_];have d:=hx (6+a) (by omega);have f:n<=x (6+a)-x (12+a):=b;exact Ca hx (by omega)
theorem Qk(h:R4 L T){a:Nat}{r:Int}(hr:r<=256) : ∀ i,i<6 -> ∀ j,j<aI L.rn a (L.rn a+1) i->aI L.rq a (aI (L.rq a) (L.rn a) r) i j<=256:=fun i d j b=>by
 unfold aI at b ⊢;by_cases e:i=a
 ·subst e;rw[d_ rfl]at b ⊢;by_cases c:j=L.rn i
  ·rw[d_ c]; exact hr
  ·rw[b_ c]; exact h.rq i d j (by omega)
 ·rw[b_ e]at b ⊢; exact h.rq i d j b
attribute [local irreducible] fB in
theorem R5(A:Inv0 L T)(h:R4 L T)(E:sM v)(D:bR v=true)(d:dX L v=0) :
 (∀ k,k<(iE L v).nn -> ∀ a,a<54->(iE L v).R k a<=2097152*((T+1:Nat):Int))/\(∀ i,i<6 -> ∀ j,j<(iE L v).rn i->(iE L v).rq i j<=256):=by
 have m:=jC D;have ab:=ku D;have V:(0:Int)<=(T:Int):=Int.natCast_nonneg _;have X:((T+1:Nat):Int)=(T:Int)+1:=Int.natCast_succ _;have u : ∀ k,k<L.nn -> ∀ a,a<54->L.R k a<=2097152*((T+1:Nat):Int):=fun k m a l=>by have:=h.rb k m a l; omega
 have G : ∀ q r,(∀ a,a<54->r a<=2097152*((T+1:Nat):Int)) -> ∀ k,k<L.nn -> ∀ a,a<54->aI L.R q r k a<=2097152*((T+1:Nat):Int):=fun q r O k m a l=>by
  unfold aI; split
  ·exact O a l
  ·exact u k m a l
 have P:=E.aT;unfold dX at d;unfold iE;by_cases s:v.kind=1
 ·rw[d_ s]at d ⊢;obtain⟨k,N,ae,Z,Y,Q,S,I,aa,ac,ad⟩:=xQ A D s d;rw[I];refine⟨fun i M a l => ?_,h.rq⟩;show cO L.R k (upd (fun _=>0) (aN v) v.aT) i a<=_
  rcases dY N M with rfl|⟨j,hj,e,_,_⟩
  ·rw[dI];exact Ca (c:=2097152*((T+1:Nat):Int)) (fun b _=>by omega) (by omega) a l
  rw[e]; exact u j hj a l
 by_cases z:v.kind=2
 ·rw[b_ s,d_ z]at d ⊢;unfold xP at d;split at d; · cases d
  rename_i n1;split at d; · cases d
  have w:=A.Qj n1;have J:=h.rb _ w (aN v) (by omega);exact⟨G _ _ (Ca (fun b B=>u _ w b B) (by omega)),h.rq⟩
 by_cases C:v.kind=3
 ·rw[b_ s,b_ z,d_ C]at d ⊢;have y : ∀ k,k<L.nn -> ∀ a,a<54->(nW L v).1 k a<=2097152*((T+1:Nat):Int):=fun k m a l=>by
   have U:=A.aiN v.node;have:=Gi (f:=fun x=>bG x v.o v.aT) (idx:=pG L v.node) (by decide) (fun x c=>VQ P) h.rb (fB L.t L.tn v.node) k m a l;unfold nW; omega
  unfold mW rO;generalize nW L v=W at y;exact⟨y,Qk h E.req⟩
 by_cases F:v.kind=4
 ·rw[b_ s,b_ z,b_ C,d_ F]at d ⊢;have y : ∀ k,k<L.nn -> ∀ a,a<54->(mX L v).1 k a<=2097152*((T+1:Nat):Int):=fun k m a l=>by
   have:=Gi (f:=fun x=>bH x v.o (L.g (yZ L v) 3)) (idx:=pG L (L.g (yZ L v) 2)) (N_ 0) (fun x c=>VR) h.rb (fB L.t L.tn (L.g (yZ L v) 2)) k m a l;unfold mX; omega
  unfold kX rO;generalize mX L v=W at y;exact⟨y,Qk h E.req⟩
 by_cases H:v.kind=5
 ·rw[b_ s,b_ z,b_ C,b_ F,d_ H]at d ⊢;unfold oO at d;split at d; · cases d
  rename_i n1;split at d; · cases d
  have w:=A.Qj n1;obtain⟨a,b,l,B,_,_,_,_,_,_,_,e⟩:=zM d;have J:=h.rb _ w (18+a*6+b) (by omega);have K:=G (L.node v.node).toNat _ (Ca (x:=L.R (L.node v.node).toNat) (p:=18+a*6+b) (n:=L.R (L.node v.node).toNat (18+a*6+b)+v.aT) (fun b B=>u _ w b B) (by omega));refine⟨?_,h.rq⟩;show ∀ k,k<L.nn -> ∀ c,c<54->aI L.R (L.node v.node).toNat (wF L v).1 k c<=_;unfold wF;rw[e]; exact K
 rw[b_ s,b_ z,b_ C,b_ F,b_ H];split
 ·exact⟨u,h.rq⟩
 exact⟨u,h.rq⟩
theorem R4.mono{T':Nat}(h:R4 L T)(e:T<=T'):R4 L T' where
 kt:=fun i c=>by have:=h.kt i c; omega
 rb:=fun k d a b=>by have:=h.rb k d a b; omega
 rq:=h.rq
theorem IZ(j:sM v)(h:Inv L T):Inv (bV L v) (T+1):=by
 refine⟨Bd h.toInv0,?_,?_⟩ <;> unfold bV <;> by_cases a:bD L v=0
 ·rw[d_ a];unfold bD at a;split at a; · cases a
  rename_i d;split at a; · cases a
  split at a; · cases a
  split at a; · cases a
  have e:bR v=true:=by simpa using d
  have c:=IY h.toInv0 h.s e a;exact⟨c.us,c.gb⟩
 ·rw[b_ a]; exact h.s
 ·rw[d_ a];unfold bD at a;split at a; · cases a
  rename_i d;split at a; · cases a
  split at a; · cases a
  split at a; · cases a
  have e:bR v=true:=by simpa using d
  have c:=R5 h.toInv0 h.b j e a;refine⟨fun i g => ?_,c.1,c.2⟩;have f:(D5 (iE L v) v).known=aI L.known (aN v) (L.known (aN v)+1):=by unfold D5; simp only[qH]
  rw[f];have d:=h.b.kt i g;have k:=h.b.kt (aN v) (ku e);unfold aI;split <;> omega
 rw[b_ a]; exact h.b.mono (Nat.le_succ T)
theorem Inv.mono{T':Nat}(h:Inv L T)(a:T<=T'):Inv L T':=⟨h.toInv0.mono a,h.s,h.b.mono a⟩
end
end Rt
end
section
namespace Rt
def evX(e:Nat->EvM):Nat->Value:=flat 14 fun k=>bM (e k)
noncomputable def ou(e:Nat->EvM)(K:Nat->Int)(L:dP):Nat->dP
 | 0=>L
 | j+1=>if(e j).seq<=K (aN (e j))then bV (ou e K L j) (e j)else ou e K L j
def Mf(L M:dP):Prop := ∀ i,i<6->L.known i=M.known i
open Classical in
noncomputable def iG(e:Nat->EvM)(n:Nat)(K:Nat->Int):Nat->dP->dP
 | 0,L=>L
 | f+1,L=>if Mf (ou e K L n) L then ou e K L n else iG e n K f (ou e K L n)
noncomputable def Gj(e:Nat->EvM)(n:Nat)(K:Nat->Int)(L:dP):dP:=iG e n K (n+1) L
section
variable {e:Nat->EvM} {K:Nat->Int} {L M M':dP} {j n r:Nat}
theorem VT(h:M=ou e K L j)(b:(e j).seq<=K (aN (e j)))(a:M'=bV M (e j)):M'=ou e K L (j+1):=by unfold ou; rw[d_ b,<- h,a]
theorem Zz(h:M=ou e K L j)(a : ¬ (e j).seq<=K (aN (e j))):M=ou e K L (j+1):=by unfold ou; rw[b_ a,<- h]
theorem R6(hr:r<=n)(h:M=ou e K L n)(a:Mf M L):iG e n K (n+1-r) L=M:=by
 rw[show n+1-r=(n-r)+1 by omega]; unfold iG; rw[<- h,d_ a]
theorem VU(hr:r<=n)(h:M=ou e K L n)(a : ¬ Mf M L):iG e n K (n+1-(r+1)) M=iG e n K (n+1-r) L:=by
 rw[show n+1-r=(n-r)+1 by omega,show n+1-(r+1)=n-r by omega]
 conv=>rhs; unfold iG
 rw[<- h,b_ a]
theorem I4{m a:mo}:Mf m.core a.core <-> ∀ i,i<6->(rv .u64 m.s.known) i=(rv .u64 a.s.known) i:=by
 unfold Mf rv;simp only[Value.int.injEq,true_and]; exact Iff.rfl
end
theorem BL.kd{K:Nat->Int}(h:BL K):Fx.Kd (List.replicate 6 (some .u64)) (rv .u64 K):=Fx.Ie fun i a=>Fx.qA (by have:=h i a; omega)
end Rt
attribute [irreducible] Rt.iG
set_option maxRecDepth 20000 in
theorem ZA(m:mo)(B p T:Nat)(O:Option Addr)(an E:Nat)(ev:Nat->EvM)(K:Nat->Int)(w:World)(hL:uh w B p m)(hI:Inv m.core T)(hA:mP w O an 14 (evX ev))(hwf : ∀ k,k<an->gL (ev k))(hmay : ∀ k,k<an->bR (ev k)=true)(hsm : ∀ k,k<an->sM (ev k))(han:an<=60)(hT:T<=890000) :
 Calls Tryz.prog 56 #[(pt p),.slice O (an) (E),.agg (aA 6 (rv .u64 K))] w fun e w' => ∃ p' m',e = .returned (pt p')/\m'.core=Gj ev an K m.core/\Inv m'.core (T+3660)/\uh w' B p' m'/\Below w.heap.size w w':=by
 refine Kent Tryz.func56 59 ?_;refine ay<|oz fun H w1 kQ g s1 z1 => ?_;have⟨l,b1⟩:=eU s1.old hL (Below.refl w.heap.size w);have rF:=gD kQ;have sQ:=g.lt;refine av (.pointer none)<|aC<|Ws<|ay<|av (au 0)<|aC<|Wb<|Wo (fun f z => ∃ r:Nat,∃ x:Nat,∃ g:mo,∃ N:Nat,r<=an+1/\iG ev an K (an+1-r) g.core=Gj ev an K m.core/\Inv g.core N/\N<=T+r*60/\f 0=(pt x)/\f 1 = .slice O (an) (E)/\f 5=(pt H)/\f 7=au (r:Int)/\aP z H 6 (rv .u64 K) 35/\uh z B x g/\Below w.heap.size w z) (fun f _=>(an+1-(intOf (f 7)).toNat)) ⟨0,p,m,T,by omega,rfl,hI,by omega,(by rfl),(by rfl),(by rfl),Fx.ic,g,l,b1⟩ ?_;rintro f1 w2 ⟨r,x,g,N,hr,hc1,S,hT1,h1,h2,h3,h4,m3,m4,b2⟩;refine Ws<|ay<|aU h4<|aU h2<|av (au an) ?_;by_cases c13:(r:Int)<=(an:Int)
 ·refine Lv aG (nL c13)<|aC<|aM<|Wk<|sN<|Ws<|Wb<|Ws ?_;have ZB:=m4.c;refine Wl<|aU h1<|av (pt x)<|av (pt x)<|av (pf x 12)<|Lv (.agg (aA 6 (rv .u64 g.s.known))) (eT ZB.aH 12 (fun j V=>kV _ (by omega) (jV _ V (by omega))))<|qR 6 (rv .u64 (fun _=>0)) fun g2 w3 yw m5 s2 z2 => ?_;have⟨m6,m7,b3⟩:=iy s2.old m3 m4 b2;have pO:=iw yw b2.size;have⟨abH,VW⟩:=sF yw m3.lt ZB.lt;have yu:=m5.lt;refine dU m5 0 fun w4 m9 s3 z3 => ?_;have m10:aP w4 g2 6 (rv .u64 g.s.known) 35:=aQ m9;have m11:=m6.cZ s3 (by omega);have fV:=gH s3 m5.ty;have m12:=jo fV m7;have b4:=s3.below b3 b3.size (by omega);refine aC<|Ws<|ay<|av (au 0)<|aC<|Wb<|Wo (fun f z => ∃ j:Nat,∃ u:Nat,∃ l:mo,∃ A:Nat,j<=an/\l.core=ou ev K g.core j/\Inv l.core A/\A<=T+r*60+j/\f 0=(pt u)/\f 1 = .slice O (an) (E)/\f 5=(pt H)/\f 7=au (r:Int)/\f 8=(pt g2)/\f 9=au (j:Int)/\aP z H 6 (rv .u64 K) 35/\aP z g2 6 (rv .u64 g.s.known) 35/\uh z B u l/\Below w.heap.size w z) (fun f _=>(an-(intOf (f 9)).toNat)) ⟨0,x,g,N,by omega,rfl,S,by omega,h1,h2,h3,(h4.trans Fx.ic),(by rfl),Fx.ic,m11,m10,m12,b4⟩ ?_;rintro f2 t ⟨j,u,l,A,V,U,D,hT2,I,C,R,h8,h9,y,W,m15,J,G⟩;refine Ws<|ay<|aU y<|aU C<|av (au an) ?_;by_cases c24:(j:Int)<(an:Int)
  ·refine Lv aG (gM c24)<|aC<|aM<|Wk<|sN<|Ws<|Wb<|Ws ?_;obtain⟨a,ha,ho⟩:=fq (jg (hmay j (by omega)));have eN:aN (ev j)=a:=(by unfold aN; omega);refine vV<|eG C<|eG y ?_;obtain⟨F,L,eq1,Z⟩:=(hA.up G rfl) (by omega);have aeA:F<t.heap.size:=Z.lt (by omega);refine Qv (pf F (14*j+L)) (fun b d=>dw 14 (hx:=(rfl.trans (L_ (fun q=>Value.slice q (an) (E)) eq1))))<|aW (pf F (14*j+L+1))<|Qv (aD ((ev j).seq)) (fun b d=>aL (Z.dr d) (14*j+1) (Fx.fU (k:=j) (j:=1) (by omega) (by omega) rfl))<|eG C<|eG y<|Qv (pf F (14*j+L)) (fun b d=>dw 14 (hx:=(rfl.trans (L_ (fun q=>Value.slice q (an) (E)) eq1))))<|aW (pf F (14*j+L))<|Qv (au ((ev j).o)) (fun b d=>aL (Z.dr d) (14*j) (Fx.fU (k:=j) (j:=0) (by omega) (by omega) rfl))<|Qv (au a) (fun b d=>gQ)<|Qv (pf H a) (fun b d=>jJ 6 1 (hx:=R))<|Qv (aD (K a)) (fun b d=>aL (W.aH.dr d) a) ?_;by_cases P:((ev j).seq)<=(K a)
   ·refine Qv aG (fun b d=>nL P)<|Qn ?_;rintro _ ⟨v,rfl⟩;obtain⟨BM,nV⟩ : ∃ b,b=World.drewN t v:=⟨_,rfl⟩;rw[<- nV];have s4:Stp t.heap.size t BM:=(by rw[nV]; exact Sb (jA t v));have⟨m18,m19,m20,m21,b6⟩:=nN s4.old W m15 J Z G;clear nV;refine sN<|aM<|Wl<|aU I<|aU C<|aU y<|Lv (pf F (14*j+L)) (dw 14 (hx:=(rfl.trans (L_ (fun q=>Value.slice q (an) (E)) eq1))))<|Lv (.agg (aA 14 (bM (ev j)))) (eT m21 (14*j) (fun jq hjq=>Fx.iq (k:=j) (by omega) hjq))<|lD (Qg l B u A (ev j) _ m20 (hwf j (by omega)) D.w (by omega)) ?_;rintro e9 w6 ⟨M,m3,he,hc3,hL1,hb1⟩;refine⟨.tuple #[(pt M),au (bD l.core (ev j))],he,?_⟩;clear he;have⟨m22,m23,b7⟩:=iy hb1 m18 m19 b6;refine av (.tuple #[(pt M),au (bD l.core (ev j))])<|av (pt M)<|av (au (bD l.core (ev j)))<|av (pt M)<|Ln<|bP<|sN<|Wl<|aU y<|Lv (au ((j:Int)+1)) fA<|av (au ((j:Int)+1))<|Ln<|gW ⟨j+1,M,m3,A+1,by omega,(VT U (by rw[eN]; exact P) hc3),(by rw[hc3]; exact IZ (hsm j (by omega)) D),by omega,(by rfl),C,R,(h8.trans Fx.ic),h9,Fx.ic,m22,m23,hL1,b7⟩ ?_;show(an-(intOf (au ((j:Int)+1))).toNat)<_;simp only[y,intOf]; omega
   refine Qv aF (fun b d=>ow P)<|Qn ?_;rintro _ ⟨v,rfl⟩;obtain⟨wq2,um⟩ : ∃ b,b=World.drewN t v:=⟨_,rfl⟩;rw[<- um];have s6:Stp t.heap.size t wq2:=(by rw[um]; exact Sb (jA t v));have⟨mZ,nQ,nH,b8⟩:=jN s6.old W m15 J G;clear um;refine sN<|aK<|Wk<|bP<|sN<|Wl<|aU y<|Lv (au ((j:Int)+1)) fA<|av (au ((j:Int)+1))<|Ln<|gW ⟨j+1,u,l,A,by omega,(Zz U (by rw[eN]; exact P)),D,by omega,I,C,R,(h8.trans Fx.ic),h9,Fx.ic,mZ,nQ,nH,b8⟩ ?_;show(an-(intOf (au ((j:Int)+1))).toNat)<_;simp only[y,intOf]; omega
  refine Lv aF (gN c24)<|aC<|aK<|Wx<|bX<|gP<|bY<|sN<|Ws ?_;have aeB:=J.c;refine vV<|eG I<|aW (pt u)<|aW (pt u)<|aW (pf u 12)<|Qv (.agg (aA 6 (rv .u64 l.s.known))) (fun b d=>eT (aeB.aH.dr d) 12 (fun j V=>kV _ (by omega) (jV _ V (by omega))))<|Qv (.agg (aA 6 (rv .u64 g.s.known))) (fun b d=>eT (m15.aH.dr d) 0 (ha:=h9)) ?_;by_cases Q : ∀ i,i<6->(rv .u64 l.s.known) i=(rv .u64 g.s.known) i
  ·refine Qv aG (fun b d=>Fx.uV (n:=6) (ks:=List.replicate 6 (some .u64)) (X:=rv .u64 l.s.known) (Y:=rv .u64 g.s.known) 12 true rfl rfl rfl (Fx.Ht Q) (BL.kd D.kn) (BL.kd S.kn) rfl (by kernel_rfl) (by kernel_rfl) (by kernel_rfl) (by kernel_rfl) (by kernel_rfl))<|Qn ?_;rintro _ ⟨v,rfl⟩;obtain⟨Yo,Bb⟩ : ∃ b,b=World.drewN t v:=⟨_,rfl⟩;rw[<- Bb];have s7:Stp t.heap.size t Yo:=(by rw[Bb]; exact Sb (jA t v));have⟨lI,b9⟩:=eU s7.old J G;clear Bb;refine sN<|aM<|ay<|aU I<|av (pt u)<|aC<|Wr<|bL<|sR<|pV<|bL<|sR<|aJ (pt u) ?_;exact⟨u,l,rfl,((R6 (n:=an) (r:=r) (by omega) (by rw[show an=j by omega]; exact U) (I4.2 Q)).symm.trans hc1),D.mono (by omega),lI,b9⟩
  refine Qv aF (fun b d=>Fx.uV (n:=6) (ks:=List.replicate 6 (some .u64)) (X:=rv .u64 l.s.known) (Y:=rv .u64 g.s.known) 12 false rfl rfl rfl (Fx.nob Q) (BL.kd D.kn) (BL.kd S.kn) rfl (by kernel_rfl) (by kernel_rfl) (by kernel_rfl) (by kernel_rfl) (by kernel_rfl))<|Qn ?_;rintro _ ⟨v,rfl⟩;obtain⟨wq4,Gc⟩ : ∃ b,b=World.drewN t v:=⟨_,rfl⟩;rw[<- Gc];have s8:Stp t.heap.size t wq4:=by rw[Gc]; exact Sb (jA t v)
  have⟨pE,pF,b10⟩:=iy s8.old W J G;clear Gc;refine sN<|aK<|Wk<|bP<|sN<|Wl<|aU h8<|Lv (au ((r:Int)+1)) fA<|av (au ((r:Int)+1))<|Ln<|gW ⟨r+1,u,l,A,by omega,(VU (by omega) (by rw[show an=j by omega]; exact U) (fun h=>Q (I4.1 h))).trans hc1,D,by omega,I,C,R,Fx.ic,pE,pF,b10⟩ ?_;show(an+1-(intOf (au ((r:Int)+1))).toNat)<_;simp only[h4,intOf]; omega
 refine Lv aF (ow c13)<|aC<|aK<|Wx<|bX<|gP<|bY<|sN<|ay<|aU h1<|av (pt x)<|aC<|Wr<|aJ (pt x) ?_;exact⟨x,g,rfl,(by rw[<- hc1,show an+1-r=0 by omega]; unfold iG; rfl),S.mono (by omega),m4,b2⟩
end
section
namespace Rt
def zeroE:EvM:=⟨0,0,fun _=>0,0,0,0,0,0,0⟩
def fH(ev:Nat->EvM):Nat->Nat->Int
 | 0,_=>0
 | k+1,i=>fH ev k i+if aN (ev k)=i then 1 else 0
structure KG(ev:Nat->EvM)(an:Nat)(K:Nat->Int):Prop where
 le : ∀ i,i<6->K i<=fH ev an i
 cl : ∀ k,k<an->(ev k).seq<=K (aN (ev k)) -> ∀ i,i<6->(ev k).deps i<=K i
structure Cz(n an:Nat)(ev:Nat->EvM)(kn:Nat->Nat->Int):Prop where
 rd : ∀ k,k<an->dJ (fH ev k) (ev k)=true
 reg : ∀ k,k<an->aN (ev k)<n
 own : ∀ o,o<n->kn o o=fH ev an o
 kc : ∀ o,o<n->KG ev an (kn o)
section
variable {ev:Nat->EvM} {an n j k i:Nat} {K:Nat->Int} {kn kn':Nat->Nat->Int} {v:EvM} {L:dP}
theorem VX : ∀ d k i,fH ev k i<=fH ev (k+d) i
 | 0,_,_=>N_ _
 | d+1,k,i=>by have:=VX d k i; show _<=fH ev (k+d) i+_; split <;> omega
theorem cnt_mono(h:j<=k):fH ev j i<=fH ev k i:=by have:=VX (ev:=ev) (k-j) j i; rwa [show j+(k-j)=k by omega]at this
theorem EY(h:j<k):fH ev j (aN (ev j))+1<=fH ev k (aN (ev j)):=by
 have a:fH ev (j+1) (aN (ev j))<=fH ev k (aN (ev j)):=cnt_mono (by omega);have b:fH ev (j+1) (aN (ev j))=fH ev j (aN (ev j))+1:=by show _+(if _ then _ else _)=_; rw[d_ rfl]
 omega
theorem Gl : ∀ k i,0<=fH ev k i
 | 0,_=>N_ _
 | k+1,i=>by have:=Gl k i; unfold fH; split <;> omega
theorem Ew(h:dJ K v=true):bR v=true/\v.seq=K (aN v)+1 /\ ∀ i,i<6->v.deps i<=K i:=by
 unfold dJ at h;simp only[T_,decide_eq_true_eq]at h;refine⟨h.1.1,h.1.2,fun i a => ?_⟩;have:=h.2;unfold yT at this;rw[List.all_eq_true]at this;exact h_ (this i (O_.2 a))
theorem Gm(h1:bR v=true)(a:v.seq=K (aN v)+1)(b : ∀ i,i<6->v.deps i<=K i):dJ K v=true:=by
 unfold dJ;simp only[T_,decide_eq_true_eq];refine⟨⟨h1,a⟩,?_⟩;unfold yT;rw[List.all_eq_true];intro i c;exact f_ (b i (O_.1 c))
theorem Cz.seq(h:Cz n an ev kn)(a:k<an):(ev k).seq=fH ev k (aN (ev k))+1:=(Ew (h.rd k a)).2.1
theorem Cz.Ou(h:Cz n an ev kn)(a:k<an):(ev k).seq<=fH ev an (aN (ev k)):=by rw[h.seq a]; exact EY a
theorem Cz.uniq(h:Cz n an ev kn)(c:j<an)(d:k<an)(b:aN (ev j)=aN (ev k))(a:(ev j).seq=(ev k).seq):j=k:=by
 rw[h.seq c,h.seq d]at a
 rcases Nat.lt_trichotomy j k with h1|h1|h1
 ·have:=EY (ev:=ev) h1; rw[b]at this a; omega
 ·exact h1
 have:=EY (ev:=ev) h1; rw[<- b]at this a; omega
theorem Cz.step(h:Cz n an ev kn)(c:KG ev an K)(d:j<an)(hr:dJ K (ev j)=true):KG ev an (aI K (aN (ev j)) (K (aN (ev j))+1)):=by
 obtain⟨_,l,m⟩:=Ew hr;have g : ∀ i,K i<=aI K (aN (ev j)) (K (aN (ev j))+1) i:=fun i=>by unfold aI; split <;> (try subst_vars) <;> omega
 refine⟨fun i a => ?_,fun k f b i a => ?_⟩
 ·unfold aI; split
  ·rename_i e; rw[e,<- l]; exact h.Ou d
  exact c.le i a
 by_cases e:(ev k).seq<=K (aN (ev k))
 ·exact S_ (c.cl k f e i a) (g i)
 unfold aI at b;split at b
 ·rename_i e2;rw[e2]at e;have:k=j:=h.uniq f d e2 (by omega);subst this;exact S_ (m i a) (g i)
 exact M_ b e
theorem jD(h:bD L v=0):dJ L.known v=true:=by
 unfold bD at h;split at h; · cases h
 split at h; · cases h
 split at h; · cases h
 rename_i h3
 cases e:dJ L.known v with
 | true=>rfl
 | false=>exact M_ e h3
theorem oQ(L:dP)(v:EvM):(bD L v=0/\(bV L v).known=aI L.known (aN v) (L.known (aN v)+1))\/(bD L v≠0/\bV L v=L):=by
 by_cases h:bD L v=0
 ·refine .inl ⟨h,?_⟩;unfold bV; rw[d_ h];show aI (iE L v).known _ _=_;rw[qH]
 refine .inr ⟨h,?_⟩;unfold bV; rw[b_ h]
def KnO(ev:Nat->EvM)(an o:Nat)(K:Nat->Int):Prop:=KG ev an K/\K o=fH ev an o
theorem Cz.apply(h:Cz n an ev kn){o:Nat}(a:KnO ev an o L.known)(c:j<an):KnO ev an o (bV L (ev j)).known:=by
 rcases oQ L (ev j)with ⟨f,b⟩|⟨_,b⟩
 ·have d:=jD f;rw[b];refine⟨h.step a.1 c d,?_⟩;unfold aI;split
  ·rename_i e;have:=(Ew d).2.1;have g:=h.Ou c;rw[<- e]at this g;have:=a.2;omega
  exact a.2
 rw[b]; exact a
theorem Cz.pass(h:Cz n an ev kn){o:Nat}{b:Nat->Int}(a:KnO ev an o L.known) : ∀ j,j<=an->KnO ev an o (ou ev b L j).known
 | 0,_=>a
 | j+1,hj=>by
   unfold ou;split
   ·exact h.apply (h.pass a j (by omega)) (by omega)
   ·exact h.pass a j (by omega)
theorem Cz.iG(h:Cz n an ev kn){o:Nat}{a:Nat->Int} : ∀ f L,KnO ev an o L.known->KnO ev an o (iG ev an a f L).known
 | 0,L,hL=>by unfold Rt.iG; exact hL
 | f+1,L,hL=>by
   unfold Rt.iG;split
   ·exact h.pass hL an (A_ _)
   ·exact h.iG f _ (h.pass hL an (A_ _))
theorem Cz.learn(h:Cz n an ev kn){o:Nat}(g:o<n){b:Nat->Int}(i:L.known=kn o)(c : ∀ q,q≠o->kn' q=kn q)(d:kn' o=(Gj ev an b L).known):Cz n an ev kn':=by
 have f:KnO ev an o (Gj ev an b L).known:=h.iG (an+1) L (by rw[i]; exact⟨h.kc o g,h.own o g⟩);refine⟨h.rd,h.reg,fun q a => ?_,fun q a => ?_⟩
 ·by_cases e:q=o
  ·subst e; rw[d]; exact f.2
  rw[c q e]; exact h.own q a
 by_cases e:q=o
 ·subst e; rw[d]; exact f.1
 rw[c q e]; exact h.kc q a
theorem Cb : ∀ k,k<=an -> ∀ i,fH (aI ev an v) k i=fH ev k i
 | 0,_,_=>rfl
 | k+1,hk,i=>by
   have e:aI ev an v k=ev k:=(by unfold aI; rw[b_ (by omega)]);show fH (aI ev an v) k i+(if aN (aI ev an v k)=i then 1 else 0)=fH ev k i+if aN (ev k)=i then 1 else 0;rw[e,Cb k (by omega) i]
theorem Ql(i:Nat):fH (aI ev an v) (an+1) i=fH ev an i+if aN v=i then 1 else 0:=by
 show fH (aI ev an v) an i+(if aN (aI ev an v an)=i then 1 else 0)=_;rw[Cb an (A_ _)];unfold aI; rw[d_ rfl]
theorem Cz.event(h:Cz n an ev kn){o:Nat}(m:o<n)(hr:dJ (kn o) v=true)(d:aN v=o)(y:v.deps=kn o)(g : ∀ q,q≠o->kn' q=kn q)(j:kn' o=aI (kn o) o (kn o o+1)):Cz n (an+1) (aI ev an v) kn':=by
 obtain⟨u,t,z⟩:=Ew hr;rw[d]at t;have s : ∀ k,k<an->aI ev an v k=ev k:=fun k l=>by unfold aI; rw[b_ (by omega)]
 have r:aI ev an v an=v:=by unfold aI; rw[d_ rfl]
 have p:=h.own o m;refine⟨fun k l => ?_,fun k l => ?_,fun q c => ?_,fun q c=>⟨fun i b => ?_,fun k l a i b => ?_⟩⟩
 ·have e:fH (aI ev an v) k=fH ev k:=funext fun i=>Cb k (by omega) i;rw[e];by_cases f:k=an
  ·subst f; rw[r];refine Gm u (by rw[d,t,p]) fun i b => ?_;exact S_ (z i b) ((h.kc o m).le i b)
  rw[s k (by omega)]; exact h.rd k (by omega)
 ·by_cases f:k=an
  ·subst f; rw[r,d]; exact m
  rw[s k (by omega)]; exact h.reg k (by omega)
 ·rw[Ql,d];by_cases e:q=o
  ·subst e; rw[j,d_ rfl]; unfold aI; rw[d_ rfl,p]
  rw[g q e,b_ (fun x=>e x.symm),h.own q c,D_]
 ·rw[Ql,d];by_cases e:q=o
  ·subst e; rw[j]; unfold aI;split
   ·rename_i ei; subst ei; rw[d_ rfl,p]; exact N_ _
   have:=(h.kc q c).le i b; split <;> omega
  rw[g q e]; have:=(h.kc q c).le i b; split <;> omega
 by_cases f:k=an
 ·subst f;rw[r]at a ⊢;by_cases e:q=o
  ·subst e; rw[j,y]; unfold aI; split <;> (try subst_vars) <;> omega
  rw[g q e,d,t]at a;have:=(h.kc q c).le o;have w:o<6:=by have:=ku u; omega
  have:=this w;omega
 rw[s k (by omega)]at a ⊢;by_cases e:q=o
 ·subst e;rw[j]at a ⊢;have A : ∀ i,kn q i<=aI (kn q) q (kn q q+1) i:=fun i=>by unfold aI; split <;> (try subst_vars) <;> omega
  refine S_ ((h.kc q c).cl k (by omega) ?_ i b) (A i);unfold aI at a;split at a
  ·rename_i e3; have:=h.Ou (k:=k) (by omega); rw[e3]at this ⊢; omega
  exact a
 rw[g q e]at a ⊢; exact(h.kc q c).cl k (by omega) a i b
theorem Cz.zero(n:Nat)(h : ∀ o,o<n->kn o=fun _=>0):Cz n 0 ev kn:=⟨fun _ h=>M_ h (z_ _),fun _ h=>M_ h (z_ _),fun o a=>by rw[h o a]; rfl,fun o a=>⟨fun i _=>by rw[h o a]; exact N_ _,fun _ h=>M_ h (z_ _)⟩⟩
end
end Rt
end
end Go.Proofs.YtcbedgfikejkoaaGreatDoor
namespace Go.Proofs.YtcbedgfikejkoaaGreatDoor
open Go.RowKit
namespace Fx
section
variable {S S':Nat->Prop}
theorem jM.trans(w w' c:World)(h:jM S w w')(k:jM S w' c):jM S w c:=⟨k.os.trans h.os,k.tape.trans h.tape,k.output.trans h.output,m_ h.size k.size,fun i b a=>(k.block i (n_ b h.size) a).trans (h.block i b a)⟩
theorem jM.mono{w w':World}(h:jM S w w')(a : ∀ k,S k->S' k):jM S' w w':=⟨h.os,h.tape,h.output,h.size,fun i b c=>h.block i b fun d=>c (a i d)⟩
end
end Fx
end Go.Proofs.YtcbedgfikejkoaaGreatDoor
namespace Go.Proofs.YtcbedgfikejkoaaGreatDoor
open Go.RowKit Rt
open Fx (Sb rv aA aP ev dB Mp iI jM iF)
section
structure dN where
 inn:Nat->Bool
 left:Nat->Bool
 known:Nat->Int
 own:Nat->Int
 T:dM
 R:Nat->Nat->Int
 gn:Nat
 g:Nat->Nat->Int
 an:Nat
 ao:Nat->Int
 ar:Nat->Int
 tp:Nat
 mb:Nat
 pb:Nat
 rb:Nat
 gb:Nat
 ab:Nat
def wJ(m:dN):Nat->Value:=fun p=>if p<6 then .bool (m.inn p)else if p<12 then .bool (m.left (p-6))else if p<18 then .int .u64 (m.known (p-12))else if p=18 then .pointer (some ⟨m.tp,0,none⟩)else if p=19 then .map (some m.pb)else if p=20 then .map (some m.rb)else if p<27 then .int .i64 (m.own (p-21))else if p=27 then .map (some m.gb)else .map (some m.ab)
section
variable {m:dN} {p q:Nat}
theorem Dh(h:p<6):wJ m p = .bool (m.inn p):=by unfold wJ; rw[d_ h]
theorem Cc(h:p<6)(e:q=p+6):wJ m q = .bool (m.left p):=by subst e; unfold wJ; rw[b_ (by omega),d_ (by omega),Nat.add_sub_cancel]
theorem sZ(h:p<6)(e:q=p+12):wJ m q = .int .u64 (m.known p):=by subst e; unfold wJ; rw[b_ (by omega),b_ (by omega),d_ (by omega),Nat.add_sub_cancel]
theorem J7(h:p<6)(e:q=p+21):wJ m q = .int .i64 (m.own p):=by subst e; unfold wJ; rw[b_ (by omega),b_ (by omega),b_ (by omega),b_ (by omega),b_ (by omega),b_ (by omega),d_ (by omega),Nat.add_sub_cancel]
theorem VY{i:Nat}(hi:i<6)(b:Bool):dB (wJ m) i (.bool b)=wJ { m with inn:=aI m.inn i b }:=by
 funext p
 unfold dB;by_cases e:p=i
 ·subst e; rw[d_ rfl,Dh hi]; simp[aI]
 rw[b_ e]; unfold wJ;by_cases h:p<6
 ·rw[d_ h,d_ h]; simp[aI,e]
 rw[b_ h,b_ h]
theorem VZ{i:Nat}(hi:i<6)(e0:q=i+6)(b:Bool):dB (wJ m) q (.bool b)=wJ { m with left:=aI m.left i b }:=by
 subst e0
 funext p
 unfold dB;by_cases e:p=i+6
 ·subst e; rw[d_ rfl,Cc hi rfl]; simp[aI]
 rw[b_ e]; unfold wJ;by_cases h:p<6
 ·rw[d_ h,d_ h]
 rw[b_ h,b_ h];by_cases a:p<12
 ·rw[d_ a,d_ a]; simp[aI,show ¬ p-6=i by omega]
 rw[b_ a,b_ a]
theorem R7{i:Nat}(hi:i<6)(e0:q=i+12)(x:Int):dB (wJ m) q (.int .u64 x)=wJ { m with known:=aI m.known i x }:=by
 subst e0
 funext p
 unfold dB;by_cases e:p=i+12
 ·subst e; rw[d_ rfl,sZ hi rfl]; simp[aI]
 rw[b_ e]; unfold wJ;by_cases h:p<6
 ·rw[d_ h,d_ h]
 rw[b_ h,b_ h];by_cases a:p<12
 ·rw[d_ a,d_ a]
 rw[b_ a,b_ a];by_cases b:p<18
 ·rw[d_ b,d_ b]; simp[aI,show ¬ p-12=i by omega]
 rw[b_ b,b_ b]
theorem ZC{i:Nat}(hi:i<6)(e0:q=i+21)(x:Int):dB (wJ m) q (.int .i64 x)=wJ { m with own:=aI m.own i x }:=by
 subst e0
 funext p
 unfold dB;by_cases e:p=i+21
 ·subst e; rw[d_ rfl,J7 hi rfl]; simp[aI]
 rw[b_ e]; unfold wJ;by_cases h:p<6
 ·rw[d_ h,d_ h]
 rw[b_ h,b_ h];by_cases a:p<12
 ·rw[d_ a,d_ a]
 rw[b_ a,b_ a];by_cases b:p<18
 ·rw[d_ b,d_ b]
 rw[b_ b,b_ b];by_cases c:p=18
 ·rw[d_ c,d_ c]
 rw[b_ c,b_ c];by_cases d:p=19
 ·rw[d_ d,d_ d]
 rw[b_ d,b_ d];by_cases f:p=20
 ·rw[d_ f,d_ f]
 rw[b_ f,b_ f];by_cases g:p<27
 ·rw[d_ g,d_ g]; simp[aI,show ¬ p-21=i by omega]
 rw[b_ g,b_ g]
end
def xR(R:Nat->Nat->Int):Nat->Value:=fun i => .agg (aA 54 (rv .i64 (R i)))
def Ey(T:dM):Nat->Value:=fun j => .int .u64 (T.p j)
def vE(g:Nat->Nat->Int):Nat->Value:=fun i => .agg (aA 5 (jc (g i)))
def Ez:Nat->Value:=fun _ => .bool true
structure QlN(m:dN):Prop where
 mp:m.mb≠m.pb
 mr:m.mb≠m.rb
 mg:m.mb≠m.gb
 ma:m.mb≠m.ab
 pr:m.pb≠m.rb
 pg:m.pb≠m.gb
 pa:m.pb≠m.ab
 rg:m.rb≠m.gb
 ra:m.rb≠m.ab
 ga:m.gb≠m.ab
structure mM(w:World)(B lp:Nat)(m:dN):Prop where
 c:aP w lp 29 (wJ m) 114
 t:tY w B m.tp m.mb m.T
 p:Mp w m.pb m.T.n m.T.x (Ey m.T)
 r:Mp w m.rb m.T.n m.T.x (xR m.R)
 g:iI w m.gb m.gn (fun i=>m.g i 0) (fun i=>m.g i 1) (vE m.g)
 a:iI w m.ab m.an m.ao m.ar Ez
 ne:QlN m
 lB:B<=lp
 pB:B<=m.pb
 rB:B<=m.rb
 gB:B<=m.gb
 aB:B<=m.ab
def Gn(m:dN)(lp:Nat)(k:Nat):Prop:=k=lp\/k=m.mb\/k=m.pb\/k=m.rb\/k=m.gb\/k=m.ab
section
variable {w w':World} {B lp:Nat} {m:dN}
theorem mM.up(h:mM w B lp m)(b:Below w.heap.size w w'):mM w' B lp m := { h with c:=h.c.cZ (Sb b) (u_ h.c.lt),t:=h.t.up b,p:=h.p.up b,r:=h.r.up b,g:=h.g.up b,a:=h.a.up b }
instance:Rt.Tr w w' (mM w B lp m) (mM w' B lp m):=⟨fun b h=>h.up b⟩
theorem mM.lu{d:List TypeId}(h:mM w B lp m)(b:iF d w w')(e:(d.contains 114 || d.contains 165)=false):mM w' B lp m:=by
 rw[Bool.or_eq_false_iff]at e;exact { h with c:=h.c.lu b e.1,t:=h.t.lu b e.2,p:=h.p.lu b trivial,r:=h.r.lu b trivial,g:=h.g.lu b trivial,a:=h.a.lu b trivial }
instance {a:List TypeId}:Rt.Tc a w w' (mM w B lp m) (mM w' B lp m) (!(a.contains 114 || a.contains 165)):=⟨fun b h e=>h.lu b (by simpa using e)⟩
theorem tY.keep{b a:Nat}{T:dM}(h:tY w B b a T)(c:w'.heap[b]? = w.heap[b]?)(d:w'.heap[a]? = w.heap[a]?):tY w' B b a T:=⟨c.trans h.blk,h.map.keep d,h.inv,h.gt,h.gm⟩
theorem mM.weak{b:Nat}(h:mM w B lp m)(a:b<=B):mM w b lp m := { h with t:=h.t.weak a,lB:=m_ a h.lB,pB:=m_ a h.pB,rB:=m_ a h.rB,gB:=m_ a h.gB,aB:=m_ a h.aB }
theorem mM.lt(h:mM w B lp m):lp<w.heap.size:=h.c.lt
theorem mM.ltS(h:mM w B lp m){k:Nat}(b:Gn m lp k):B<=k/\k<w.heap.size:=by
 rcases b with rfl|rfl|rfl|rfl|rfl|rfl
 ·exact⟨h.lB,h.c.lt⟩
 ·exact⟨h.t.gm,h.t.lt⟩
 ·exact⟨h.pB,h.p.lt⟩
 ·exact⟨h.rB,h.r.lt⟩
 ·exact⟨h.gB,h.g.lt⟩
 exact⟨h.aB,h.a.lt⟩
end
namespace Rt
def Ag(x:Nat->Int):Nat->Int->Nat
 | 0,_=>0
 | n+1,k=>if x n=k then n else Ag x n k
theorem nI{x:Nat->Int}{j:Nat}{k:Int} : ∀ {n:Nat},(∀ a b,a<n->b<n->x a=x b->a=b)->j<n->x j=k->Ag x n k=j
 | 0,_,h,_=>M_ h (z_ _)
 | n+1,hi,hj,e=>by
   unfold Ag;by_cases c:x n=k
   ·rw[d_ c]; exact hi n j (by omega) hj (c.trans e.symm)
   ·rw[b_ c];refine nI (fun a b d f=>hi a b (by omega) (by omega)) ?_ e
    rcases Nat.lt_or_ge j n with h|h
    ·exact h
    ·obtain rfl:j=n:=(by omega);exact M_ e c
end Rt
def dN.idx(m:dN)(k:Int):Nat:=Ag m.T.x m.T.n k
def R8(m:dN)(lp a:Nat)(k:Nat):Prop:=Gn m lp k\/a<=k
structure V4(w:World)(B lp:Nat)(m m':dN)(b0:Nat)(fv:Value)(fi:Nat)(cap:Array Value):Prop where
 e:fv = .func (.func fi) #[] cap
 f : ∃ fn c, Tryz.prog.funcs[fi]? = some fn ∧ (fn.name == "runtime.NumGoroutine") = false ∧ fn.body = some c
 s : ∀ w2,Below w.heap.size w w2->Calls Tryz.prog fi cap w2 fun e w3=>e = .returned (.tuple #[])/\mM w3 B lp m'/\jM (R8 m lp b0) w2 w3
def S9(w:World)(B lp:Nat)(m f:dN)(b:Int)(e:Ending)(w':World):Prop :=
 (∃ a d c,e = .returned (.tuple #[a,.int .i64 b])/\a.oneCell'=true/\(b=0->V4 w' B lp m f w.heap.size a d c))/\Below w.heap.size w w'
theorem mM.J8{w w':World}{B lp g n d:Nat}{m:dN}{x:Nat->Value}{T:TypeId}(h:mM w B lp m)(b:aP w g n x T)(f:T≠114)(i:jM (R8 m lp d) w w')(j:g<d):aP w' g n x T:=b.chg i fun e=>by
 rcases e with (rfl|rfl|rfl|rfl|rfl|rfl)|e
 ·exact f (Fx.Ty.only h.c.ty b.ty)
 ·exact h.t.map.tL b.ty
 ·exact h.p.tL b.ty
 ·exact h.r.tL b.ty
 ·exact h.g.tL b.ty
 ·exact h.a.tL b.ty
 ·omega
theorem Fx.Qm{P:Program}{f:Nat->Value}{w:World}{o:Oper}{g:Nat}{t:Operand}{b:List Operand}{args:List Value}{d:Array TypeId}{cap all:Array Value}(l:o.op = .call { callee := .value t,args:=b.toArray,argTypes:=d })(m:ev f t = .func (.func g) #[] cap)(hx:b.map (ev f)=args)(j:args.toArray++cap=all)
 (k : ∃ a c, P.funcs[g]? = some a ∧ (a.name == "runtime.NumGoroutine") = false ∧ a.body = some c) : (execOp (ev f) o).run P w = .ok (.enter g all) w := by
 obtain⟨a,c,e,h,i⟩:=k;exact Fx.Ai l m hx (by rw[<- j]; simp) e h i
namespace Fx
theorem It.eB{w w':World}{r b n g:Nat}{S:Nat->Bool}(h:It w r b n S)(a:Rb g w w')(c:b≠g)(d:r≠g):It w' r b n S:=h.keep (a.s.block b h.SQ c) (a.s.block r h.lt d)
theorem Bl.eB{w w':World}{r b i g:Nat}(h:Bl w r b i)(a:Rb g w w')(c:b≠g)(d:r≠g):Bl w' r b i:=h.keep (a.s.block b h.SQ c) (a.s.block r h.lt d)
end Fx
end
end Go.Proofs.YtcbedgfikejkoaaGreatDoor
namespace Go.Proofs.YtcbedgfikejkoaaGreatDoor.Fx
open Go.RowKit
section
variable {P:Program} {n0:Nat} {Q:Post} {f:Nat->Value} {w:World} {ops:Array Oper} {rest:List Oper} {o:Oper}
theorem Ov{T E:TypeId}{x:Operand}{b off n s:Nat}(d:o.op = .slice T x none none none)(hx:ev f x = .pointer (some ⟨b,off,none⟩))(c:P.underlying T=some (.array n E))(e:(P.info? E).map (·.size)=some s) :
 Runs P f o w (.slice (some ⟨b,off,none⟩) n n):=by
 obtain⟨i,a,g⟩:=Option.map_eq_some_iff.1 e;unfold Runs execOp;simp only[d,hx,Option.map_none];by_cases h:n=0
 ·subst h; simp[Instr.sliceAt,Instr.sureAddr,underlying,c,Instr.sliceBounds,sizeOf,typeInfo,a]
 simp[Instr.sliceAt,Instr.sureAddr,underlying,c,Instr.sliceBounds,sizeOf,typeInfo,a,Addr.add,g]
end
end Go.Proofs.YtcbedgfikejkoaaGreatDoor.Fx
namespace Go.Proofs.YtcbedgfikejkoaaGreatDoor
open Go.RowKit Rt
open Fx (bA dA dQ Lv sN Ln Ws Qv Wl Rp Wr Sb Wk rV sR Rs Rn Rd Rk Wb Wx Wo Qn EH zx wV Bv gH nG uG uW zX rv aA aP bB aO Stp aQ Mp aS iU aZ iJ jM bE jS bL bP bX bY gP gW)
namespace Rt
def lW(v:EvM)(l:Int):Bool:=decide (l<=v.aT)&&decide (v.aT<=1125899906842624)
def sO(v:EvM):EvM:=⟨v.o,v.seq,v.deps,v.kind,0,v.dst,0,v.req,v.of⟩
def za(v:EvM):Bool:=decide (0<v.req)
def Ow(v:EvM):EvM:=⟨v.o,v.seq,v.deps,v.kind,v.node,v.dst,v.aT,0,v.of⟩
def aeD(v:EvM):EvM:=⟨v.o,v.seq,v.deps,v.kind,v.node,v.dst,v.aT,0,0⟩
def toB(v:EvM):Bool:=jh v.dst && !decide (v.dst=v.o)
def Mg(v:EvM):EvM:=⟨v.o,v.seq,v.deps,v.kind,v.node,0,v.aT,v.req,v.of⟩
end Rt
def Rt.EA(v:EvM):Bool:=decide (0<v.req)&&(decide (0<v.of) && !decide (v.of=v.req))
theorem Ce(n:Int)(w:World) :
 Calls Tryz.prog 139 #[au n] w fun e w'=>e = .returned (.bool (jh n))/\w'=w:=by
 refine Kent Tryz.func139 9 ?_;refine ay<|av aF<|aC<|ay<|av (au n) ?_;by_cases a:1<=n
 ·refine Lv aG (kR a)<|av aG<|av (au n) ?_;by_cases b:n<=6
  ·refine Lv aG (nL b)<|av aG<|av aG<|aC<|Wr<|aJ aG ?_;exact⟨iD (by simp only[jh]; first|(symm; simp; omega)|(symm; simp; done)),rfl⟩
  refine Lv aF (ow b)<|av aF<|av aF<|aC<|Wr<|aJ aF ?_;exact⟨iD (by simp only[jh]; first|(symm; simp; omega)|(symm; simp; done)),rfl⟩
 refine Lv aF (kJ a)<|av aF<|bO<|bO<|av aF<|av aF<|aC<|Wr<|aJ aF ?_;exact⟨iD (by simp only[jh]; first|(symm; simp; omega)|(symm; simp; done)),rfl⟩
theorem J9(l:Int)(v:EvM)(g:Nat)(w:World)(a:aP w g 14 (bM v) 218) :
 Calls Tryz.prog 169 #[(pt g),au l] w fun e w'=>e = .returned (.bool (lW v l))/\aP w' g 14 (bM (sO v)) 218/\Stp g w w':=by
 have P:=a.lt;refine Kent Tryz.func169 30 ?_;refine ay<|av aF<|aC<|ay<|av (pt g)<|av (pt g)<|av (pt g)<|av (pf g 11)<|Lv (au v.aT) (aL a.aH 11)<|av (au l) ?_;by_cases c:l<=v.aT
 ·refine Lv aG (kR c)<|av aG<|av (pt g)<|av (pt g)<|av (pt g)<|av (pf g 11)<|Lv (au v.aT) (aL a.aH 11) ?_;by_cases d:v.aT<=1125899906842624
  ·refine Lv aG (nL d)<|av aG<|av aG<|aC<|ay<|av (pt g)<|av (pt g)<|av (pt g)<|av (pt g)<|av (pf g 9)<|ji a 9 (aD 0) fun J p D Q => ?_;have t:aP J g 14 (bM (⟨v.o,v.seq,v.deps,v.kind,0,v.dst,v.aT,v.req,v.of⟩:EvM)) 218:=p.congr (fun j b=>by rcases j with _|_|_|_|_|_|_|_|_|_|_|_|_|_|j <;> first|rfl|omega)
   have f:=(nG g w).then D (by omega);refine av (pt g)<|av (pt g)<|av (pf g 11)<|ji t 11 (au 0) fun K u E R => ?_;have x:aP K g 14 (bM (⟨v.o,v.seq,v.deps,v.kind,0,v.dst,0,v.req,v.of⟩:EvM)) 218:=u.congr (fun j b=>by rcases j with _|_|_|_|_|_|_|_|_|_|_|_|_|_|j <;> first|rfl|omega)
   have h:=f.then E (by omega);refine aC<|ay<|av aG<|av aG<|aC<|Wr<|aJ aG ?_;exact⟨iD (by simp only[lW]; first|(symm; simp; omega)|(symm; simp; done)),x,h⟩
  refine Lv aF (ow d)<|av aF<|av aF<|aC<|ay<|av (pt g)<|av (pt g)<|av (pt g)<|av (pt g)<|av (pf g 9)<|ji a 9 (aD 0) fun L y F S => ?_;have z:aP L g 14 (bM (⟨v.o,v.seq,v.deps,v.kind,0,v.dst,v.aT,v.req,v.of⟩:EvM)) 218:=y.congr (fun j b=>by rcases j with _|_|_|_|_|_|_|_|_|_|_|_|_|_|j <;> first|rfl|omega)
  have i:=(nG g w).then F (by omega);refine av (pt g)<|av (pt g)<|av (pf g 11)<|ji z 11 (au 0) fun M A G T => ?_;have B:aP M g 14 (bM (⟨v.o,v.seq,v.deps,v.kind,0,v.dst,0,v.req,v.of⟩:EvM)) 218:=A.congr (fun j b=>by rcases j with _|_|_|_|_|_|_|_|_|_|_|_|_|_|j <;> first|rfl|omega)
  have k:=i.then G (by omega);refine aC<|ay<|av aF<|av aF<|aC<|Wr<|aJ aF ?_;exact⟨iD (by simp only[lW]; first|(symm; simp; omega)|(symm; simp; done)),B,k⟩
 refine Lv aF (kJ c)<|av aF<|bO<|bO<|bO<|bO<|bO<|bO<|av aF<|av aF<|aC<|ay<|av (pt g)<|av (pt g)<|av (pt g)<|av (pt g)<|av (pf g 9)<|ji a 9 (aD 0) fun N C H U => ?_;have q:aP N g 14 (bM (⟨v.o,v.seq,v.deps,v.kind,0,v.dst,v.aT,v.req,v.of⟩:EvM)) 218:=C.congr (fun j b=>by rcases j with _|_|_|_|_|_|_|_|_|_|_|_|_|_|j <;> first|rfl|omega)
 have m:=(nG g w).then H (by omega);refine av (pt g)<|av (pt g)<|av (pf g 11)<|ji q 11 (au 0) fun O r I V => ?_;have s:aP O g 14 (bM (⟨v.o,v.seq,v.deps,v.kind,0,v.dst,0,v.req,v.of⟩:EvM)) 218:=r.congr (fun j b=>by rcases j with _|_|_|_|_|_|_|_|_|_|_|_|_|_|j <;> first|rfl|omega)
 have n:=m.then I (by omega);refine aC<|ay<|av aF<|av aF<|aC<|Wr<|aJ aF ?_;exact⟨iD (by simp only[lW]; first|(symm; simp; omega)|(symm; simp; done)),s,n⟩
theorem Qo(v:EvM)(g:Nat)(w:World)(a:aP w g 14 (bM v) 218) :
 Calls Tryz.prog 170 #[(pt g)] w fun e w'=>e = .returned (.bool (za v))/\aP w' g 14 (bM (Ow v)) 218/\Stp g w w':=by
 have r:=a.lt;refine Kent Tryz.func170 15 ?_;refine ay<|av aF<|aC<|ay<|av (pt g)<|av (pt g)<|av (pt g)<|av (pf g 12)<|Lv (aD v.req) (aL a.aH 12) ?_;by_cases b:0<v.req
 ·refine Lv aG (ni b)<|av aG<|aC<|ay<|av (pt g)<|av (pt g)<|av (pt g)<|av (pf g 12)<|ji a 12 (aD 0) fun p h m s => ?_;have i:aP p g 14 (bM (⟨v.o,v.seq,v.deps,v.kind,v.node,v.dst,v.aT,0,v.of⟩:EvM)) 218:=h.congr (fun j f=>by rcases j with _|_|_|_|_|_|_|_|_|_|_|_|_|_|j <;> first|rfl|omega)
  have c:=(nG g w).then m (by omega);refine aC<|ay<|av aG<|av aG<|aC<|Wr<|aJ aG ?_;exact⟨iD (by simp only[za]; first|(symm; simp; omega)|(symm; simp; done)),i,c⟩
 refine Lv aF (nk b)<|av aF<|aC<|ay<|av (pt g)<|av (pt g)<|av (pt g)<|av (pf g 12)<|ji a 12 (aD 0) fun q k n t => ?_;have l:aP q g 14 (bM (⟨v.o,v.seq,v.deps,v.kind,v.node,v.dst,v.aT,0,v.of⟩:EvM)) 218:=k.congr (fun j f=>by rcases j with _|_|_|_|_|_|_|_|_|_|_|_|_|_|j <;> first|rfl|omega)
 have d:=(nG g w).then n (by omega);refine aC<|ay<|av aF<|av aF<|aC<|Wr<|aJ aF ?_;exact⟨iD (by simp only[za]; first|(symm; simp; omega)|(symm; simp; done)),l,d⟩
theorem apR(v:EvM)(g:Nat)(w:World)(h:aP w g 14 (bM v) 218) :
 Calls Tryz.prog 171 #[(pt g)] w fun e w'=>e = .returned (.bool (EA v))/\aP w' g 14 (bM (aeD v)) 218/\Stp g w w':=by
 have lg:=h.lt;refine Kent Tryz.func171 32 ?_;refine ay<|av aF<|aC<|Ws ?_;refine vV<|aW (pt g)<|aW (pt g)<|aW (pt g)<|aW (pf g 13)<|Qv (aD v.of) (fun b d=>aL (h.aH.dr d) 13) ?_;by_cases r:0<v.of
 ·refine Qv aG (fun b d=>ni r)<|aW aG<|aW (pt g)<|aW (pt g)<|aW (pt g)<|aW (pf g 13)<|Qv (aD v.of) (fun b d=>aL (h.aH.dr d) 13)<|aW (pt g)<|aW (pt g)<|aW (pt g)<|aW (pf g 12)<|Qv (aD v.req) (fun b d=>aL (h.aH.dr d) 12) ?_;by_cases q:v.of=v.req
  ·refine Qv aF (fun b d=>jG q)<|aW aF<|aW aF<|Qn ?_;rintro _ ⟨f,rfl⟩;obtain⟨Z,i⟩ : ∃ b,b=World.drewN w f:=⟨_,rfl⟩;rw[<- i];have y:Stp w.heap.size w Z:=(by rw[i]; exact Sb (jA w f));have H:=bf y.old h;have B:=(nG g w).then y (.inr (nG g w).size);clear i;refine sN<|ay<|av (pt g)<|av (pt g)<|av (pt g)<|av (pf g 13)<|ji H 13 (aD 0) fun W K Q z1 => ?_;have L:aP W g 14 (bM (⟨v.o,v.seq,v.deps,v.kind,v.node,v.dst,v.aT,v.req,0⟩:EvM)) 218:=K.congr (fun j s=>by rcases j with _|_|_|_|_|_|_|_|_|_|_|_|_|_|j <;> first|rfl|omega)
   have C:=B.then Q (by omega);refine aC<|ay<|av (pt g)<|lD (Qo (⟨v.o,v.seq,v.deps,v.kind,v.node,v.dst,v.aT,v.req,0⟩:EvM) g _ L) ?_;rintro e w2 ⟨a,u,R⟩;have m:=C.then R (by omega);by_cases c:za (⟨v.o,v.seq,v.deps,v.kind,v.node,v.dst,v.aT,v.req,0⟩:EvM)=true
   ·refine⟨.bool true,by rw[a,c],?_⟩;clear a;refine av aG<|av aF<|av aF<|av aF<|aC<|Wr<|aJ aF ?_;exact⟨iD (by simp only[EA,za]at *; first|(symm; simp; omega)|(symm; simp at *; omega)|(symm; simp at *; done)),u,m⟩
   rw[U_]at c;refine⟨.bool false,by rw[a,c],?_⟩;clear a;refine av aF<|bO<|av aF<|av aF<|aC<|Wr<|aJ aF ?_;exact⟨iD (by simp only[EA,za]at *; first|(symm; simp; omega)|(symm; simp at *; omega)|(symm; simp at *; done)),u,m⟩
  refine Qv aG (fun b d=>mG q)<|aW aG<|aW aG<|Qn ?_;rintro _ ⟨f,rfl⟩;obtain⟨aa,k⟩ : ∃ b,b=World.drewN w f:=⟨_,rfl⟩;rw[<- k];have z:Stp w.heap.size w aa:=by rw[k]; exact Sb (jA w f)
  have M:=bf z.old h;have D:=(nG g w).then z (.inr (nG g w).size);clear k;refine sN<|ay<|av (pt g)<|av (pt g)<|av (pt g)<|av (pf g 13)<|ji M 13 (aD 0) fun X N S z2 => ?_;have O:aP X g 14 (bM (⟨v.o,v.seq,v.deps,v.kind,v.node,v.dst,v.aT,v.req,0⟩:EvM)) 218:=N.congr (fun j s=>by rcases j with _|_|_|_|_|_|_|_|_|_|_|_|_|_|j <;> first|rfl|omega)
  have E:=D.then S (by omega);refine aC<|ay<|av (pt g)<|lD (Qo (⟨v.o,v.seq,v.deps,v.kind,v.node,v.dst,v.aT,v.req,0⟩:EvM) g _ O) ?_;rintro e w4 ⟨a,x,T⟩;have n:=E.then T (by omega);by_cases c:za (⟨v.o,v.seq,v.deps,v.kind,v.node,v.dst,v.aT,v.req,0⟩:EvM)=true
  ·refine⟨.bool true,by rw[a,c],?_⟩;clear a;refine av aG<|av aG<|av aG<|av aG<|aC<|Wr<|aJ aG ?_;exact⟨iD (by simp only[EA,za]at *; first|(symm; simp; omega)|(symm; simp at *; omega)|(symm; simp at *; done)),x,n⟩
  rw[U_]at c;refine⟨.bool false,by rw[a,c],?_⟩;clear a;refine av aF<|bO<|av aF<|av aF<|aC<|Wr<|aJ aF ?_;exact⟨iD (by simp only[EA,za]at *; first|(symm; simp; omega)|(symm; simp at *; omega)|(symm; simp at *; done)),x,n⟩
 refine Qv aF (fun b d=>nk r)<|aW aF<|aR<|aR<|aR<|aR<|aR<|aR<|aR<|aR<|aR<|aR<|aR<|aW aF<|aW aF<|Qn ?_;rintro _ ⟨f,rfl⟩;obtain⟨ab,l⟩ : ∃ b,b=World.drewN w f:=⟨_,rfl⟩;rw[<- l];have A:Stp w.heap.size w ab:=by rw[l]; exact Sb (jA w f)
 have P:=bf A.old h;have F:=(nG g w).then A (.inr (nG g w).size);clear l;refine sN<|ay<|av (pt g)<|av (pt g)<|av (pt g)<|av (pf g 13)<|ji P 13 (aD 0) fun Y I U z3 => ?_;have J:aP Y g 14 (bM (⟨v.o,v.seq,v.deps,v.kind,v.node,v.dst,v.aT,v.req,0⟩:EvM)) 218:=I.congr (fun j s=>by rcases j with _|_|_|_|_|_|_|_|_|_|_|_|_|_|j <;> first|rfl|omega)
 have G:=F.then U (by omega);refine aC<|ay<|av (pt g)<|lD (Qo (⟨v.o,v.seq,v.deps,v.kind,v.node,v.dst,v.aT,v.req,0⟩:EvM) g _ J) ?_;rintro e w6 ⟨a,t,V⟩;have p:=G.then V (by omega);by_cases c:za (⟨v.o,v.seq,v.deps,v.kind,v.node,v.dst,v.aT,v.req,0⟩:EvM)=true
 ·refine⟨.bool true,by rw[a,c],?_⟩;clear a;refine av aG<|av aF<|av aF<|av aF<|aC<|Wr<|aJ aF ?_;exact⟨iD (by simp only[EA,za]at *; first|(symm; simp; omega)|(symm; simp at *; omega)|(symm; simp at *; done)),t,p⟩
 rw[U_]at c;refine⟨.bool false,by rw[a,c],?_⟩;clear a;refine av aF<|bO<|av aF<|av aF<|aC<|Wr<|aJ aF ?_;exact⟨iD (by simp only[EA,za]at *; first|(symm; simp; omega)|(symm; simp at *; omega)|(symm; simp at *; done)),t,p⟩
theorem aiO(v:EvM)(g:Nat)(w:World)(a:aP w g 14 (bM v) 218) :
 Calls Tryz.prog 172 #[(pt g)] w fun e w'=>e = .returned (.bool (toB v))/\aP w' g 14 (bM (Mg v)) 218/\Stp g w w':=by
 have Q:=a.lt;refine Kent Tryz.func172 28 ?_;refine ay<|av aF<|aC<|Ws ?_;refine nM<|aW (pt g)<|aW (pt g)<|aW (pt g)<|aW (pf g 10)<|Qv (au v.dst) (fun d b=>aL (a.cb b) 10) ?_;by_cases c:(jh v.dst)=true
 ·refine qQ (fun _ _=>Ce v.dst _) aG (by rw[c])<|aW aG<|aW (pt g)<|aW (pt g)<|aW (pt g)<|aW (pf g 10)<|Qv (au v.dst) (fun d b=>aL (a.cb b) 10)<|aW (pt g)<|aW (pt g)<|aW (pt g)<|aW (pt g)<|Qv (au v.o) (fun d b=>aL (a.cb b) 0) ?_;by_cases f:v.dst=v.o
  ·refine Qv aF (fun d b=>jG f)<|aW aF<|aW aF<|Qn ?_;intro N h;have E:Stp w.heap.size w N:=Sb h;have t:=bf h a;have m:=(nG g w).then E (.inr (nG g w).size);refine sN<|ay<|av (pt g)<|av (pt g)<|av (pt g)<|av (pf g 10)<|ji t 10 (au 0) fun K u F R => ?_;have x:aP K g 14 (bM (⟨v.o,v.seq,v.deps,v.kind,v.node,0,v.aT,v.req,v.of⟩:EvM)) 218:=u.congr (fun j l=>by rcases j with _|_|_|_|_|_|_|_|_|_|_|_|_|_|j <;> first|rfl|omega)
   have n:=m.then F (by omega);refine aC<|ay<|av aF<|av aF<|aC<|Wr<|aJ aF ?_;exact⟨iD (by unfold toB; rw[c]; first|(symm; simp; omega)|(symm; simp; done)),x,n⟩
  refine Qv aG (fun d b=>mG f)<|aW aG<|aW aG<|Qn ?_;intro O i;have G:Stp w.heap.size w O:=Sb i;have y:=bf i a;have p:=(nG g w).then G (.inr (nG g w).size);refine sN<|ay<|av (pt g)<|av (pt g)<|av (pt g)<|av (pf g 10)<|ji y 10 (au 0) fun L z H S => ?_;have A:aP L g 14 (bM (⟨v.o,v.seq,v.deps,v.kind,v.node,0,v.aT,v.req,v.of⟩:EvM)) 218:=z.congr (fun j l=>by rcases j with _|_|_|_|_|_|_|_|_|_|_|_|_|_|j <;> first|rfl|omega)
  have q:=p.then H (by omega);refine aC<|ay<|av aG<|av aG<|aC<|Wr<|aJ aG ?_;exact⟨iD (by unfold toB; rw[c]; first|(symm; simp; omega)|(symm; simp; done)),A,q⟩
 rw[U_]at c;refine qQ (fun _ _=>Ce v.dst _) aF (by rw[c])<|aW aF<|aR<|aR<|aR<|aR<|aR<|aR<|aR<|aR<|aR<|aR<|aR<|aW aF<|aW aF<|Qn ?_;intro P k;have I:Stp w.heap.size w P:=Sb k;have B:=bf k a;have r:=(nG g w).then I (.inr (nG g w).size);refine sN<|ay<|av (pt g)<|av (pt g)<|av (pt g)<|av (pf g 10)<|ji B 10 (au 0) fun M C J T => ?_;have D:aP M g 14 (bM (⟨v.o,v.seq,v.deps,v.kind,v.node,0,v.aT,v.req,v.of⟩:EvM)) 218:=C.congr (fun j l=>by rcases j with _|_|_|_|_|_|_|_|_|_|_|_|_|_|j <;> first|rfl|omega)
 have s:=r.then J (by omega);refine aC<|ay<|av aF<|av aF<|aC<|Wr<|aJ aF ?_;exact⟨iD (by unfold toB; rw[c]; first|(symm; simp; omega)|(symm; simp; done)),D,s⟩
namespace Rt
def nD(v:EvM):Bool :=
 if v.kind=1 then lW v 0 else if v.kind=2 then lW v 1 else if v.kind=3 then lW v 1&&za v else if v.kind=4 then EA v else if v.kind=5 then lW v 1&&toB v else if v.kind=6 then toB v else decide (v.kind=7)
def rX(v:EvM):EvM :=
 if v.kind=1 then sO v else if v.kind=2 then sO v else if v.kind=3 then Ow (sO v)else if v.kind=4 then aeD v else if v.kind=5 then Mg (sO v)else if v.kind=6 then Mg v else v
def V6(v:EvM):EvM:=⟨v.o,v.seq,v.deps,v.kind,0,0,0,0,0⟩
theorem aeE(a b:EvM):(∀ i,i<14->bM a i=bM b i)<->a.o=b.o/\a.seq=b.seq/\(∀ i,i<6->a.deps i=b.deps i)/\a.kind=b.kind/\a.node=b.node/\a.dst=b.dst/\a.aT=b.aT/\a.req=b.req/\a.of=b.of:=by
 constructor
 ·intro h;have f:Value.int .i64 a.o=au b.o:=h 0 (by decide);have g:Value.int .u64 a.seq=aD b.seq:=h 1 (by decide);have p:Value.int .u8 a.kind = .int .u8 b.kind:=h 8 (by decide);have q:Value.int .u64 a.node=aD b.node:=h 9 (by decide);have j:Value.int .i64 a.dst=au b.dst:=h 10 (by decide);have k:Value.int .i64 a.aT=au b.aT:=h 11 (by decide);have l:Value.int .u64 a.req=aD b.req:=h 12 (by decide);have m:Value.int .u64 a.of=aD b.of:=h 13 (by decide);simp only[Value.int.injEq,true_and]at f g p q j k l m;refine⟨f,g,fun i r => ?_,p,q,j,k,l,m⟩;have n:=h (i+2) (by omega);rw[nA a rfl r,nA b rfl r]at n
  simpa using n
 rintro ⟨f,g,n,p,q,j,k,l,m⟩ i r;unfold bM;rw[f,g,p,q,j,k,l,m];by_cases c:i=0
 ·rw[d_ c,d_ c]
 by_cases d:i=1
 ·rw[b_ c,d_ d,b_ c,d_ d]
 by_cases e:i<8
 ·rw[b_ c,b_ d,d_ e,b_ c,b_ d,d_ e,n _ (by omega)]
 rw[b_ c,b_ d,b_ e,b_ c,b_ d,b_ e]
theorem I5{v:EvM}(a:nD v=true):(∀ i,i<14->bM (rX v) i=bM (V6 v) i)<->pQ v=true:=by
 have h:=a;rw[aeE];unfold nD at h;unfold rX pQ kU V6;simp only[T_,decide_eq_true_eq];split at h
 ·rename_i k; simp[k,sO,and_assoc]
 split at h
 ·rename_i k1 k; simp[k,sO,and_assoc]
 split at h
 ·rename_i k1 k2 k; simp[k,sO,Ow,and_assoc]
 split at h
 ·rename_i k1 k2 k3 k; simp[k,aeD,and_assoc]
 split at h
 ·rename_i k1 k2 k3 k4 k; simp[k,sO,Mg,and_assoc]
 split at h
 ·rename_i k1 k2 k3 k4 k5 k; simp[k,Mg,and_assoc]
 rename_i k1 k2 k3 k4 k5 k6; simp[k1,k2,k3,k4,k5,k6,and_assoc]
theorem D7{v:EvM}(h:pQ v=true):dG v=nD v:=by
 unfold pQ kU at h;unfold dG nD someE lW EA toB lN za;simp only[T_,decide_eq_true_eq]at h;split <;> try rfl
 rename_i k1;split <;> try rfl
 rename_i k2;split
 ·congr 1
 rename_i k3;split
 ·rename_i k4; rw[P_]; simp only[T_,decide_eq_true_eq,Bool.not_eq_true',decide_eq_false_iff_not]; omega
 split <;> rfl
def Ox(x:Nat->Int):Nat->Int
 | 0=>x 0
 | k+1=>if x (k+1)>Ox x k then x (k+1)else Ox x k
theorem V7(x:Nat->Int) : ∀ n i,i<=n->x i<=Ox x n
 | 0,i,h=>by rw[show i=0 by omega]; exact N_ _
 | n+1,i,h=>by
   unfold Ox;by_cases e:i=n+1
   ·subst e; split <;> omega
   ·have:=V7 x n i (by omega); split <;> omega
theorem V9(x:Nat->Int) : ∀ n,∃ i,i<=n/\Ox x n=x i
 | 0=>⟨0,A_ _,rfl⟩
 | n+1=>by
   unfold Ox;split
   ·exact⟨n+1,A_ _,rfl⟩
   ·obtain⟨i,a,e⟩:=V9 x n; exact⟨i,by omega,e⟩
theorem aeF{v:EvM}(h:1099511627776<=Ox v.deps 5):xD v=false:=by
 obtain⟨i,a,e⟩:=V9 v.deps 5;exact Iz (k:=i) (by omega) (by omega)
theorem Ka{v:EvM}(h : ¬ 1099511627776<=Ox v.deps 5):xD v=true :=
 xE (k:=6) (by omega) fun i a=>by have:=V7 v.deps 5 i (by omega); omega
def aiP(v:EvM)(b:Bool)(a:EvM):Prop:=b=nD v/\(b=true->a=rX v)
end Rt
set_option maxHeartbeats 1000000 in
theorem aeG(v:EvM)(g:Nat)(w:World)(k:aP w g 14 (bM v) 218) :
 Calls Tryz.prog 141 #[(pt g)] w fun e w' => ∃ b O,e = .returned (.bool b)/\aP w' g 14 (bM O) 218/\Stp g w w'/\aiP v b O:=by
 have X:=k.lt;refine Kent Tryz.func141 46 ?_;refine ay<|av aF<|aC<|Ws<|ay<|av (pt g)<|av (pt g)<|av (pt g)<|av (pf g 8)<|Lv (.int .u8 (v.kind)) (aL k.aH 8)<|aC<|Wb<|ay ?_;by_cases c:v.kind=1
 ·refine Lv aG (eH c)<|av aG<|aC<|aM<|ay<|av (pt g)<|lD (J9 0 v g _ k) ?_;rintro e Y ⟨a,G,P⟩;have y:=(nG g w).then P (by omega);by_cases p:lW v 0=true
  ·refine⟨.bool true,by rw[a,p],?_⟩;clear a;refine av aG (aC (Wr (bL (sR (aJ aG (⟨_,_,rfl,G,y,Eq.symm (by unfold nD; rw[d_ c,(show lW v 0=true from p)]; try rfl),fun d => ?_⟩))))))
   unfold rX; rw[d_ c]; try rfl
  rw[U_]at p;refine⟨.bool false,by rw[a,p],?_⟩;clear a;refine av aF (aC (Wr (bL (sR (aJ aF (⟨_,_,rfl,G,y,Eq.symm (by unfold nD; rw[d_ c,(show lW v 0=false from p)]; try rfl),fun d => ?_⟩))))))
  cases d
 refine Lv aF (fC c)<|av aF<|aC<|aK<|ay ?_;by_cases f:v.kind=2
 ·refine Lv aG (eH f)<|av aG<|aC<|aM<|ay<|av (pt g)<|lD (J9 1 v g _ k) ?_;rintro e Z ⟨a,H,Q⟩;have z:=(nG g w).then Q (by omega);by_cases q:lW v 1=true
  ·refine⟨.bool true,by rw[a,q],?_⟩;clear a;refine av aG (aC (Wr (bL (sR (aJ aG (⟨_,_,rfl,H,z,Eq.symm (by unfold nD; rw[b_ c,d_ f,(show lW v 1=true from q)]; try rfl),fun d => ?_⟩))))))
   unfold rX; rw[b_ c,d_ f]; try rfl
  rw[U_]at q;refine⟨.bool false,by rw[a,q],?_⟩;clear a;refine av aF (aC (Wr (bL (sR (aJ aF (⟨_,_,rfl,H,z,Eq.symm (by unfold nD; rw[b_ c,d_ f,(show lW v 1=false from q)]; try rfl),fun d => ?_⟩))))))
  cases d
 refine Lv aF (fC f)<|av aF<|aC<|aK<|ay ?_;by_cases h:v.kind=3
 ·refine Lv aG (eH h)<|av aG<|aC<|aM<|ay<|av (pt g)<|lD (J9 1 v g _ k) ?_;rintro e w3 ⟨a,I,R⟩;have A:=(nG g w).then R (by omega);by_cases m:lW v 1=true
  ·refine⟨.bool true,by rw[a,m],?_⟩;clear a;refine av aG<|av (pt g)<|lD (Qo (⟨v.o,v.seq,v.deps,v.kind,0,v.dst,0,v.req,v.of⟩:EvM) g _ I) ?_;rintro e w4 ⟨a,J,S⟩;have B:=A.then S (by omega);by_cases r:za (⟨v.o,v.seq,v.deps,v.kind,0,v.dst,0,v.req,v.of⟩:EvM)=true
   ·refine⟨.bool true,by rw[a,r],?_⟩;clear a;refine av aG (av aG (aC (Wr (bL (sR (aJ aG (⟨_,_,rfl,J,B,Eq.symm (by unfold nD; rw[b_ c,b_ f,d_ h,(show lW v 1=true from m),(show za v=true from r)]; try rfl),fun d => ?_⟩)))))))
    unfold rX; rw[b_ c,b_ f,d_ h]; try rfl
   rw[U_]at r;refine⟨.bool false,by rw[a,r],?_⟩;clear a;refine av aF (av aF (aC (Wr (bL (sR (aJ aF (⟨_,_,rfl,J,B,Eq.symm (by unfold nD; rw[b_ c,b_ f,d_ h,(show lW v 1=true from m),(show za v=false from r)]; try rfl),fun d => ?_⟩)))))))
   cases d
  rw[U_]at m;refine⟨.bool false,by rw[a,m],?_⟩;clear a;refine av aF (bO (bO (av aF (av aF (aC (Wr (bL (sR (aJ aF (⟨_,_,rfl,I,A,Eq.symm (by unfold nD; rw[b_ c,b_ f,d_ h,(show lW v 1=false from m)]; try rfl),fun d => ?_⟩))))))))))
  cases d
 refine Lv aF (fC h)<|av aF<|aC<|aK<|ay ?_;by_cases i:v.kind=4
 ·refine Lv aG (eH i)<|av aG<|aC<|aM<|ay<|av (pt g)<|lD (apR v g _ k) ?_;rintro e w5 ⟨a,K,T⟩;have C:=(nG g w).then T (by omega);by_cases s:EA v=true
  ·refine⟨.bool true,by rw[a,s],?_⟩;clear a;refine av aG (aC (Wr (bL (sR (aJ aG (⟨_,_,rfl,K,C,Eq.symm (by unfold nD; rw[b_ c,b_ f,b_ h,d_ i,(show EA v=true from s)]; try rfl),fun d => ?_⟩))))))
   unfold rX; rw[b_ c,b_ f,b_ h,d_ i]; try rfl
  rw[U_]at s;refine⟨.bool false,by rw[a,s],?_⟩;clear a;refine av aF (aC (Wr (bL (sR (aJ aF (⟨_,_,rfl,K,C,Eq.symm (by unfold nD; rw[b_ c,b_ f,b_ h,d_ i,(show EA v=false from s)]; try rfl),fun d => ?_⟩))))))
  cases d
 refine Lv aF (fC i)<|av aF<|aC<|aK<|ay ?_;by_cases j:v.kind=5
 ·refine Lv aG (eH j)<|av aG<|aC<|aM<|ay<|av (pt g)<|lD (J9 1 v g _ k) ?_;rintro e w6 ⟨a,L,U⟩;have D:=(nG g w).then U (by omega);by_cases n:lW v 1=true
  ·refine⟨.bool true,by rw[a,n],?_⟩;clear a;refine av aG<|av (pt g)<|lD (aiO (⟨v.o,v.seq,v.deps,v.kind,0,v.dst,0,v.req,v.of⟩:EvM) g _ L) ?_;rintro e w7 ⟨a,M,V⟩;have E:=D.then V (by omega);by_cases t:toB (⟨v.o,v.seq,v.deps,v.kind,0,v.dst,0,v.req,v.of⟩:EvM)=true
   ·refine⟨.bool true,by rw[a,t],?_⟩;clear a;refine av aG (av aG (aC (Wr (bL (sR (aJ aG (⟨_,_,rfl,M,E,Eq.symm (by unfold nD; rw[b_ c,b_ f,b_ h,b_ i,d_ j,(show lW v 1=true from n),(show toB v=true from t)]; try rfl),fun d => ?_⟩)))))))
    unfold rX; rw[b_ c,b_ f,b_ h,b_ i,d_ j]; try rfl
   rw[U_]at t;refine⟨.bool false,by rw[a,t],?_⟩;clear a;refine av aF (av aF (aC (Wr (bL (sR (aJ aF (⟨_,_,rfl,M,E,Eq.symm (by unfold nD; rw[b_ c,b_ f,b_ h,b_ i,d_ j,(show lW v 1=true from n),(show toB v=false from t)]; try rfl),fun d => ?_⟩)))))))
   cases d
  rw[U_]at n;refine⟨.bool false,by rw[a,n],?_⟩;clear a;refine av aF (bO (bO (av aF (av aF (aC (Wr (bL (sR (aJ aF (⟨_,_,rfl,L,D,Eq.symm (by unfold nD; rw[b_ c,b_ f,b_ h,b_ i,d_ j,(show lW v 1=false from n)]; try rfl),fun d => ?_⟩))))))))))
  cases d
 refine Lv aF (fC j)<|av aF<|aC<|aK<|ay ?_;by_cases l:v.kind=6
 ·refine Lv aG (eH l)<|av aG<|aC<|aM<|ay<|av (pt g)<|lD (aiO v g _ k) ?_;rintro e w8 ⟨a,N,W⟩;have F:=(nG g w).then W (by omega);by_cases u:toB v=true
  ·refine⟨.bool true,by rw[a,u],?_⟩;clear a;refine av aG (aC (Wr (bL (sR (aJ aG (⟨_,_,rfl,N,F,Eq.symm (by unfold nD; rw[b_ c,b_ f,b_ h,b_ i,b_ j,d_ l,(show toB v=true from u)]; try rfl),fun d => ?_⟩))))))
   unfold rX; rw[b_ c,b_ f,b_ h,b_ i,b_ j,d_ l]; try rfl
  rw[U_]at u;refine⟨.bool false,by rw[a,u],?_⟩;clear a;refine av aF (aC (Wr (bL (sR (aJ aF (⟨_,_,rfl,N,F,Eq.symm (by unfold nD; rw[b_ c,b_ f,b_ h,b_ i,b_ j,d_ l,(show toB v=false from u)]; try rfl),fun d => ?_⟩))))))
  cases d
 refine Lv aF (fC l)<|av aF<|aC<|aK<|Wk<|bP<|sN<|ay<|av (pt g)<|av (pt g)<|av (pt g)<|av (pf g 8)<|Lv (.int .u8 (v.kind)) (aL k.aH 8) ?_;by_cases x:v.kind=7
 ·refine Lv aG (eH x) (av aG (aC (Wr (aJ aG (⟨_,_,rfl,k,(nG g w),Eq.symm (by unfold nD; rw[b_ c,b_ f,b_ h,b_ i,b_ j,b_ l,f_ x]; try rfl),fun d => ?_⟩)))))
  unfold rX; rw[b_ c,b_ f,b_ h,b_ i,b_ j,b_ l]; try rfl
 refine Lv aF (fC x) (av aF (aC (Wr (aJ aF (⟨_,_,rfl,k,(nG g w),Eq.symm (by unfold nD; rw[b_ c,b_ f,b_ h,b_ i,b_ j,b_ l,g_ x]; try rfl),fun d => ?_⟩)))))
 cases d
theorem aiQ(x:Nat->Int)(b off:Nat)(w:World)(hx:iU w b off 6 (rv .u64 x)) :
 Calls Tryz.prog 140 #[.slice (some ⟨b,off,none⟩) (6) (6)] w fun e w'=>e = .returned (aD (Ox x 5))/\Below w.heap.size w w':=by
 have o:=hx.lt (by omega);refine Kent Tryz.func140 25 ?_;refine ay<|av (aD 0)<|aC<|Ws<|ay<|av (.slice (some ⟨b,off,none⟩) (6) (6))<|av (au 6)<|Lv aF Ij<|aC<|aK<|Wk<|sN<|ay<|av (.slice (some ⟨b,off,none⟩) (6) (6))<|Lv (pf b off) (dw 1)<|Lv (aD (x 0)) (aL hx 0)<|av (aD (x 0))<|aC<|Ws<|ay<|av (au 1)<|aC<|Wb<|Wo (fun f j => ∃ k:Nat,k<=5/\f 0 = .slice (some ⟨b,off,none⟩) (6) (6)/\f 3=aD (Ox x k)/\f 4=au ((k:Int)+1)/\iU j b off 6 (rv .u64 x)/\Below w.heap.size w j) (fun f _=>(6-(intOf (f 4)).toNat)) ⟨0,by omega,(by rfl),rfl,Fx.ic,hx,(Below.refl w.heap.size w)⟩ ?_;rintro m p ⟨k,n,c,h,a,i,d⟩;refine Ws<|ay<|aU a<|aU c<|av (au 6) ?_;by_cases g:((k:Int)+1)<6
 ·refine Lv aG (gM g)<|aC<|aM<|Wk<|sN<|Ws<|Wb<|Wl<|aU h<|aU c<|aU a<|Lv (pf b (k+off+1)) (dw 1)<|Lv (aD (x (k+1))) (aL i (k+1))<|Lv (aD (Ox x (k+1))) (Fx.abd rfl rfl rfl)<|av (aD (Ox x (k+1)))<|Ln<|bP<|sN<|Wl<|aU a<|Lv (au ((k:Int)+2)) fA<|av (au ((k:Int)+2))<|Ln<|gW ⟨k+1,by omega,c,rfl,Fx.ic,i,d⟩ ?_;show(6-(intOf (au ((k:Int)+2))).toNat)<_;simp only[a,intOf]; omega
 refine Lv aF (gN g)<|aC<|aK<|Wx<|bX<|gP<|bY<|sN<|ay<|aU h<|av (aD (Ox x k))<|aC<|Wr<|aJ (aD (Ox x k)) ?_;have l:k=5:=by omega
 exact⟨by rw[l],d⟩
theorem Kc{ks:List (Option IntKind)}{x y:Nat->Value}(h:Fx.Kd ks y)(e : ∀ j,j<ks.length->x j=y j):Fx.Kd ks x:=fun i a=>by rw[e i a]; exact h i a
namespace Rt
theorem Mh{v:EvM}(h:gL v):gL (V6 v):=by
 have z:iY 0:=⟨by decide,by decide⟩;have y:oM 0:=⟨by decide,by decide⟩;exact⟨h.o,h.seq,h.deps,h.kind,z,y,y,z,z⟩
theorem Mi{v:EvM}(h:gL v):gL (rX v):=by
 have z:iY 0:=⟨by decide,by decide⟩;have y:oM 0:=⟨by decide,by decide⟩;unfold rX;split
 ·exact⟨h.o,h.seq,h.deps,h.kind,z,h.dst,y,h.req,h.of⟩
 split
 ·exact⟨h.o,h.seq,h.deps,h.kind,z,h.dst,y,h.req,h.of⟩
 split
 ·exact⟨h.o,h.seq,h.deps,h.kind,z,h.dst,y,z,h.of⟩
 split
 ·exact⟨h.o,h.seq,h.deps,h.kind,h.node,h.dst,h.aT,z,z⟩
 split
 ·exact⟨h.o,h.seq,h.deps,h.kind,z,y,y,h.req,h.of⟩
 split
 ·exact⟨h.o,h.seq,h.deps,h.kind,h.node,y,h.aT,h.req,h.of⟩
 exact h
end Rt
set_option maxHeartbeats 2000000 in
theorem I6(v:EvM)(w:World)(G:gL v) :
 Calls Tryz.prog 90 #[.agg (aA 14 (bM v))] w fun e w'=>e = .returned (.bool (bR v))/\Below w.heap.size w w':=by
 refine Kent Tryz.func90 55 ?_;refine ay<|oz fun g w1 kQ t s1 z1 => ?_;have B:=bf s1.old (Below.refl w.heap.size w);have rF:=gD kQ;have sQ:=t.lt;refine av aF<|aC<|Ws<|Ws ?_;refine nM<|aW (pt g)<|Qv (au v.o) (fun f d=>aL (t.cb d) 0) ?_;by_cases l:(jh v.o)=true
 ·obtain⟨a,ha,ea⟩:=fq l;refine qQ (fun _ _=>Ce v.o _) aG (by rw[l])<|aW aF<|aW aF<|aW (pf g 1)<|Qv (aD v.seq) (fun f d=>aL (t.cb d) 1) ?_;by_cases N:v.seq<1
  ·refine Qv aG (fun f d=>gM N)<|aW aG<|aW aG<|aR<|aR<|aR<|aW aG<|aW aG<|aR<|aR<|aR<|aR<|aR<|aR<|aR<|aR<|aR<|aR<|aW aG<|Qn ?_;intro YL uO;have⟨k,U⟩:=eU uO t B;refine sN<|aM<|ay<|av aF<|aC<|Wr<|sR<|aJ aF ?_;have k:decide (1<=v.seq)=false:=g_ (by omega);exact⟨iD (Eq.symm (by unfold bR; rw[l,k]; try rfl)),U⟩
  refine Qv aF (fun f d=>gN N)<|aW aF<|aW aF<|aW (pf g 1)<|Qv (aD v.seq) (fun f d=>aL (t.cb d) 1) ?_;by_cases O:1099511627776<=v.seq
  ·refine Qv aG (fun f d=>kR O)<|aW aG<|aW aG<|aR<|aR<|aR<|aR<|aR<|aR<|aR<|aR<|aR<|aR<|aW aG<|Qn ?_;intro wb2 yh;have⟨m,V⟩:=eU yh t B;refine sN<|aM<|ay<|av aF<|aC<|Wr<|sR<|aJ aF ?_;have k:decide (1<=v.seq)=true:=f_ (by omega);have m:decide (v.seq<1099511627776)=false:=g_ (by omega);exact⟨iD (Eq.symm (by unfold bR; rw[l,k,m]; try rfl)),V⟩
  refine Qv aF (fun f d=>kJ O)<|aW aF<|aW aF<|aW (pt g)<|Qv (au v.o) (fun f d=>aL (t.cb d) 0)<|Qv (au a) (fun f d=>gQ)<|aW (pf g 2)<|Qv (pf g (a+2)) (fun f d=>jJ 6 1)<|Qv (aD (v.deps a)) (fun f d=>aL (t.cb d) (a+2) (nA _ (by omega) (by omega)))<|aW (pf g 1)<|Qv (aD v.seq) (fun f d=>aL (t.cb d) 1)<|Qv (aD (v.seq-1)) (fun f d=>gQ) ?_;by_cases y:(v.deps a)=(v.seq-1)
  ·refine Qv aF (fun f d=>jG y)<|aW aF<|Qn ?_;intro wb3 yj;have⟨q,W⟩:=eU yj t B;refine sN<|aK<|Wk<|sN<|Ws<|ay<|av (pf g 2)<|Lv (.slice (some ⟨g,2,none⟩) (6) (6)) (Fx.Ov rfl rfl Tryz.underlying35 (s:=1) (by kernel_rfl))<|dH (aiQ v.deps g 2 _ (fun j x=>by have Q:=q.aH (2+j) (by omega); rw[G_]at Q; rw[Q,nA v (p:=2+j) (j:=j) (by omega) x]; rfl)) _ rfl ?_;intro w2 hb1;have⟨r,I⟩:=eU hb1 q W;by_cases A:1099511627776<=(Ox v.deps 5)
   ·refine Lv aG (kR A)<|aC<|aM<|ay<|av aF<|aC<|Wr<|sR<|aJ aF ?_;have k:decide (1<=v.seq)=true:=f_ (by omega);have m:decide (v.seq<1099511627776)=true:=f_ (by omega);have q:decide (v.deps (v.o-1).toNat=v.seq-1)=true:=f_ (by rw[show(v.o-1).toNat=a by omega]; exact y);have r:=aeF A;exact⟨iD (Eq.symm (by unfold bR; rw[l,k,m,q,r]; try rfl)),I⟩
   refine Lv aF (kJ A)<|aC<|aK<|Wk<|sN<|ay<|Lv (.agg (aA 14 (bM v))) (eT r.aH 0)<|av (.agg (aA 14 (bB zQ0 0 14 (bM v))))<|oz fun z w3 P u s6 z2 => ?_;have⟨C,Z⟩:=eU s6.old r I;have pO:=iw P I.size;have LQ:=cu P r.lt;have yu:=u.lt;refine av (pt z)<|aC<|Ws ?_;have L:aP w3 z 14 (bM v) 218:=u.congr (fun j x=>by rcases j with _|_|_|_|_|_|_|_|_|_|_|_|_|_|j <;> first|rfl|omega)
   refine zX [0,1,2,3,4,5,7,9,11,13,6,8,10,12,14,15,16,17,18] [0,3,0,0,0,0,4,0,4,0,4,0,4,0,4,0,0,0,0] (Fx.zF [218]) Fx.zF.refl Fx.zF.trans (fJ := [(2,1,[1]),(3,1,[2,1]),(4,1,[2,1]),(5,1,[2,1]),(7,1,[2,1]),(9,1,[2,1]),(11,1,[2,1]),(13,1,[2,1]),(6,1,[2,1]),(8,1,[2,1]),(10,1,[2,1]),(12,1,[2,1]),(14,1,[2,1]),(15,1,[2,1]),(16,1,[2,1]),(17,1,[2,1]),(18,1,[1])]) (by kernel_rfl) (by kernel_rfl) (by kernel_rfl) (by kernel_rfl) (by kernel_rfl) fun rE dR iK => ?_;have⟨m9,m10,M⟩:=iy dR C L Z;refine aX (pt z)<|gZ<|lD (aeG v z _ m10) ?_;rintro e w4 ⟨b,v',E,R,S,F,hkv⟩;have H:=m9.cZ S (by omega);have J:=S.below M M.size (by omega)
   cases b
   ·refine⟨.bool false,E,?_⟩;clear E;refine Ln<|aX aF<|Rk (by rfl)<|Rk (by rfl)<|Rk (by rfl)<|Rk (by rfl)<|Rk (by rfl)<|Rk (by rfl)<|Rk (by rfl)<|Rk (by rfl)<|Rk (by rfl)<|Rk (by rfl)<|Rk (by rfl)<|Rk (by rfl)<|Rk (by rfl)<|Rk (by rfl)<|aX aF<|aX aF<|bS<|Wr<|aJ aF ?_;have k:decide (1<=v.seq)=true:=f_ (by omega);have m:decide (v.seq<1099511627776)=true:=f_ (by omega);have q:decide (v.deps (v.o-1).toNat=v.seq-1)=true:=f_ (by rw[show(v.o-1).toNat=a by omega]; exact y);have r:=Ka A;have u:pQ v=true->dG v=false:=fun h=>by rw[D7 h,<- F]
    have C:(pQ v&&dG v)=false:=by cases h:pQ v with|false=>rfl|true=>exact u h
    have L:(true&&true&&true&&true&&true&&pQ v&&dG v)=false:=C;exact⟨iD (Eq.symm (by unfold bR; rw[l,k,m,q,r,L]; try rfl)),J⟩
   refine⟨.bool true,E,?_⟩;clear E;rw[hkv rfl]at R;refine Ln<|aX aG<|aX (pt z)<|aX (pt z)<|aX (pt z)<|aX (pt g)<|aX (pf g 1)<|aX (pf g 2)<|aX (pf g 8)<|Rs (.agg (aA 14 (bM (rX v)))) (eT R.aH 0) ?_;refine Rs (au v.o) (aL H.aH 0) ?_;refine Rs (aD v.seq) (aL H.aH 1) ?_;refine Rs (.agg (aA 6 (rv .u64 v.deps))) (eT H.aH 2 (fun j x=>nA _ (by omega) x)) ?_;refine Rs (.int .u8 (v.kind)) (aL H.aH 8) ?_;refine aX (.agg (aA 14 (bB (bB (bB (bB zQ0 0 1 (fun _=>au v.o)) 1 1 (fun _=>aD v.seq)) 2 6 (rv .u64 v.deps)) 8 1 (fun _ => .int .u8 (v.kind))))) ?_;by_cases D : ∀ i,i<14->(bM (rX v)) i=(bB (bB (bB (bB zQ0 0 1 (fun _=>au v.o)) 1 1 (fun _=>aD v.seq)) 2 6 (rv .u64 v.deps)) 8 1 (fun _ => .int .u8 (v.kind))) i
   ·refine Rp aG (fun f=>Fx.uV (n:=14) (ks := [(some .i64),(some .u64),(some .u64),(some .u64),(some .u64),(some .u64),(some .u64),(some .u64),(some .u8),(some .u64),(some .i64),(some .i64),(some .u64),(some .u64)]) (X:=bM (rX v)) (Y:=bB (bB (bB (bB zQ0 0 1 (fun _=>au v.o)) 1 1 (fun _=>aD v.seq)) 2 6 (rv .u64 v.deps)) 8 1 (fun _ => .int .u8 (v.kind))) 12 true rfl rfl rfl (Fx.Ht D) (Ap (Mi G)) (Kc (Ap (Mh G)) (fun j x=>by rcases j with _|_|_|_|_|_|_|_|_|_|_|_|_|_|j <;> first|rfl|exact M_ x (by simp))) rfl (by kernel_rfl) (by kernel_rfl) (by kernel_rfl) (by kernel_rfl) (by kernel_rfl))<|aX aG<|aX aG<|bS<|Wr<|aJ aG ?_
    have k:decide (1<=v.seq)=true:=f_ (by omega);have m:decide (v.seq<1099511627776)=true:=f_ (by omega);have q:decide (v.deps (v.o-1).toNat=v.seq-1)=true:=f_ (by rw[show(v.o-1).toNat=a by omega]; exact y);have r:=Ka A;have u:=(I5 F.symm).1 (fun i K=>(D i K).trans (by rcases i with _|_|_|_|_|_|_|_|_|_|_|_|_|_|i <;> first|rfl|omega))
    have C:=(D7 u).trans F.symm;exact⟨iD (Eq.symm (by unfold bR; rw[l,k,m,q,r,u,C]; try rfl)),J⟩
   refine Rp aF (fun f=>Fx.uV (n:=14) (ks := [(some .i64),(some .u64),(some .u64),(some .u64),(some .u64),(some .u64),(some .u64),(some .u64),(some .u8),(some .u64),(some .i64),(some .i64),(some .u64),(some .u64)]) (X:=bM (rX v)) (Y:=bB (bB (bB (bB zQ0 0 1 (fun _=>au v.o)) 1 1 (fun _=>aD v.seq)) 2 6 (rv .u64 v.deps)) 8 1 (fun _ => .int .u8 (v.kind))) 12 false rfl rfl rfl (Fx.nob D) (Ap (Mi G)) (Kc (Ap (Mh G)) (fun j x=>by rcases j with _|_|_|_|_|_|_|_|_|_|_|_|_|_|j <;> first|rfl|exact M_ x (by simp))) rfl (by kernel_rfl) (by kernel_rfl) (by kernel_rfl) (by kernel_rfl) (by kernel_rfl))<|aX aF<|aX aF<|bS<|Wr<|aJ aF ?_
   have k:decide (1<=v.seq)=true:=f_ (by omega);have m:decide (v.seq<1099511627776)=true:=f_ (by omega);have q:decide (v.deps (v.o-1).toNat=v.seq-1)=true:=f_ (by rw[show(v.o-1).toNat=a by omega]; exact y);have r:=Ka A;have u:pQ v=false:=Bool.eq_false_iff.2 (fun h=>D (fun i K=>((I5 F.symm).2 h i K).trans (by rcases i with _|_|_|_|_|_|_|_|_|_|_|_|_|_|i <;> first|rfl|omega)))
   exact⟨iD (Eq.symm (by unfold bR; rw[l,k,m,q,r,u]; try rfl)),J⟩
  refine Qv aG (fun f d=>mG y)<|aW aG<|Qn ?_;intro wb4 BH;have b9:=bf BH B;refine sN<|aM<|ay<|av aF<|aC<|Wr<|sR<|aJ aF ?_;have k:decide (1<=v.seq)=true:=f_ (by omega);have m:decide (v.seq<1099511627776)=true:=f_ (by omega);have q:decide (v.deps (v.o-1).toNat=v.seq-1)=false:=g_ (by rw[show(v.o-1).toNat=a by omega]; exact y);exact⟨iD (Eq.symm (by unfold bR; rw[l,k,m,q]; try rfl)),b9⟩
 rw[U_]at l;refine qQ (fun _ _=>Ce v.o _) aF (by rw[l])<|aW aG<|aW aG<|aR<|aR<|aR<|aW aG<|aW aG<|aR<|aR<|aR<|aW aG<|aW aG<|aR<|aR<|aR<|aR<|aR<|aR<|aR<|aR<|aR<|aR<|aW aG<|Qn ?_;intro wb5 FJ;have T:=bf FJ B;refine sN<|aM<|ay<|av aF<|aC<|Wr<|sR<|aJ aF ?_;exact⟨iD (Eq.symm (by unfold bR; rw[l]; try rfl)),T⟩
namespace Rt
def vF(a b:Int):Int:=if b>a then b else a
def vx(X:Nat->Nat->Int):Nat->Value:=fun p=>aD (X (p / 6) (p % 6))
theorem Wd(X:Nat->Nat->Int){i p j:Nat}(a:p=6*i)(b:j<6):vx X (p+j)=rv .u64 (X i) j:=by
 subst a;show Value.int .u64 (X ((6*i+j) / 6) ((6*i+j) % 6))=aD (X i j);rw[show(6*i+j) / 6=i by omega,show(6*i+j) % 6=j by omega]
def Ar(c:Int->Int->Int)(X:Nat->Nat->Int):Nat->Nat->Int
 | 0=>X 0
 | k+1=>fun p=>c (Ar c X k p) (X (k+1) p)
def Qp(c:Int->Int->Int)(X:Nat->Nat->Int):Nat->Nat->Int
 | 0=>fun _=>0
 | k+1=>Ar c X k
def Vcs(w:World)(a:Option Addr)(n cap:Nat)(X:Nat->Nat->Int):Prop:=0<n->n<=cap /\ ∃ b c,a=some ⟨b,c,none⟩/\iU w b c (6*n) (vx X)
def ze(x:Nat->Int)(k:Nat):Nat->Int:=fun p=>if p<k then x p else 0
theorem Oy(x:Nat->Int)(k:Nat):upd (ze x k) k (x k)=ze x (k+1):=by
 funext p; unfold upd ze
 by_cases h:p=k
 ·subst h; rw[d_ rfl,d_ (by omega)]
 rw[b_ h];by_cases a:p<k
 ·rw[d_ a,d_ (by omega)]
 rw[b_ a,b_ (by omega)]
theorem R9(x:Nat->Int):aA 6 (rv .u64 (ze x 6))=aA 6 (rv .u64 x):=Fx.dZ fun p a=>L_ (Value.int .u64) (by unfold ze; rw[d_ a])
end Rt
theorem aiR(a b:Int)(w:World) :
 Calls Tryz.prog 119 #[aD a,aD b] w fun e w'=>e = .returned (aD (vF a b))/\w'=w:=by
 refine Kent Tryz.func119 8 ?_;refine ay<|av (aD 0)<|aC<|ay<|av (aD a)<|av (aD b)<|Lv (aD (vF a b)) (Fx.abd rfl rfl rfl)<|av (aD (vF a b))<|aC<|Wr<|aJ (aD (vF a b)) ?_;exact⟨rfl,rfl⟩
theorem Wh(x y:Nat->Int)(gc go c q:Nat)(w:World)(k:q<6)(i:aP w gc 1 (fun _ => .func (.func 119) #[] #[]) 198)(d:aP w go 6 (rv .u64 x) 35)(j:aP w c 6 (rv .u64 y) 35) :
 Calls Tryz.prog 155 #[au (q:Int),(pt gc),(pt go),(pt c)] w fun e w'=>e = .returned (aD (vF (x q) (y q)))/\Below w.heap.size w w':=by
 refine Kent Tryz.func155 14 ?_;refine ay<|av (aD 0)<|aC<|Ws ?_;refine nM<|Qv (.func (.func 119) #[] #[]) (fun b a=>aL (i.cb a) 0)<|aW (au q)<|Qv (pf go q) (fun b a=>jJ 6 1)<|Qv (aD (x q)) (fun b a=>aL (d.cb a) q)<|aW (au q)<|Qv (pf c q) (fun b a=>jJ 6 1)<|Qv (aD (y q)) (fun b a=>aL (j.cb a) q)<|EH (v:=aD (vF (x q) (y q))) (by rfl) (fun b a=>Fx.Ai (args := [aD (x q),aD (y q)]) rfl rfl rfl (all := #[aD (x q),aD (y q)]) rfl Tryz.func119 rfl rfl) rfl (fun b a=>(aiR (x q) (y q) _).mono fun e v2 h=>⟨h.1,by rw[h.2]; exact a⟩) ?_;refine aW (aD (vF (x q) (y q)))<|Qn ?_;intro m g;have⟨l,f⟩:=eU g d (Below.refl w.heap.size w);refine sN<|Wr<|aJ (aD (vF (x q) (y q))) ?_;exact⟨rfl,f⟩
theorem OA(x y:Nat->Int)(gc go b:Nat)(w:World)(v:aP w gc 1 (fun _ => .func (.func 119) #[] #[]) 198)(A:aP w go 6 (rv .u64 x) 35)(B:aP w b 6 (rv .u64 y) 35) :
 Calls Tryz.prog 153 #[.func (.func 155) #[] #[(pt gc),(pt go),(pt b)]] w fun e w'=>e = .returned (.agg (aA 6 (rv .u64 (fun p=>vF (x p) (y p)))))/\Below w.heap.size w w':=by
 refine Kent Tryz.func153 14 ?_;refine ay<|Bv (m:=6) (y:=rv .u64 (fun _=>0)) (by rfl) rfl (by kernel_rfl) rfl fun a Z t C Y z1 => ?_;have⟨S,V,W,D⟩:=jN Y.old v A B (Below.refl w.heap.size w);have rF:=gD t;have⟨ny,P7,yB⟩:=AJ t v.lt A.lt B.lt;have sQ:=C.lt;refine aC<|Ws<|ay<|av (au 0)<|aC<|Wb ?_;have X:aP Z a 6 (rv .u64 (ze (fun p=>vF (x p) (y p)) 0)) 35:=C;refine Wo (fun f g => ∃ k:Nat,k<=6/\f 0 = .func (.func 155) #[] #[(pt gc),(pt go),(pt b)]/\f 2=(pt a)/\f 4=au (k:Int)/\aP g gc 1 (fun _ => .func (.func 119) #[] #[]) 198/\aP g go 6 (rv .u64 x) 35/\aP g b 6 (rv .u64 y) 35/\aP g a 6 (rv .u64 (ze (fun p=>vF (x p) (y p)) k)) 35/\Below w.heap.size w g) (fun f _=>(6-(intOf (f 4)).toNat)) ⟨0,by omega,(by rfl),(by rfl),Fx.ic,S,V,W,X,D⟩ ?_;rintro f1 w2 ⟨k,hk,u,c,d,l,n,o,q,j⟩;refine ay ?_;by_cases s:(k:Int)<6
 ·refine Lv aG (gM s (hx:=d))<|aC<|Ws<|aM<|Wk<|sN<|Ws<|Wb<|ay<|aU d<|av (au k)<|aC<|Wl<|av (au k)<|aU u<|av (au k)<|zx (by rfl) (Fx.Ai (args := [au (k:Int)]) rfl rfl rfl (all := #[au (k:Int),(pt gc),(pt go),(pt b)]) rfl Tryz.func155 rfl rfl) rfl<|(Wh x y gc go b k _ (by omega) l n o).mono ?_;rintro e w3 ⟨z,H⟩;refine⟨aD (vF (x k) (y k)),by rw[z],?_⟩;clear z;have⟨I,J,K,L,r⟩:=nN H l n o q j;refine Lv (pf a k) (jJ 6 1 (hx:=c))<|ji L k (aD (vF (x k) (y k))) fun w4 M h z2 => ?_;have N:aP w4 a 6 (rv .u64 (upd (ze (fun p=>vF (x p) (y p)) k) k (vF (x k) (y k)))) 35:=M.to (Fx.zA _ _ _ _);have O:=I.cZ h (by omega);have P:=J.cZ h (by omega);have Q:=K.cZ h (by omega);have E:=h.below r r.size (by omega);refine Ln<|bP<|sN<|Wl<|Lv (au ((k:Int)+1)) (fA (hx:=d))<|av (au ((k:Int)+1))<|Ln ?_;have R:=N.to (L_ (rv .u64) (Oy (fun p=>vF (x p) (y p)) k));refine gW ⟨k+1,by omega,u,c,Fx.ic,O,P,Q,R,E⟩ ?_;show(6-(intOf (au ((k:Int)+1))).toNat)<_;simp only[d,intOf]; omega
 refine Lv aF (gN s (hx:=d))<|aC<|Ws<|aK<|Wx<|bX<|gP<|bY<|sN<|ay<|Lv (.agg (aA 6 (rv .u64 (ze (fun p=>vF (x p) (y p)) k)))) (eT q.aH 0 (ha:=c))<|dU q 0 (ha:=c) fun w5 T i z3 => ?_;have U:aP w5 a 6 (rv .u64 (ze (fun p=>vF (x p) (y p)) k)) 35:=aQ T;have m22:=l.cZ i (by omega);have m23:=n.cZ i (by omega);have m24:=o.cZ i (by omega);have F:=i.below j j.size (by omega);refine aC (Wr (⟨.agg (aA 6 (rv .u64 (ze (fun p=>vF (x p) (y p)) k))),rV Tryz.results153 ⟨_,c,aS U.aH (by kernel_rfl) (by kernel_rfl)⟩,?_⟩));have G:k=6:=by omega
 exact⟨by rw[G,R9],F⟩
namespace Rt
def V2(x y:Nat->Int):Nat->Nat->Int
 | 0=>x
 | 1=>y
 | _=>fun _=>0
end Rt
theorem Mj(a:Option Addr)(cap:Nat)(w:World) :
 Calls Tryz.prog 118 #[.slice a (0) (cap),.func (.func 119) #[] #[]] w fun e w'=>e = .returned (.agg (aA 6 (rv .u64 (fun _=>0))))/\Below w.heap.size w w':=by
 refine Kent Tryz.func118 26 ?_;refine ay<|vU (.func (.func 119) #[] #[]) fun t C j b p E => ?_;have c:=bf p.old (Below.refl w.heap.size w);have u:=gD j;have A:=b.lt;refine qR 6 (rv .u64 (fun _=>0)) fun k D f g q F => ?_;have⟨l,d⟩:=eU q.old b c;have v:=iw f c.size;have z:=cu f b.lt;have B:=g.lt;refine aC<|Ws<|ay<|av (.slice a (0) (cap))<|av (au 0)<|Lv aG (eH rfl)<|aC<|aM<|ay<|Lv (.agg (aA 6 (rv .u64 (fun _=>0)))) (Fx.Fv (vs := []) (s:=1) (m:=6) (x:=rv .u64 (fun _=>0)) rfl rfl Tryz.underlying35 (by kernel_rfl) (by kernel_rfl) (by rfl))<|dU g 0 fun r n h G => ?_;have o:aP r k 6 (rv .u64 (fun _=>0)) 35:=aQ n;have y:=l.cZ h (by omega);have i:=h.below d d.size (by omega);refine aC (Wr (sR (⟨.agg (aA 6 (rv .u64 (fun _=>0))),rV Tryz.results118 ⟨_,rfl,aS o.aH (by kernel_rfl) (by kernel_rfl)⟩,?_⟩)));exact⟨rfl,i⟩
theorem Ml(b off m cap:Nat)(X:Nat->Nat->Int)(w:World)(hcap:m+1<=cap)(hm:m<=1000000)(hx:iU w b off (6*(m+1)) (vx X)) :
 Calls Tryz.prog 118 #[.slice (some ⟨b,off,none⟩) (m+1) (cap),.func (.func 119) #[] #[]] w fun e w'=>e = .returned (.agg (aA 6 (rv .u64 (Ar vF X m))))/\Below w.heap.size w w':=by
 have lb:=hx.lt (by omega);refine Kent Tryz.func118 26 ?_;refine ay<|vU (.func (.func 119) #[] #[]) fun c w1 Q F s1 z1 => ?_;have⟨T,K⟩:=eU s1.old hx (Below.refl w.heap.size w);have rF:=gD Q;have ny:b≠c:=by rw[Q]; exact u_ (hx.lt (by omega))
 have sQ:=F.lt;refine qR 6 (rv .u64 (fun _=>0)) fun r w2 z I s2 z2 => ?_;have⟨J,Z,L⟩:=iy s2.old T F K;have pO:=iw z K.size;have aiS:b≠r:=by rw[z]; exact u_ (T.lt (by omega))
 have IK:=cu z F.lt;have yu:=I.lt;refine aC<|Ws<|ay<|av (.slice (some ⟨b,off,none⟩) (m+1) (cap))<|av (au ((m+1:Nat):Int))<|Lv aF ahl<|aC<|aK<|Wk<|sN<|ay<|av (.slice (some ⟨b,off,none⟩) (m+1) (cap))<|Lv (pf b off) (dw 6)<|Lv (.agg (aA 6 (rv .u64 (X 0)))) (eT J 0 (fun j E=>Wd _ (i:=0) (p:=0) (by omega) E))<|qR 6 (rv .u64 (fun _=>0)) fun a w3 A m6 s3 z3 => ?_;have⟨m7,m8,m9,M⟩:=jN s3.old J Z I L;have Bp:=iw A L.size;have auw:b≠a:=by rw[A]; exact u_ (J.lt (by omega))
 have⟨Wi,Wj⟩:=sF A Z.lt I.lt;have Hg:=m6.lt;refine dU m6 0 fun w4 m10 x z4 => ?_;have m11:aP w4 a 6 (rv .u64 (X 0)) 35:=aQ m10;have m12:=m7.cZ x (by omega);have m13:=m8.cZ x (by omega);have m14:=m9.cZ x (by omega);have b4:=x.below M M.size (by omega);refine aC<|Ws<|ay<|av (.slice (some ⟨b,off,none⟩) (m+1) (cap))<|Lv (.slice (if cap=1 then some ⟨b,off,none⟩else some ⟨b,off+6,none⟩) (m) (cap-1)) (Fx.Az (j:=1) (b:=b) (off:=off) (len:=m+1) (cap:=cap) (s:=6) rfl rfl rfl Tryz.underlying196 (by kernel_rfl) (by omega) rfl rfl rfl)<|av (au m)<|av (au 0)<|aC<|Wb ?_;have m15:aP w4 a 6 (rv .u64 (Ar vF X 0)) 35:=m11;refine Wo (fun f n => ∃ k:Nat,k<=m/\f 3=(pt c)/\f 4=(pt r)/\f 5=(pt a)/\f 16 = .slice (if cap=1 then some ⟨b,off,none⟩else some ⟨b,off+6,none⟩) (m) (cap-1)/\f 17=au (m:Int)/\f 18=au (k:Int)/\iU n b off (6*(m+1)) (vx X)/\aP n c 1 (fun _ => .func (.func 119) #[] #[]) 198/\aP n r 6 (rv .u64 (fun _=>0)) 35/\aP n a 6 (rv .u64 (Ar vF X k)) 35/\Below w.heap.size w n) (fun f _=>(m-(intOf (f 18)).toNat)) ⟨0,by omega,(by rfl),(by rfl),(by rfl),(by rfl),Fx.ic,Fx.ic,m12,m13,m14,m15,b4⟩ ?_;rintro f1 w5 ⟨k,hk,R,C,t,S,D,g,u,G,H,v,o⟩;refine ay ?_;by_cases P:(k:Int)<(m:Int)
 ·refine Lv aG (gM P (hx:=g) (hy:=D))<|aC<|Ws<|aM<|Wk<|sN<|Ws<|Wb<|ay<|Lv (pf b (6*k+off+6)) (dw 6 (hx:=(S.trans (L_ (fun q=>Value.slice q (m) (cap-1)) (b_ (by omega))))) (hi:=g))<|Lv (.agg (aA 6 (rv .u64 (X (k+1))))) (eT u (6*k+6) (fun j E=>Wd _ (i:=k+1) (p:=6*k+6) (by omega) E))<|qR 6 (rv .u64 (fun _=>0)) fun d w6 B U s5 z5 => ?_;have⟨m21,m22,m23,m24,N⟩:=nN s5.old u G H v o;have Og:=iw B o.size;have aeH:b≠d:=by rw[B]; exact u_ (u.lt (by omega))
  have⟨apS,apT,apU⟩:=AJ B G.lt H.lt v.lt;have Oh:=U.lt;refine dU U 0 fun w7 mZ h z6 => ?_;have V:aP w7 d 6 (rv .u64 (X (k+1))) 35:=aQ mZ;have nH:=m21.cZ h (by omega);have W:=m22.cZ h (by omega);have oh:=m23.cZ h (by omega);have Y:=m24.cZ h (by omega);have b7:=h.below N N.size (by omega);refine aC<|Wl<|Lv (.func (.func 155) #[] #[(pt c),(pt a),(pt d)]) (Fx.lJ (us := []) (vs := [(pt c),(pt a),(pt d)]) rfl rfl (Fx.Pm R t rfl))<|dH (OA (Ar vF X k) (X (k+1)) c a d _ W Y V) _ rfl ?_;intro w8 hb1;have⟨lI,m32,pE,nR,pF,O⟩:=oJ hb1 nH W oh Y V b7;refine dU nR 0 (ha:=t) fun w9 nS l z7 => ?_;have qW:aP w9 a 6 (rv .u64 (fun p=>vF ((Ar vF X k) p) ((X (k+1)) p))) 35:=aQ nS;have qB:=lI.cZ l (by omega);have pK:=m32.cZ l (by omega);have sS:=pE.cZ l (by omega);have mh:=pF.cZ l (by omega);have b9:=l.below O O.size (by omega);refine Ln<|bP<|sN<|Wl<|Lv (au ((k:Int)+1)) (fA (hx:=g))<|av (au ((k:Int)+1))<|Ln<|gW ⟨k+1,by omega,R,C,t,S,(D.trans Fx.ic),Fx.ic,qB,pK,sS,qW,b9⟩ ?_;show(m-(intOf (au ((k:Int)+1))).toNat)<_;simp only[g,intOf]; omega
 refine Lv aF (gN P (hx:=g) (hy:=D))<|aC<|Ws<|aK<|Wx<|bX<|gP<|bY<|sN<|ay<|Lv (.agg (aA 6 (rv .u64 (Ar vF X k)))) (eT v.aH 0 (ha:=t))<|dU H 0 (ha:=C) fun pJ lM y z8 => ?_;have mH:aP pJ r 6 (rv .u64 (Ar vF X k)) 35:=aQ lM;have qg:=u.cZ y (by omega);have qh:=G.cZ y (by omega);have om:=v.cZ y (by omega);have b10:=y.below o o.size (by omega);refine aC (Wr (⟨.agg (aA 6 (rv .u64 (Ar vF X k))),rV Tryz.results118 ⟨_,C,aS mH.aH (by kernel_rfl) (by kernel_rfl)⟩,?_⟩));have ek:k=m:=by omega
 exact⟨by rw[ek],b10⟩
theorem OB(a:Option Addr)(n cap:Nat)(X:Nat->Nat->Int)(w:World)(g:n<=1000000)(h:Vcs w a n cap X) :
 Calls Tryz.prog 118 #[.slice a n cap,.func (.func 119) #[] #[]] w fun e w'=>e = .returned (.agg (aA 6 (rv .u64 (Qp vF X n))))/\Below w.heap.size w w':=by
 cases n with
 | zero=>exact Mj a cap w
 | succ m=>obtain⟨c,b,f,rfl,d⟩:=h (by omega); exact Ml b f m cap X w c (by omega) d
theorem aeI{w w':World}{a:Option Addr}{n cap:Nat}{X:Nat->Nat->Int}(h:Vcs w a n cap X)(f:Below w.heap.size w w'):Vcs w' a n cap X:=fun d=>by
 obtain⟨g,b,i,e,c⟩:=h d;exact⟨g,b,i,e,c.below f (c.lt (by omega))⟩
theorem aeJ(a:Option Addr)(n cap:Nat)(X:Nat->Nat->Int)(w:World)(k:n<=1000000)(h:Vcs w a n cap X) :
 Calls Tryz.prog 68 #[.slice a (n) (cap)] w fun e w'=>e = .returned (.agg (aA 6 (rv .u64 (Qp vF X n))))/\Below w.heap.size w w':=by
 refine Kent Tryz.func68 5 ?_;refine ay<|Bv (m:=6) (y:=rv .u64 (fun _=>0)) (by rfl) rfl (by kernel_rfl) rfl fun i v g d q z => ?_;have b:=bf q.old (Below.refl w.heap.size w);have t:=gD g;have u:=d.lt;refine aC<|ay<|av (.slice a (n) (cap))<|dH (OB a n cap X _ k (aeI h b)) _ rfl ?_;intro x j;have⟨l,c⟩:=eU j d b;refine dU l 0 fun s o r A => ?_;have p:aP s i 6 (rv .u64 (Qp vF X n)) 35:=aQ o;have f:=r.below c c.size (by omega);refine aC (Wr (⟨.agg (aA 6 (rv .u64 (Qp vF X n))),rV Tryz.results68 ⟨_,rfl,aS p.aH (by kernel_rfl) (by kernel_rfl)⟩,?_⟩));exact⟨rfl,f⟩
namespace Rt
theorem aiT(x y:Nat->Int):bB (bB (fun j=>rv .u64 (fun _=>0) (j % 6)) (0*6) 6 (rv .u64 x)) (1*6) 6 (rv .u64 y)=vx (V2 x y):=by
 funext p
 unfold bB;by_cases b:1*6<=p/\p<1*6+6
 ·rw[d_ b];show _=Value.int .u64 (V2 x y (p / 6) (p % 6));rw[show p / 6=1 by omega,show p-1*6=p % 6 by omega]; rfl
 rw[b_ b];by_cases a:0*6<=p/\p<0*6+6
 ·rw[d_ a];show _=Value.int .u64 (V2 x y (p / 6) (p % 6));rw[show p / 6=0 by omega,show p-0*6=p % 6 by omega]; rfl
 rw[b_ a];show _=Value.int .u64 (V2 x y (p / 6) (p % 6));obtain⟨q,c⟩ : ∃ q,p / 6=q+2:=⟨p / 6-2,by omega⟩;rw[c]; rfl
end Rt
namespace Rt
def hasB(K:Nat->Int)(o a:Int):Bool:=jh o&&decide (0<a)&&decide (a<=K (o-1).toNat)
theorem I7{a b:Nat->Int}:yT a b=true <-> ∀ i,i<6->rv .u64 (fun p=>vF (a p) (b p)) i=rv .u64 b i:=by
 unfold yT;rw[List.all_eq_true];have e : ∀ i,rv .u64 (fun p=>vF (a p) (b p)) i=rv .u64 b i<->a i<=b i:=fun i=>by
  show Value.int .u64 (vF (a i) (b i))=aD (b i)<->_;simp only[Value.int.injEq,true_and]; unfold vF; split <;> omega
 constructor
 ·intro h i c; have:=h i (O_.2 c); rw[e]; exact h_ this
 intro h i c; have:=h i (O_.1 c); rw[e]at this; exact f_ this
def Kr(K:Nat->Int):Prop := ∀ i,i<6->iY (K i)
theorem Kr.kd{K:Nat->Int}(h:Kr K):Fx.Kd (List.replicate 6 (some .u64)) (rv .u64 K):=Fx.Ie fun i a=>Fx.qA (h i a)
theorem Kr.mx{K L:Nat->Int}(h:Kr K)(b:Kr L):Kr (fun p=>vF (K p) (L p)):=fun i a=>by
 have c:=h i a; have d:=b i a; show iY (vF (K i) (L i)); unfold vF; split <;> assumption
end Rt
theorem ZE{w:World}{g:Nat}{T:TypeId}{x:Nat->Value}(D K:Nat->Int)(h:aP w g (2*6) x T)(e:x=vx (V2 D K)) :
 Calls Tryz.prog 68 #[bK g 2 2] w fun e w'=>e = .returned (.agg (aA 6 (rv .u64 fun p=>vF (D p) (K p))))/\Below w.heap.size w w' :=
 aeJ (some ⟨g,0,none⟩) 2 2 (V2 D K) w (by omega) (fun _=>⟨A_ _,g,0,rfl,(h.to e).aH⟩)
theorem Ke(n:Int)(w:World) :
 Calls Tryz.prog 77 #[au n] w fun e w'=>e = .returned (.bool (jh n))/\w'=w:=by
 refine Kent Tryz.func77 9 ?_;refine ay<|av aF<|aC<|ay<|av (au n) ?_;by_cases a:1<=n
 ·refine Lv aG (kR a)<|av aG<|av (au n) ?_;by_cases b:n<=6
  ·refine Lv aG (nL b)<|av aG<|av aG<|aC<|Wr<|aJ aG ?_;exact⟨iD (by simp only[jh]; first|(symm; simp; omega)|(symm; simp; done)),rfl⟩
  refine Lv aF (ow b)<|av aF<|av aF<|aC<|Wr<|aJ aF ?_;exact⟨iD (by simp only[jh]; first|(symm; simp; omega)|(symm; simp; done)),rfl⟩
 refine Lv aF (kJ a)<|av aF<|bO<|bO<|av aF<|av aF<|aC<|Wr<|aJ aF ?_;exact⟨iD (by simp only[jh]; first|(symm; simp; omega)|(symm; simp; done)),rfl⟩
theorem abK(K:Nat->Int)(o q:Int)(w:World) :
 Calls Tryz.prog 142 #[.agg (aA 6 (rv .u64 K)),au o,aD q] w fun e w'=>e = .returned (.bool (hasB K o q))/\Below w.heap.size w w':=by
 refine Kent Tryz.func142 21 ?_;refine ay<|oz fun k s j i l t => ?_;have f:=bf l.old (Below.refl w.heap.size w);have p:=gD j;have r:=i.lt;refine av aF<|aC<|ay<|av (au o) ?_;by_cases b:(jh o)=true
 ·obtain⟨a,n,m⟩:=fq b;refine lH (Ke o _) aG (by rw[b])<|av aG<|av (aD q) ?_;by_cases c:0<q
  ·refine Lv aG (ni c)<|av aG<|av aG<|av (au o)<|Lv (au a) gQ<|Lv (pf k a) (jJ 6 1)<|Lv (aD (K a)) (aL i.aH a)<|av (aD q) ?_;by_cases g:q<=(K a)
   ·refine Lv aG (kR g)<|av aG<|av aG<|aC<|Wr<|aJ aG ?_;have d:decide (0<q)=true:=f_ c;have h:decide (q<=K (o-1).toNat)=true:=f_ (by rw[show(o-1).toNat=a by omega]; exact g);exact⟨iD (Eq.symm (by unfold hasB; rw[b,d,h]; try rfl)),f⟩
   refine Lv aF (kJ g)<|av aF<|av aF<|aC<|Wr<|aJ aF ?_;have d:decide (0<q)=true:=f_ c;have h:decide (q<=K (o-1).toNat)=false:=g_ (by rw[show(o-1).toNat=a by omega]; exact g);exact⟨iD (Eq.symm (by unfold hasB; rw[b,d,h]; try rfl)),f⟩
  refine Lv aF (nk c)<|av aF<|av aF<|bO<|bO<|bO<|bO<|bO<|bO<|av aF<|av aF<|aC<|Wr<|aJ aF ?_;have d:decide (0<q)=false:=g_ c;exact⟨iD (Eq.symm (by unfold hasB; rw[b,d]; try rfl)),f⟩
 rw[U_]at b;refine lH (Ke o _) aF (by rw[b])<|av aF<|bO<|bO<|av aF<|av aF<|bO<|bO<|bO<|bO<|bO<|bO<|av aF<|av aF<|aC<|Wr<|aJ aF ?_;exact⟨iD (Eq.symm (by unfold hasB; rw[b]; try rfl)),f⟩
theorem Wm(D K:Nat->Int)(w:World)(o:Kr D)(b:Kr K) :
 Calls Tryz.prog 143 #[.agg (aA 6 (rv .u64 D)),.agg (aA 6 (rv .u64 K))] w fun e w'=>e = .returned (.bool (yT D K))/\Below w.heap.size w w':=by
 refine Kent Tryz.func143 11 ?_;refine ay<|oz fun M w1 E d I z1 => ?_;have f:=bf I.old (Below.refl w.heap.size w);have Q:=gD E;have W:=d.lt;refine oz fun N w2 l r J z2 => ?_;have⟨H,B⟩:=eU J.old d f;have R:=iw l f.size;have T:=cu l d.lt;have Z:=r.lt;refine av aF<|aC<|Ws ?_;refine kH [0,1,4,2,3,5,6] [4,4,2,2,1,0,0] [(2,0,[0]),(3,0,[2,0]),(2,1,[1]),(3,1,[2,1]),(3,2,[2]),(5,2,[3,2]),(6,2,[2]),(5,3,[3]),(6,3,[3])] fun rE F P => ?_;have⟨t,c,g⟩:=iy F H r B;refine Rs (.agg (aA 6 (rv .u64 D))) (eT t.aH 0) ?_;refine Rs (.agg (aA 6 (rv .u64 K))) (eT c.aH 0) ?_;refine Rd (v := .agg (aA 6 (rv .u64 K))) (by rfl) (by rfl) (uG _) (fun A G=>dQ (x:=rv .u64 K) (y:=rv .u64 K) rfl rfl (by kernel_rfl) (by kernel_rfl) (c.aH.below G (by have:=c.lt; omega)) (i:=0) (by omega) (by omega) (fun j _=>by rw[G_])) ?_;refine zD<|wV (vs := [(0,.agg (aA 6 (rv .u64 D))),(1,.agg (aA 6 (rv .u64 K)))]) (s:=6) (zc:=rv .u64 (fun _=>0)) (y:=bB (bB (fun j=>(rv .u64 (fun _=>0)) (j % 6)) (0*6) 6 (rv .u64 D)) (1*6) 6 (rv .u64 K)) (by rfl) rfl rfl Tryz.underlying196 (by kernel_rfl) (by rfl) (by rfl) (by kernel_rfl) (by rw[aZ (off:=0*6) (s:=6) (y:=rv .u64 D) rfl (bE _ _) (by rfl)]; rw[aZ (off:=1*6) (s:=6) (y:=rv .u64 K) rfl (bE _ _) (by rfl)]; rfl) rfl fun O w3 m u z z3 => ?_;have C:=bf z.old g;have S:=iw m g.size;have⟨U,V⟩:=sF m t.lt c.lt;have aa:=u.lt;refine Ln ⟨z.old,?_⟩;refine zD<|dH (ZE D K u (aiT D K)) _ rfl ?_;intro w4 q;have L:=Sb q;have k:=bf q C;refine Ln ⟨L.old,?_⟩;by_cases a : ∀ i,i<6->(rv .u64 (fun p=>vF (D p) (K p))) i=(rv .u64 K) i
 ·refine Rp aG (fun A=>Fx.uV (n:=6) (ks:=List.replicate 6 (some .u64)) (X:=rv .u64 (fun p=>vF (D p) (K p))) (Y:=rv .u64 K) 12 true rfl rfl rfl (Fx.Ht a) (o.mx b).kd b.kd rfl (by kernel_rfl) (by kernel_rfl) (by kernel_rfl) (by kernel_rfl) (by kernel_rfl))<|aX aG<|bS<|Wr<|aJ aG ?_;exact⟨iD (Eq.symm (I7.2 a)),k⟩
 refine Rp aF (fun A=>Fx.uV (n:=6) (ks:=List.replicate 6 (some .u64)) (X:=rv .u64 (fun p=>vF (D p) (K p))) (Y:=rv .u64 K) 12 false rfl rfl rfl (Fx.nob a) (o.mx b).kd b.kd rfl (by kernel_rfl) (by kernel_rfl) (by kernel_rfl) (by kernel_rfl) (by kernel_rfl))<|aX aF<|bS<|Wr<|aJ aF ?_;exact⟨iD (Eq.symm (Bool.eq_false_iff.2 (fun h=>a (I7.1 h)))),k⟩
theorem Rt.Mq{K:Nat->Int}{v:EvM}(h:bR v=true):lQ K v=hasB K v.o v.seq:=by
 have a:=jg h; have b:=(EN h).1;unfold lQ hasB; rw[h,a,show decide (0<v.seq)=true from f_ (by omega)]; rfl
theorem Wn(K:Nat->Int)(v:EvM)(w:World)(k:gL v) :
 Calls Tryz.prog 91 #[.agg (aA 6 (rv .u64 K)),.agg (aA 14 (bM v))] w fun e w'=>e = .returned (.bool (lQ K v))/\Below w.heap.size w w':=by
 refine Kent Tryz.func91 15 ?_;refine ay<|oz fun B H q c z O => ?_;have f:=bf z.old (Below.refl w.heap.size w);have C:=gD q;have F:=c.lt;refine oz fun j I i d A P => ?_;have⟨x,g⟩:=eU A.old c f;have D:=iw i f.size;have E:=cu i c.lt;have G:=d.lt;refine av aF<|aC<|ay<|Lv (.agg (aA 14 (bM v))) (eT d.aH 0) ?_;by_cases a:(bR v)=true
 ·refine dH (I6 v _ k) aG (by rw[a]) ?_;intro J r;have⟨y,l,h⟩:=iy r x d g;refine av aG<|Lv (.agg (aA 6 (rv .u64 K))) (eT y.aH 0)<|av (pt j)<|Lv (au v.o) (aL l.aH 0)<|av (pf j 1)<|Lv (aD v.seq) (aL l.aH 1) ?_;by_cases b:(hasB K v.o v.seq)=true
  ·refine dH (abK K v.o v.seq _) aG (by rw[b]) ?_;intro L s;have m:=bf s h;refine av aG<|av aG<|aC<|Wr<|aJ aG ?_;exact⟨iD (Eq.symm ((Mq a).trans b)),m⟩
  rw[U_]at b;refine dH (abK K v.o v.seq _) aF (by rw[b]) ?_;intro M t;have n:=bf t h;refine av aF<|av aF<|aC<|Wr<|aJ aF ?_;exact⟨iD (Eq.symm ((Mq a).trans b)),n⟩
 rw[U_]at a;refine dH (I6 v _ k) aF (by rw[a]) ?_;intro N u;have p:=bf u g;refine av aF<|bO<|bO<|bO<|bO<|bO<|bO<|av aF<|av aF<|aC<|Wr<|aJ aF ?_;exact⟨iD (Eq.symm (by unfold lQ; rw[a]; rfl)),p⟩
theorem Qq(K:Nat->Int)(v:EvM)(w:World)(i:gL v)(q:Kr K) :
 Calls Tryz.prog 92 #[.agg (aA 6 (rv .u64 K)),.agg (aA 14 (bM v))] w fun e w'=>e = .returned (.bool (dJ K v))/\Below w.heap.size w w':=by
 refine Kent Tryz.func92 24 ?_;refine ay<|oz fun z Q y l F W => ?_;have m:=bf F.old (Below.refl w.heap.size w);have L:=gD y;have O:=l.lt;refine oz fun k R p c G X => ?_;have⟨r,h⟩:=eU G.old l m;have M:=iw p m.size;have N:=cu p l.lt;have P:=c.lt;refine av aF<|aC<|Ws ?_;refine nM<|Qv (.agg (aA 14 (bM v))) (fun d b=>eT (c.cb b) 0) ?_;by_cases f:(bR v)=true
 ·obtain⟨a,I,H⟩:=fq (jg f);have J:=EN f;refine zY (fun _ _=>I6 v _ i) aG (by rw[f])<|aW aG<|aW (pt k)<|Qv (au v.o) (fun d b=>aL (c.cb b) 0)<|Qv (au a) (fun d b=>gQ)<|Qv (pf z a) (fun d b=>jJ 6 1)<|Qv (aD (K a)) (fun d b=>aL (r.cb b) a)<|aW (pf k 1)<|Qv (aD v.seq) (fun d b=>aL (c.cb b) 1)<|Qv (aD (v.seq-1)) (fun d b=>gQ) ?_;by_cases n:(K a)=(v.seq-1)
  ·refine Qv aG (fun d b=>eH n)<|aW aG<|aW aG<|aW (pf k 2)<|Qv (.agg (aA 6 (rv .u64 v.deps))) (fun d b=>eT (c.cb b) 2 (fun j E=>nA _ (by omega) E))<|Qv (.agg (aA 6 (rv .u64 K))) (fun d b=>eT (r.cb b) 0) ?_;by_cases g:(yT v.deps K)=true
   ·refine zY (fun _ _=>Wm v.deps K _ i.deps q) aG (by rw[g])<|aW aG<|aW aG<|Qn ?_;intro S A;have s:=bf A h;refine sN<|Wr<|aJ aG ?_;have c:decide (v.seq=K (v.o-1).toNat+1)=true:=f_ (by rw[show(v.o-1).toNat=a by omega]; omega);exact⟨iD (Eq.symm (by unfold dJ; rw[f,c,g]; try rfl)),s⟩
   rw[U_]at g;refine zY (fun _ _=>Wm v.deps K _ i.deps q) aF (by rw[g])<|aW aF<|aW aF<|Qn ?_;intro T B;have t:=bf B h;refine sN<|Wr<|aJ aF ?_;have c:decide (v.seq=K (v.o-1).toNat+1)=true:=f_ (by rw[show(v.o-1).toNat=a by omega]; omega);exact⟨iD (Eq.symm (by unfold dJ; rw[f,c,g]; try rfl)),t⟩
  refine Qv aF (fun d b=>fC n)<|aW aF<|aW aF<|aR<|aR<|aR<|aR<|aW aF<|aW aF<|Qn ?_;intro U C;have u:=bf C h;refine sN<|Wr<|aJ aF ?_;have c:decide (v.seq=K (v.o-1).toNat+1)=false:=g_ (by rw[show(v.o-1).toNat=a by omega]; omega);exact⟨iD (Eq.symm (by unfold dJ; rw[f,c]; try rfl)),u⟩
 rw[U_]at f;refine zY (fun _ _=>I6 v _ i) aF (by rw[f])<|aW aF<|aR<|aR<|aR<|aR<|aR<|aR<|aR<|aR<|aR<|aW aF<|aW aF<|aR<|aR<|aR<|aR<|aW aF<|aW aF<|Qn ?_;intro V D;have x:=bf D h;refine sN<|Wr<|aJ aF ?_;exact⟨iD (Eq.symm (by unfold dJ; rw[f]; try rfl)),x⟩
namespace Rt
def jR(m:dN)(v:EvM):Int:=if m.T.has v.node=false then 9 else if 140737488355328<m.R (m.idx v.node) (aN v)+v.aT then 6 else 0
def Di(m:dN)(k:Int)(r:Nat->Int):dN := { m with R:=aO m.R (m.idx k) r }
def vG(m:dN)(v:EvM):dN:=Di m v.node (upd (m.R (m.idx v.node)) (aN v) (m.R (m.idx v.node) (aN v)+v.aT))
def uq(m:dN)(v:EvM):(Nat->Int) × Int:=dn (m.R (m.idx v.node)) v.o v.dst v.aT
def kY(m:dN)(v:EvM):Int:=if m.T.has v.node=false then 9 else if m.inn (v.dst-1).toNat=false then 10 else(uq m v).2
def D8(m:dN)(v:EvM):dN:=Di m v.node (uq m v).1
def I8(m:dN)(v:EvM):dN := { m with inn:=aI m.inn (v.dst-1).toNat true }
def Dj(m:dN)(v:EvM):dN := { m with left:=aI m.left (aN v) true }
theorem EZ{R:Nat->Nat->Int}{j:Nat}{r:Nat->Int} : ∀ n x w b,Mp w b n x (aO (xR R) j (.agg (aA 54 (rv .i64 r))))->Mp w b n x (xR (aO R j r)):=fun n x w b h=>h.vX fun i _=>⟨rfl,by unfold xR aO; split <;> rfl⟩
end Rt
theorem H8:Fx.xk Tryz.prog 117:=⟨by kernel_rfl,by kernel_rfl,by kernel_rfl⟩
theorem Wp(m:dN)(lp B:Nat)(w:World)(h:mM w B lp m)(v:EvM)(Y:bR v=true)(b:Nat)(D:b<6)(X:v.dst=(b:Int)+1)(i:Nat)(f:Nat)(l:aP w i 1 (fun _=>(pt lp)) 28)(k:aP w f 14 (bM v) 37) :
 Calls Tryz.prog 228 #[(pt i),(pt f)] w fun e w'=>e = .returned (.tuple #[])/\mM w' B lp (I8 m v)/\jM (Gn m lp) w w':=by
 have x:=h.c;have C:=h.t;have z:=h.p;have A:=h.r;have y:=h.g;have u:=h.a;have d:=h.ne;have lC:=h.c.lt;have lT:=h.t.lt;have lP:=h.p.lt;have lR:=h.r.lt;have lG:=h.g.lt;have lA:=h.a.lt;have YI:=l.lt;have lge:=k.lt;have E:(v.dst-1).toNat=b:=by omega
 refine Kent Tryz.func228 9 ?_;refine kH [1,0,4,5,2,3,6,7] [4,0,4,0,0,0,0,3] [(7,0,[0]),(7,2,[2])] fun W j Z => ?_;have U:Stp w.heap.size w W:=Sb j;have⟨n,M,N,O,P,Q,R,S⟩:=nO j x C z A y u l k;have q:=(uW (Gn m lp) w).then U (.inr (uW (Gn m lp) w).size);refine aX (pf f 10)<|Rs (pt lp) (aL R.aH 0) ?_;refine aX (pt lp)<|aX (pt lp)<|Rs (au v.dst) (aL S.aH 10) ?_;refine Rp (au b) (fun _=>gQ)<|Rp (pf lp b) (fun _=>jJ 6 1)<|gZ<|ji n b aG fun V T o z1 => ?_;have G:aP V lp 29 (wJ { m with inn:=aI m.inn b true }) 114:=T.to (VY D _);have F:=gH o n.ty;have⟨H,I,J,K,L⟩:=rD F M N O P Q;have s:=q.then o (.inl (.inl rfl));refine Ln (Rn (⟨.tuple #[],iJ Tryz.results228,?_⟩));unfold I8; rw[E];exact⟨rfl,{ c:=G,t:=H,p:=I,r:=J,g:=K,a:=L,ne:=⟨d.mp,d.mr,d.mg,d.ma,d.pr,d.pg,d.pa,d.rg,d.ra,d.ga⟩,lB:=h.lB,pB:=h.pB,rB:=h.rB,gB:=h.gB,aB:=h.aB },s⟩
theorem Sc(m:dN)(lp B:Nat)(w:World)(h:mM w B lp m)(v:EvM)(H:bR v=true)(f:Nat)(d:Nat)(l:aP w f 1 (fun _=>(pt lp)) 28)(k:aP w d 14 (bM v) 37) :
 Calls Tryz.prog 229 #[(pt f),(pt d)] w fun e w'=>e = .returned (.tuple #[])/\mM w' B lp (Dj m v)/\jM (Gn m lp) w w':=by
 have y:=h.c;have D:=h.t;have A:=h.p;have C:=h.r;have z:=h.g;have x:=h.a;have b:=h.ne;have lC:=h.c.lt;have lT:=h.t.lt;have lP:=h.p.lt;have lR:=h.r.lt;have lG:=h.g.lt;have lA:=h.a.lt;have YI:=l.lt;have lge:=k.lt;obtain⟨a,E,Z⟩ : ∃ a:Nat,a<6/\v.o=(a:Int)+1:=fq (jg H);have G:aN v=a:=by unfold aN; omega
 refine Kent Tryz.func229 9 ?_;refine kH [1,0,4,5,2,3,6,7] [4,0,4,0,0,0,0,3] [(7,0,[0]),(7,2,[2])] fun Y j aa => ?_;have W:Stp w.heap.size w Y:=Sb j;have⟨n,O,P,Q,R,S,T,U⟩:=nO j y D A C z x l k;have s:=(uW (Gn m lp) w).then W (.inr (uW (Gn m lp) w).size);refine aX (pt d)<|Rs (pt lp) (aL T.aH 0) ?_;refine aX (pt lp)<|aX (pf lp 6)<|Rs (au v.o) (aL U.aH 0) ?_;refine Rp (au a) (fun _=>gQ)<|Rp (pf lp (a+6)) (fun _=>jJ 6 1)<|gZ<|ji n (a+6) aG fun X V q z1 => ?_;have I:aP X lp 29 (wJ { m with left:=aI m.left a true }) 114:=V.to (VZ (i:=a) E (by omega) _);have F:=gH q n.ty;have⟨J,K,L,M,N⟩:=rD F O P Q R S;have u:=s.then q (.inl (.inl rfl));refine Ln (Rn (⟨.tuple #[],iJ Tryz.results229,?_⟩));unfold Dj; rw[G];exact⟨rfl,{ c:=I,t:=J,p:=K,r:=L,g:=M,a:=N,ne:=⟨b.mp,b.mr,b.mg,b.ma,b.pr,b.pg,b.pa,b.rg,b.ra,b.ga⟩,lB:=h.lB,pB:=h.pB,rB:=h.rB,gB:=h.gB,aB:=h.aB },u⟩
theorem Sd(m:dN)(lp B:Nat)(w:World)(h:mM w B lp m)(v:EvM)(hv:bR v=true)(P:m.T.has v.node=true)(r:Nat->Int)(k:Nat)(j:Nat)(f:Nat)(hr:aP w k 54 (rv .i64 (r)) 82)(s:aP w j 1 (fun _=>(pt lp)) 28)(o:aP w f 14 (bM v) 37) :
 Calls Tryz.prog 218 #[(pt k),(pt j),(pt f)] w fun e w'=>e = .returned (.tuple #[])/\mM w' B lp (Di m v.node r)/\jM (Gn m lp) w w':=by
 have J:=h.c;have O:=h.t;have M:=h.p;have N:=h.r;have K:=h.g;have I:=h.a;have b:=h.ne;have lC:=h.c.lt;have lT:=h.t.lt;have lP:=h.p.lt;have lR:=h.r.lt;have lG:=h.g.lt;have lA:=h.a.lt;have lgr:=hr.lt;have YI:=s.lt;have lge:=o.lt;obtain⟨u,q,i⟩:=iA P;have H:m.idx v.node=u:=nI h.t.inv.inj q i;refine Kent Tryz.func218 10 ?_;refine kH [4,0,1,2,3,5,6,7] [4,0,0,4,0,4,4,3] [(7,0,[0]),(7,3,[3]),(7,5,[5]),(7,6,[6])] fun rE l iK => ?_;have s1:Stp w.heap.size w rE:=Sb l;have⟨y,Z,m3,z,m5,m6,A,C,D⟩:=Cw l J O M N K I hr s o;have F:=(uW (Gn m lp) w).then s1 (.inr (uW (Gn m lp) w).size);refine aX (pf f 9)<|Rs (pt lp) (aL C.aH 0) ?_;refine aX (pt lp)<|aX (pf lp 20)<|Rs (.map (some m.rb)) (aL y.aH 20) ?_;refine Rs (aD v.node) (aL D.aH 9) ?_;refine Rs (.agg (aA 54 (rv .i64 (r)))) (eT A.aH 0) ?_;refine gZ<|Fx.L.acS (by rfl) rfl rfl rfl rfl rfl z Tryz.underlying109 Tryz.underlying23 q i fun w1 Q E z1 => ?_;have d:=z.Cy E;have S:=y.eB d;have U:=Z.eB d (b.mr);have V:=m3.eB d (b.pr);have W:=m5.eB d (Ne.symm b.rg);have X:=m6.eB d (Ne.symm b.ra);have m16:=A.eB d;have m17:=C.eB d;have m18:=D.eB d;have G:=F.then E (.inl (.inr (.inr (.inr (.inl rfl)))));have Y:Mp w1 m.rb m.T.n m.T.x (xR (aO m.R u (r))):=EZ _ _ _ _ Q;refine Ln (Rn (⟨.tuple #[],iJ Tryz.results218,?_⟩));unfold Di; rw[H];exact⟨rfl,{ c:=S,t:=U,p:=V,r:=Y,g:=W,a:=X,ne:=⟨b.mp,b.mr,b.mg,b.ma,b.pr,b.pg,b.pa,b.rg,b.ra,b.ga⟩,lB:=h.lB,pB:=h.pB,rB:=h.rB,gB:=h.gB,aB:=h.aB },G⟩
theorem Wq(m:dN)(lp B:Nat)(w:World)(h:mM w B lp m)(v:EvM)(hv:bR v=true)(P:m.T.has v.node=true)(r:Nat->Int)(k:Nat)(j:Nat)(f:Nat)(hr:aP w k 54 (rv .i64 (r)) 82)(s:aP w j 1 (fun _=>(pt lp)) 28)(o:aP w f 14 (bM v) 37) :
 Calls Tryz.prog 227 #[(pt k),(pt j),(pt f)] w fun e w'=>e = .returned (.tuple #[])/\mM w' B lp (Di m v.node r)/\jM (Gn m lp) w w':=by
 have J:=h.c;have O:=h.t;have M:=h.p;have N:=h.r;have K:=h.g;have I:=h.a;have b:=h.ne;have lC:=h.c.lt;have lT:=h.t.lt;have lP:=h.p.lt;have lR:=h.r.lt;have lG:=h.g.lt;have lA:=h.a.lt;have lgr:=hr.lt;have YI:=s.lt;have lge:=o.lt;obtain⟨u,q,i⟩:=iA P;have H:m.idx v.node=u:=nI h.t.inv.inj q i;refine Kent Tryz.func227 10 ?_;refine kH [4,0,1,2,3,5,6,7] [4,0,0,4,0,4,4,3] [(7,0,[0]),(7,3,[3]),(7,5,[5]),(7,6,[6])] fun rE l iK => ?_;have s1:Stp w.heap.size w rE:=Sb l;have⟨y,Z,m3,z,m5,m6,A,C,D⟩:=Cw l J O M N K I hr s o;have F:=(uW (Gn m lp) w).then s1 (.inr (uW (Gn m lp) w).size);refine aX (pf f 9)<|Rs (pt lp) (aL C.aH 0) ?_;refine aX (pt lp)<|aX (pf lp 20)<|Rs (.map (some m.rb)) (aL y.aH 20) ?_;refine Rs (aD v.node) (aL D.aH 9) ?_;refine Rs (.agg (aA 54 (rv .i64 (r)))) (eT A.aH 0) ?_;refine gZ<|Fx.L.acS (by rfl) rfl rfl rfl rfl rfl z Tryz.underlying109 Tryz.underlying23 q i fun w1 Q E z1 => ?_;have d:=z.Cy E;have S:=y.eB d;have U:=Z.eB d (b.mr);have V:=m3.eB d (b.pr);have W:=m5.eB d (Ne.symm b.rg);have X:=m6.eB d (Ne.symm b.ra);have m16:=A.eB d;have m17:=C.eB d;have m18:=D.eB d;have G:=F.then E (.inl (.inr (.inr (.inr (.inl rfl)))));have Y:Mp w1 m.rb m.T.n m.T.x (xR (aO m.R u (r))):=EZ _ _ _ _ Q;refine Ln (Rn (⟨.tuple #[],iJ Tryz.results227,?_⟩));unfold Di; rw[H];exact⟨rfl,{ c:=S,t:=U,p:=V,r:=Y,g:=W,a:=X,ne:=⟨b.mp,b.mr,b.mg,b.ma,b.pr,b.pg,b.pa,b.rg,b.ra,b.ga⟩,lB:=h.lB,pB:=h.pB,rB:=h.rB,gB:=h.gB,aB:=h.aB },G⟩
namespace Rt
theorem Qr{v:EvM}(h:bR v=true)(c:v.kind=5) : ∃ b:Nat,b<6/\v.dst=(b:Int)+1:=by
 unfold bR at h;simp only[T_]at h;have a:=h.2;unfold dG at a;rw[b_ (by omega),b_ (by omega),b_ (by omega),b_ (by omega),d_ c]at a;unfold lN at a;simp only[T_]at a;exact fq a.2.1
end Rt
theorem aeK(x:Nat->Int)(i j n:Int)(w:World)(hi:1<=i/\i<=6)(a:1<=j/\j<=6) :
 Calls Tryz.prog 226 #[.agg (aA 54 (rv .i64 x)),au i,au j,au n] w fun e w'=>e = .returned (.tuple #[.agg (aA 54 (rv .i64 (dn x i j n).1)),au (dn x i j n).2])/\Below w.heap.size w w' :=
 Vf x i j n w (by omega) (by omega)
theorem aeL(x:Nat->Int)(i n:Int)(w:World)(hi:1<=i/\i<=6) :
 Calls Tryz.prog 221 #[.agg (aA 54 (rv .i64 x)),au i,au n] w fun e w'=>e = .returned (.tuple #[.agg (aA 54 (rv .i64 (bG x i n).1)),au (bG x i n).2])/\Below w.heap.size w w' :=
 Va x i n w (by omega)
theorem aeM(x:Nat->Int)(i n:Int)(w:World)(hi:1<=i/\i<=6) :
 Calls Tryz.prog 224 #[.agg (aA 54 (rv .i64 x)),au i,au n] w fun e w'=>e = .returned (.tuple #[.agg (aA 54 (rv .i64 (bH x i n).1)),au (bH x i n).2])/\Below w.heap.size w w' :=
 Ve x i n w (by omega)
theorem Wu(m:dN)(lp B:Nat)(w:World)(h:mM w B lp m)(v:EvM)(N:bR v=true)(hkd:v.kind=2)(hRb : ∀ i,i<m.T.n -> ∀ p,p<54->0<=m.R i p/\m.R i p<=1125899906842624) :
 Calls Tryz.prog 208 #[(pt lp),.agg (aA 14 (bM v))] w fun e w'=>S9 w B lp m (vG m v) (jR m v) e w':=by
 have hC:=h.c;have hT:=h.t;have hP:=h.p;have hR:=h.r;have hG:=h.g;have hA:=h.a;have hN:=h.ne;have lC:=h.c.lt;have lT:=h.t.lt;have lP:=h.p.lt;have lR:=h.r.lt;have lG:=h.g.lt;have lA:=h.a.lt;obtain⟨a,ha,ho⟩ : ∃ a:Nat,a<6/\v.o=(a:Int)+1:=fq (jg N);have M:aN v=a:=by unfold aN; omega
 refine Kent Tryz.func208 39 ?_;refine ay<|vU (pt lp) fun l w1 aa O s1 z1 => ?_;have⟨m2,m4,m5,m6,m7,W⟩:=oJ s1.old hC hP hR hG hA (Below.refl w.heap.size w);have rF:=gD aa;have⟨ny,yB,yA,Cg,Aq⟩:=AL aa hC.lt hP.lt hR.lt hG.lt hA.lt;have sQ:=O.lt;refine oz fun f w2 ab m8 s2 z2 => ?_;have⟨m9,m11,m12,m13,m14,m15,b2⟩:=jT s2.old m2 m4 m5 m6 m7 O W;have pO:=iw ab W.size;have⟨Mr,Gp,Dk,zf,Dl,AV⟩:=JE ab m2.lt m4.lt m5.lt m6.lt m7.lt O.lt;have yu:=m8.lt;refine av (.nilFunc)<|av (au 0)<|aC<|Ws ?_;refine kH [4,0,1,2,3,5,6,7,8,9,10,11,12] [1,0,0,1,0,1,1,0,0,0,2,3,0] [(11,0,[0]),(11,3,[3]),(11,5,[5]),(11,6,[6]),(11,10,[10]),(12,10,[10]),(12,11,[11])] fun rE dR iK => ?_;have⟨E,m18,F,m20,m21,s,u,y⟩:=nO dR m9 m11 m12 m13 m14 m15 m8 b2;refine aX (pf f 9)<|Rd (v:=(pt lp)) (by rfl) (by rfl) (uG _) (fun G j=>bA (x:=fun _=>(pt lp)) rfl rfl (by kernel_rfl) (s.aH.below j (by have:=s.lt; omega)) (i:=0) (by omega) (by omega) rfl) ?_;refine aX (pt lp)<|aX (pf lp 20)<|Rd (v := .map (some m.rb)) (by rfl) (by rfl) (uG _) (fun G j=>bA (x:=wJ m) rfl rfl (by kernel_rfl) (E.aH.below j (by have:=E.lt; omega)) (i:=20) (by omega) (by omega) rfl) ?_;refine Rd (v:=aD v.node) (by rfl) (by rfl) (uG _) (fun G j=>bA (x:=bM v) rfl rfl (by kernel_rfl) (u.aH.below j (by have:=u.lt; omega)) (i:=9) (by omega) (by omega) rfl) ?_
 rcases Fx.tN m.T.x m.T.n v.node with ⟨b,D,J⟩|jL
 ·refine Rd (v := .tuple #[.agg (aA 54 (rv .i64 (m.R b))),.bool true]) (by rfl) (by rfl) (uG _) (fun G j=>Fx.FC (z := .agg (aA 54 (rv .i64 (fun _=>0)))) rfl rfl rfl (F.up j) Tryz.underlying109 Tryz.underlying23 (by kernel_rfl) D J rfl) ?_;refine aX (.tuple #[.agg (aA 54 (rv .i64 (m.R b))),.bool true])<|aX (.agg (aA 54 (rv .i64 (m.R b))))<|aX aG<|zD<|qR 54 (rv .i64 (fun _=>0)) fun d w3 ac P s4 z3 => ?_;have⟨lI,m32,X⟩:=iy s4.old s u y;have Bp:=iw ac y.size;have⟨OC,Kg,OD,Wv,Ww,aeN,aeO⟩:=NM ac E.lt m18.lt F.lt m20.lt m21.lt s.lt u.lt;have Hg:=P.lt;refine Ln ⟨s4.old,?_⟩;refine gZ<|dU P 0 fun w4 pE s5 z4 => ?_;have nR:aP w4 d 54 (rv .i64 (m.R b)) 82:=aQ pE;have fV:=gH s5 P.ty;have⟨mh,lM⟩:=Cx fV lI m32;have b5:=s5.below X X.size (by omega);refine Ln<|aX aG<|bS<|Ws<|ay<|av aG<|av aF<|aC<|aK<|Wk<|sN<|Ws<|Ws ?_;have K:m.idx v.node=b:=nI h.t.inv.inj D J;have q:m.T.has v.node=true:=jU D J;have q1:=hRb b D a (by omega);have q2:=lV N (.inl hkd);refine kH [0,3,6,9,1,2,4,5,7,8,10,11] [0,4,0,0,0,4,0,4,0,0,0,3] [(11,1,[1]),(11,5,[5]),(11,7,[7])] fun CJ gJ nZ => ?_;have⟨uD,Q,S,Y⟩:=jN gJ mh lM nR b5;refine aX (pt f)<|aX (pt d)<|aX (pf f 11)<|aX (pt d)<|Rs (au v.o) (aL Q.aH 0) ?_;refine Rp (au a) (fun _=>gQ)<|Rp (pf d a) (fun _=>jJ 6 1)<|Rs (au ((m.R b) a)) (aL S.aH a) ?_;refine Rs (au v.aT) (aL Q.aH 11) ?_;refine Rp (au (((m.R b) a)+v.aT)) (fun _=>fA)<|Rp (pf d a) (fun _=>jJ 6 1)<|gZ<|ji S a (au (((m.R b) a)+v.aT)) fun w5 uZ s7 z5 => ?_;have U:aP w5 d 54 (rv .i64 (upd (m.R b) a (((m.R b) a)+v.aT))) 82:=uZ.to (Fx.zA _ _ _ _);have jr:=gH s7 S.ty;have⟨rG,V⟩:=Cx jr uD Q;have H:=s7.below Y Y.size (by omega);refine Ln<|bS<|ay<|av (pt f)<|Lv (au v.o) (aL V.aH 0)<|Lv (au a) gQ<|av (pt d)<|Lv (pf d a) (jJ 6 1)<|Lv (au ((upd (m.R b) a (((m.R b) a)+v.aT)) a)) (aL U.aH a) ?_;by_cases A:140737488355328<((upd (m.R b) a (((m.R b) a)+v.aT)) a)
  ·refine Lv aG (ni A)<|aC<|aM<|ay<|av (.nilFunc)<|av (au 6)<|aC<|Wr<|sR<|aJ (.tuple #[.nilFunc,au 6]) ?_;have k:jR m v=6:=(by unfold jR; rw[b_ (by rw[q]; decide)]; exact d_ (by rw[K,M]; simpa [upd] using A));exact⟨⟨.nilFunc,0,#[],by rw[k],rfl,fun I=>M_ (k.symm.trans I) (by first|decide|omega|assumption)⟩,H⟩
  refine Lv aF (nk A)<|aC<|aK<|Wk<|sN<|ay<|Lv (.func (.func 218) #[] #[(pt d),(pt l),(pt f)]) (Fx.lJ (us := []) (vs := [(pt d),(pt l),(pt f)]) rfl rfl rfl)<|av (.func (.func 218) #[] #[(pt d),(pt l),(pt f)])<|av (au 0)<|aC<|Wr<|aJ (.tuple #[.func (.func 218) #[] #[(pt d),(pt l),(pt f)],au 0]) ?_;have em:vG m v=Di m v.node (upd (m.R b) a (m.R b a+v.aT)):=by unfold vG; rw[K,M]
  rw[em];have k:jR m v=0:=by unfold jR; rw[b_ (by rw[q]; decide)]; exact b_ (by rw[K,M]; simpa [upd] using A)
  exact⟨⟨_,218,#[(pt d),(pt l),(pt f)],by rw[k],rfl,fun _=>⟨rfl,⟨_,_,Tryz.func218,rfl,rfl⟩,fun w2 C=>(Sd m lp B w2 ((h.up H).up C) v N q _ _ _ _ (U.cZ (Sb C) (u_ U.lt)) (rG.cZ (Sb C) (u_ rG.lt)) (V.cZ (Sb C) (u_ V.lt))).mono fun _ _ L=>⟨L.1,L.2.1,L.2.2.mono fun _ q => .inl q⟩⟩⟩,H⟩
 refine Rd (v := .tuple #[.agg (aA 54 (rv .i64 (fun _=>0))),.bool false]) (by rfl) (by rfl) (uG _) (fun G j=>Fx.FB (z := .agg (aA 54 (rv .i64 (fun _=>0)))) rfl rfl rfl (F.up j) Tryz.underlying109 Tryz.underlying23 (by kernel_rfl) jL) ?_;refine aX (.tuple #[.agg (aA 54 (rv .i64 (fun _=>0))),.bool false])<|aX (.agg (aA 54 (rv .i64 (fun _=>0))))<|aX aF<|zD<|qR 54 (rv .i64 (fun _=>0)) fun g4 w6 ad pz s8 z6 => ?_;have Z:=bf s8.old y;have Og:=iw ad y.size;have⟨apV,apW,aeP,aeQ,aeR,aeS,aeT⟩:=NM ad E.lt m18.lt F.lt m20.lt m21.lt s.lt u.lt;have Oh:=pz.lt;refine Ln ⟨s8.old,?_⟩;refine gZ<|dU pz 0 fun w7 uP s9 z7 => ?_;have vN:aP w7 g4 54 (rv .i64 (fun _=>0)) 82:=aQ uP;have b9:=s9.below Z Z.size (by omega);refine Ln<|aX aF<|bS<|Ws<|ay<|av aF<|av aG<|aC<|aM<|ay<|av (.nilFunc)<|av (au 9)<|aC<|Wr<|sR<|aJ (.tuple #[.nilFunc,au 9]) ?_;have k:jR m v=9:=by unfold jR; exact d_ (zG jL)
 exact⟨⟨.nilFunc,0,#[],by rw[k],rfl,fun I=>M_ (k.symm.trans I) (by first|decide|omega|assumption)⟩,b9⟩
theorem ZF(m:dN)(lp B:Nat)(w:World)(h:mM w B lp m)(v:EvM)(Q:bR v=true)(hkd:v.kind=5) :
 Calls Tryz.prog 211 #[(pt lp),.agg (aA 14 (bM v))] w fun e w'=>S9 w B lp m (D8 m v) (kY m v) e w':=by
 have hC:=h.c;have hT:=h.t;have hP:=h.p;have hR:=h.r;have hG:=h.g;have hA:=h.a;have hN:=h.ne;have lC:=h.c.lt;have lT:=h.t.lt;have lP:=h.p.lt;have lR:=h.r.lt;have lG:=h.g.lt;have lA:=h.a.lt;obtain⟨a,ha,ho⟩ : ∃ a:Nat,a<6/\v.o=(a:Int)+1:=fq (jg Q);have hra:aN v=a:=by unfold aN; omega
 obtain⟨b,hb,hd⟩:=Qr Q hkd;have N:(v.dst-1).toNat=b:=by omega
 refine Kent Tryz.func211 47 ?_;refine ay<|vU (pt lp) fun y w1 aa S s1 z1 => ?_;have⟨m2,m4,m5,m6,m7,V⟩:=oJ s1.old hC hP hR hG hA (Below.refl w.heap.size w);have rF:=gD aa;have⟨ny,yB,yA,Cg,Aq⟩:=AL aa hC.lt hP.lt hR.lt hG.lt hA.lt;have sQ:=S.lt;refine oz fun f w2 ab m8 s2 z2 => ?_;have⟨m9,m11,m12,m13,m14,m15,b2⟩:=jT s2.old m2 m4 m5 m6 m7 S V;have pO:=iw ab V.size;have⟨Mr,Gp,Dk,zf,Dl,AV⟩:=JE ab m2.lt m4.lt m5.lt m6.lt m7.lt S.lt;have yu:=m8.lt;refine av (.nilFunc)<|av (au 0)<|aC<|Ws ?_;refine kH [4,0,1,2,3,5,6,7,8,9,10,11,12] [1,0,0,1,0,1,1,0,0,0,2,3,0] [(11,0,[0]),(11,3,[3]),(11,5,[5]),(11,6,[6]),(11,10,[10]),(12,10,[10]),(12,11,[11])] fun rE dR iK => ?_;have⟨A,m18,I,m20,m21,C,D,F⟩:=nO dR m9 m11 m12 m13 m14 m15 m8 b2;refine aX (pf f 9)<|Rd (v:=(pt lp)) (by rfl) (by rfl) (uG _) (fun J k=>bA (x:=fun _=>(pt lp)) rfl rfl (by kernel_rfl) (C.aH.below k (by have:=C.lt; omega)) (i:=0) (by omega) (by omega) rfl) ?_;refine aX (pt lp)<|aX (pf lp 20)<|Rd (v := .map (some m.rb)) (by rfl) (by rfl) (uG _) (fun J k=>bA (x:=wJ m) rfl rfl (by kernel_rfl) (A.aH.below k (by have:=A.lt; omega)) (i:=20) (by omega) (by omega) rfl) ?_;refine Rd (v:=aD v.node) (by rfl) (by rfl) (uG _) (fun J k=>bA (x:=bM v) rfl rfl (by kernel_rfl) (D.aH.below k (by have:=D.lt; omega)) (i:=9) (by omega) (by omega) rfl) ?_
 rcases Fx.tN m.T.x m.T.n v.node with ⟨d,P,M⟩|jL
 ·refine Rd (v := .tuple #[.agg (aA 54 (rv .i64 (m.R d))),.bool true]) (by rfl) (by rfl) (uG _) (fun J k=>Fx.FC (z := .agg (aA 54 (rv .i64 (fun _=>0)))) rfl rfl rfl (I.up k) Tryz.underlying109 Tryz.underlying23 (by kernel_rfl) P M rfl) ?_;refine aX (.tuple #[.agg (aA 54 (rv .i64 (m.R d))),.bool true])<|aX (.agg (aA 54 (rv .i64 (m.R d))))<|aX aG<|zD<|qR 54 (rv .i64 (fun _=>0)) fun l w3 ac U s4 z3 => ?_;have⟨mZ,lI,m32,W⟩:=jN s4.old A C D F;have Bp:=iw ac F.size;have⟨OC,Kg,OD,Wv,Ww,aeN,aeO⟩:=NM ac A.lt m18.lt I.lt m20.lt m21.lt C.lt D.lt;have Hg:=U.lt;refine Ln ⟨s4.old,?_⟩;refine gZ<|dU U 0 fun w4 pE s5 z4 => ?_;have nR:aP w4 l 54 (rv .i64 (m.R d)) 82:=aQ pE;have fV:=gH s5 U.ty;have⟨pF,mh,lM⟩:=zZ fV mZ lI m32;have b5:=s5.below W W.size (by omega);refine Ln<|aX aG<|bS<|Ws<|Wb<|ay<|av aG<|av aF<|av aF<|aC<|aK<|Ws ?_;have ex:m.idx v.node=d:=nI h.t.inv.inj P M;have s:m.T.has v.node=true:=jU P M;refine kH [1,0,4,5,2,3,6,7,8,9] [4,0,4,0,0,0,0,4,0,0] [] fun CJ gJ nZ => ?_;have⟨mH,uD,E,vJ,X⟩:=nN gJ pF mh lM nR b5;refine aX (pf f 10)<|Rs (pt lp) (aL uD.aH 0) ?_;refine aX (pt lp)<|aX (pt lp)<|Rs (au v.dst) (aL E.aH 10) ?_;refine Rp (au b) (fun _=>gQ)<|Rp (pf lp b) (fun _=>jJ 6 1) ?_;by_cases q:(m.inn b)=true
  ·refine Rs aG (aL mH.aH b ((Dh (by omega)).trans (L_ Value.bool q))) ?_;refine aX aF<|aX aF<|bS<|aK<|Wk<|bP<|sN<|ay<|Lv (.agg (aA 54 (rv .i64 (m.R d)))) (eT vJ.aH 0)<|av (pt f)<|Lv (au v.o) (aL E.aH 0)<|av (pf f 10)<|Lv (au v.dst) (aL E.aH 10)<|av (pf f 11)<|Lv (au v.aT) (aL E.aH 11)<|dH (aeK (m.R d) v.o v.dst v.aT _ (by omega) (by omega)) _ rfl ?_;intro w5 hb1;have⟨uF,yD,rG,Y⟩:=jN hb1 uD E vJ X;refine av (.tuple #[.agg (aA 54 (rv .i64 ((dn (m.R d) v.o v.dst v.aT).1))),au ((dn (m.R d) v.o v.dst v.aT).2)])<|av (.agg (aA 54 (rv .i64 ((dn (m.R d) v.o v.dst v.aT).1))))<|av (au ((dn (m.R d) v.o v.dst v.aT).2))<|dU rG 0 fun w6 vK s8 z5 => ?_;have pz:aP w6 l 54 (rv .i64 ((dn (m.R d) v.o v.dst v.aT).1)) 82:=aQ vK;have jr:=gH s8 rG.ty;have⟨tV,vM⟩:=Cx jr uF yD;have K:=s8.below Y Y.size (by omega);refine av (au ((dn (m.R d) v.o v.dst v.aT).2))<|aC<|Ws<|ay<|av (au ((dn (m.R d) v.o v.dst v.aT).2)) ?_;by_cases L:((dn (m.R d) v.o v.dst v.aT).2)=0
   ·refine Lv aF (jG L)<|aC<|aK<|Wk<|sN<|ay<|Lv (.func (.func 227) #[] #[(pt l),(pt y),(pt f)]) (Fx.lJ (us := []) (vs := [(pt l),(pt y),(pt f)]) rfl rfl rfl)<|av (.func (.func 227) #[] #[(pt l),(pt y),(pt f)])<|av (au 0)<|aC<|Wr<|aJ (.tuple #[.func (.func 227) #[] #[(pt l),(pt y),(pt f)],au 0]) ?_;have G:uq m v=dn (m.R d) v.o v.dst v.aT:=(by unfold uq; rw[ex]);show S9 w B lp m (Di m v.node (uq m v).1) _ _ _;rw[G];have j:kY m v=0:=(by unfold kY; rw[b_ (by rw[s]; decide),b_ (by rw[N,q]; decide),G]; exact L);exact⟨⟨_,227,#[(pt l),(pt y),(pt f)],by rw[j],rfl,fun _=>⟨rfl,⟨_,_,Tryz.func227,rfl,rfl⟩,fun w2 H=>(Wq m lp B w2 ((h.up K).up H) v Q s _ _ _ _ (pz.cZ (Sb H) (u_ pz.lt)) (tV.cZ (Sb H) (u_ tV.lt)) (vM.cZ (Sb H) (u_ vM.lt))).mono fun _ _ O=>⟨O.1,O.2.1,O.2.2.mono fun _ s => .inl s⟩⟩⟩,K⟩
   refine Lv aG (mG L)<|aC<|aM<|ay<|av (au ((dn (m.R d) v.o v.dst v.aT).2))<|av (.nilFunc)<|av (au ((dn (m.R d) v.o v.dst v.aT).2))<|aC<|Wr<|sR<|aJ (.tuple #[.nilFunc,au ((dn (m.R d) v.o v.dst v.aT).2)]) ?_;have G:uq m v=dn (m.R d) v.o v.dst v.aT:=(by unfold uq; rw[ex]);have j:kY m v=(dn (m.R d) v.o v.dst v.aT).2:=(by unfold kY; rw[b_ (by rw[s]; decide),b_ (by rw[N,q]; decide),G]);exact⟨⟨.nilFunc,0,#[],by rw[j],rfl,fun u=>M_ (j.symm.trans u) (by first|decide|omega|assumption)⟩,K⟩
  rw[U_]at q;refine Rs aF (aL mH.aH b ((Dh (by omega)).trans (L_ Value.bool q))) ?_;refine aX aG<|aX aG<|bS<|aM<|ay<|av (.nilFunc)<|av (au 10)<|aC<|Wr<|bL<|sR<|aJ (.tuple #[.nilFunc,au 10]) ?_;have j:kY m v=10:=by unfold kY; rw[b_ (by rw[s]; decide)]; exact d_ (by rw[N]; exact q)
  exact⟨⟨.nilFunc,0,#[],by rw[j],rfl,fun u=>M_ (j.symm.trans u) (by first|decide|omega|assumption)⟩,X⟩
 refine Rd (v := .tuple #[.agg (aA 54 (rv .i64 (fun _=>0))),.bool false]) (by rfl) (by rfl) (uG _) (fun J k=>Fx.FB (z := .agg (aA 54 (rv .i64 (fun _=>0)))) rfl rfl rfl (I.up k) Tryz.underlying109 Tryz.underlying23 (by kernel_rfl) jL) ?_;refine aX (.tuple #[.agg (aA 54 (rv .i64 (fun _=>0))),.bool false])<|aX (.agg (aA 54 (rv .i64 (fun _=>0))))<|aX aF<|zD<|qR 54 (rv .i64 (fun _=>0)) fun g4 w7 ad uP s9 z6 => ?_;have Z:=bf s9.old F;have Og:=iw ad F.size;have⟨aeU,apX,aeV,apY,aeW,aeX,aeY⟩:=NM ad A.lt m18.lt I.lt m20.lt m21.lt C.lt D.lt;have Oh:=uP.lt;refine Ln ⟨s9.old,?_⟩;refine gZ<|dU uP 0 fun w8 xB s10 z7 => ?_;have xC:aP w8 g4 54 (rv .i64 (fun _=>0)) 82:=aQ xB;have b10:=s10.below Z Z.size (by omega);refine Ln<|aX aF<|bS<|Ws<|Wb<|ay<|av aF<|av aG<|av aG<|aC<|aM<|ay<|av (.nilFunc)<|av (au 9)<|aC<|Wr<|bL<|sR<|aJ (.tuple #[.nilFunc,au 9]) ?_;have j:kY m v=9:=by unfold kY; exact d_ (zG jL)
 exact⟨⟨.nilFunc,0,#[],by rw[j],rfl,fun u=>M_ (j.symm.trans u) (by first|decide|omega|assumption)⟩,b10⟩
theorem ZG(m:dN)(lp B:Nat)(w:World)(h:mM w B lp m)(v:EvM)(I:bR v=true)(b:Nat)(F:b<6)(G:v.dst=(b:Int)+1) :
 Calls Tryz.prog 212 #[(pt lp),.agg (aA 14 (bM v))] w fun e w'=>S9 w B lp m (I8 m v) (0) e w':=by
 have x:=h.c;have R:=h.t;have z:=h.p;have A:=h.r;have y:=h.g;have u:=h.a;have Q:=h.ne;have T:=h.c.lt;have X:=h.t.lt;have V:=h.p.lt;have W:=h.r.lt;have U:=h.g.lt;have S:=h.a.lt;refine Kent Tryz.func212 7 ?_;refine ay<|vU (pt lp) fun d w1 q k O z1 => ?_;have⟨J,K,L,M,N,n⟩:=oJ O.old x z A y u (Below.refl w.heap.size w);have Y:=gD q;have⟨aa,ab,ac,ad,ae⟩:=AL q x.lt z.lt A.lt y.lt u.lt;have al:=k.lt;refine oz fun f D s l P z2 => ?_;have⟨C,o⟩:=eU P.old k n;have Z:=iw s n.size;have⟨ak,af,ag,ah,ai,aj⟩:=JE s J.lt K.lt L.lt M.lt N.lt k.lt;have am:=l.lt;refine av (.nilFunc)<|av (au 0)<|aC<|ay<|Lv (.func (.func 228) #[] #[(pt d),(pt f)]) (Fx.lJ (us := []) (vs := [(pt d),(pt f)]) rfl rfl rfl)<|av (.func (.func 228) #[] #[(pt d),(pt f)])<|av (au 0)<|aC<|Wr<|aJ (.tuple #[.func (.func 228) #[] #[(pt d),(pt f)],au 0]) ?_;have E:(0:Int)=0:=rfl;exact⟨⟨_,228,#[(pt d),(pt f)],by rw[E],rfl,fun _=>⟨rfl,⟨_,_,Tryz.func228,rfl,rfl⟩,fun D i=>(Wp m lp B D ((h.up o).up i) v I b F G _ _ (C.cZ (Sb i) (u_ C.lt)) (l.cZ (Sb i) (u_ l.lt))).mono fun _ _ j=>⟨j.1,j.2.1,j.2.2.mono fun _ H => .inl H⟩⟩⟩,o⟩
theorem Wy(m:dN)(lp B:Nat)(w:World)(h:mM w B lp m)(v:EvM)(F:bR v=true) :
 Calls Tryz.prog 213 #[(pt lp),.agg (aA 14 (bM v))] w fun e w'=>S9 w B lp m (Dj m v) (0) e w':=by
 have u:=h.c;have O:=h.t;have y:=h.p;have z:=h.r;have x:=h.g;have s:=h.a;have N:=h.ne;have Q:=h.c.lt;have U:=h.t.lt;have S:=h.p.lt;have T:=h.r.lt;have R:=h.g.lt;have P:=h.a.lt;refine Kent Tryz.func213 7 ?_;refine ay<|vU (pt lp) fun b w1 o j L z1 => ?_;have⟨G,H,I,J,K,l⟩:=oJ L.old u y z x s (Below.refl w.heap.size w);have V:=gD o;have⟨X,Y,Z,aa,ab⟩:=AL o u.lt y.lt z.lt x.lt s.lt;have ai:=j.lt;refine oz fun d C q k M z2 => ?_;have⟨A,n⟩:=eU M.old j l;have W:=iw q l.size;have⟨ah,ac,ad,ae,af,ag⟩:=JE q G.lt H.lt I.lt J.lt K.lt j.lt;have aj:=k.lt;refine av (.nilFunc)<|av (au 0)<|aC<|ay<|Lv (.func (.func 229) #[] #[(pt b),(pt d)]) (Fx.lJ (us := []) (vs := [(pt b),(pt d)]) rfl rfl rfl)<|av (.func (.func 229) #[] #[(pt b),(pt d)])<|av (au 0)<|aC<|Wr<|aJ (.tuple #[.func (.func 229) #[] #[(pt b),(pt d)],au 0]) ?_;have D:(0:Int)=0:=rfl;exact⟨⟨_,229,#[(pt b),(pt d)],by rw[D],rfl,fun _=>⟨rfl,⟨_,_,Tryz.func229,rfl,rfl⟩,fun C f=>(Sc m lp B C ((h.up n).up f) v F _ _ (A.cZ (Sb f) (u_ A.lt)) (k.cZ (Sb f) (u_ k.lt))).mono fun _ _ i=>⟨i.1,i.2.1,i.2.2.mono fun _ E => .inl E⟩⟩⟩,n⟩
section
open Rt
theorem apZ(o q:Nat)(w:World)(a:1<=o/\o<=6)(c:1<=q/\q<1099511627776) :
 Calls Tryz.prog 214 #[au (o:Int),aD (q:Int)] w fun e w'=>e = .returned (aD (1099511627776*(o:Int)+(q:Int)))/\w'=w:=by
 refine Kent Tryz.func214 24 ?_;refine ay<|av (aD 0)<|aC<|Ws<|ay<|av (au o)<|Lv aF Ij<|av aF<|av (au o)<|Lv aF yO<|av aF<|av aF<|av (aD q)<|Lv aF Ij<|av aF<|av aF<|av (aD q)<|Lv aF Ik<|av aF<|aC<|aK<|Wk<|sN<|ay<|av (au o)<|Lv (aD o) (dA rfl rfl (by kernel_rfl) Tryz.underlying23 (jS (by omega) rfl))<|Lv (aD (1099511627776*(o:Int))) (Fx.KX (b:=40) rfl rfl rfl (by decide) (jS (by omega) (by omega)))<|av (aD q)<|Lv (aD (1099511627776*(o:Int)+(q:Int))) (Fx.adE rfl rfl rfl (by omega) (by omega))<|av (aD (1099511627776*(o:Int)+(q:Int)))<|aC<|Wr<|aJ (aD (1099511627776*(o:Int)+(q:Int))) ?_;exact⟨rfl,rfl⟩
end
end Go.Proofs.YtcbedgfikejkoaaGreatDoor
namespace Go.Proofs.YtcbedgfikejkoaaGreatDoor
open Go.RowKit Go
namespace Rt
theorem Dm : ∀(n m:Nat) (f:Nat->Nat),(∀ i,i<m->f i<n)->(∀ i j,i<m->j<m->f i=f j->i=j)->m<=n
 | 0,m,f,h1,_=>by
   rcases Nat.eq_zero_or_pos m with h|h
   ·omega
   ·have:=h1 0 h; omega
 | n+1,m,f,h1,h2=>by
   rcases Nat.eq_zero_or_pos m with h|h
   ·omega
   by_cases d : ∃ a,a<m/\f a=n
   ·obtain⟨a,b,e⟩:=d;have:=Dm n (m-1) (fun j=>f (if j=a then m-1 else j)) (fun j o=>by
     have g:=h1 (if j=a then m-1 else j) (by split <;> omega)
     have k:f (if j=a then m-1 else j)≠n:=fun c=>by
      have:=h2 _ a (by split <;> omega) b (c.trans e.symm)
      split at this <;> omega
     show f _<n;omega) (fun i j l p c=>by
     have:=h2 _ _ (by split <;> omega) (by split <;> omega) c
     split at this <;> split at this <;> omega)
    omega
   ·have:=Dm n m f (fun i b=>by
     have:=h1 i b;have:f i≠n:=fun e=>d ⟨i,b,e⟩;omega) h2
    omega
section
variable {T U:dM} {id pa k:Int} {i:Nat}
theorem dM.E5(h:T.err id pa=0):T.add id pa=T.put id pa:=d_ h
theorem dM.aeZ(h : ¬ T.err id pa=0):T.add id pa=T:=b_ h
theorem dM.Au(hi:i<T.n):T.has (T.x i)=true:=jU hi rfl
theorem dM.Ms(h:T.ok)(hi:i<T.n):T.par (T.x i)=T.p i:=BA h.inj hi rfl
theorem dM.step(h:T.ok)(a:T.has k=true):T.path k=k::T.path (T.par k):=by
 have b:jK T.x T.p T.n 3 (T.par k):=h.stop k a;show(if dW T.x T.n k=true then k::jO T.x T.p T.n 3 (T.par k)else [])=_;rw[d_ (show dW T.x T.n k=true from a),<- (JI b (show 3<=4 by omega)).1]; rfl
theorem dM.afa(h:T.ok)(hi:i<T.n):T.path (T.x i)=T.x i::T.path (T.p i):=by rw[dM.step h (dM.Au hi),dM.Ms h hi]
theorem dM.zP:(T.path k).length<=4:=zH
theorem dM.afb(h:T.ok):T.path 0 = []:=Cq.ahu h 4
theorem wu.zero(T:dM):wu dM.zero T:=⟨fun _ h=>(nomatch h),fun _ h=>(nomatch h)⟩
theorem wu.path(b:T.ok)(a:U.ok)(h:wu U T) : ∀(d:Nat) (k:Int),(k=0\/U.has k=true)->jO U.x U.p U.n d k=jO T.x T.p T.n d k
 | 0,_,_=>rfl
 | d+1,k,hk=>by
   rcases hk with rfl|hk
   ·rw[lK (Cq.YJ a),lK (Cq.YJ b)]
   ·unfold jO;have c:dW U.x U.n k=true:=hk;have e:dW T.x T.n k=true:=h.has k hk;have f:iO U.x U.p U.n k=iO T.x T.p T.n k:=h.par k hk;rw[d_ c,d_ e,<- f,wu.path b a h d];exact Cq.up a hk
theorem wu.lt(s:U.ok)(h:wu U T)(hi:i<T.n)(m:U.has (T.x i)=false):U.n<T.n:=by
 have p : ∀ j,∃ q,j<U.n->q<T.n/\T.x q=U.x j:=fun j=>by
  by_cases g:j<U.n
  ·obtain⟨q,c,d⟩:=iA (h.has _ (dM.Au g));exact⟨q,fun _=>⟨c,d⟩⟩
  ·exact⟨0,fun h=>M_ h g⟩
 obtain⟨f,k⟩:=Classical.axiomOfChoice p;have:=Dm T.n (U.n+1) (fun j=>if j=U.n then i else f j) (fun j g=>by
  show(if j=U.n then i else f j)<T.n;split
  ·exact hi
  ·exact(k j (by omega)).1) (fun a b t u e=>by
  have o : ∀ j,j<U.n->f j≠i:=fun j g e=>by
   have c:=(k j g).2;rw[e]at c;rw[c,dM.Au g]at m; cases m
  have e:(if a=U.n then i else f a)=(if b=U.n then i else f b):=e;by_cases c:a=U.n
  ·by_cases d:b=U.n
   ·omega
   ·rw[d_ c,b_ d]at e; exact M_ e.symm (o b (by omega))
  ·by_cases d:b=U.n
   ·rw[b_ c,d_ d]at e; exact M_ e (o a (by omega))
   ·rw[b_ c,b_ d]at e;have l:=(k a (by omega)).2;have r:=(k b (by omega)).2;rw[e]at l;exact s.inj a b (by omega) (by omega) (l.symm.trans r))
 omega
theorem wu.add(d:T.ok)(g:U.ok)(h:wu U T)(hi:i<T.n)(j:T.p i=0\/U.has (T.p i)=true) :
 wu (U.add (T.x i) (T.p i)) T/\(U.add (T.x i) (T.p i)).has (T.x i)=true /\ ∀ k,U.has k=true->(U.add (T.x i) (T.p i)).has k=true:=by
 cases hh:U.has (T.x i)with
 | true =>
   have e:U.add (T.x i) (T.p i)=U:=by
    refine dM.aeZ fun m => ?_;have:=(FE m).2.1;rw[show dW U.x U.n (T.x i)=U.has (T.x i)from rfl,hh]at this; cases this
   rw[e]; exact⟨h,hh,fun _ h=>h⟩
 | false =>
   have s:=(d.pos i hi).1;have q:=wu.lt g h hi hh;have r:=d.small;have l:U.err (T.x i) (T.p i)=0:=by
    unfold dM.err sG;rw[b_ (by omega),b_ (by rw[show dW U.x U.n (T.x i)=U.has (T.x i)from rfl,hh]; decide),b_,b_]
    ·rintro (b|b)
     ·omega
     ·have f:=wu.path d g h 4 (T.p i) j;rw[f]at b;have c:=dM.afa d hi;have o:(T.path (T.x i)).length<=4:=dM.zP;rw[c,List.length_cons]at o;have b:4<=(T.path (T.p i)).length:=b;omega
    ·rintro ⟨b,f⟩
     rcases j with c|c
     ·exact b c
     ·rw[show dW U.x U.n (T.p i)=U.has (T.p i)from rfl,c]at f; cases f
   rw[dM.E5 l];refine⟨⟨fun k a => ?_,fun k a => ?_⟩,?_,fun k a => ?_⟩
   ·rw[dM.jQ,Bool.or_eq_true]at a
    rcases a with a|a
    ·exact h.has k a
    ·rw[<- h_ a]; exact dM.Au hi
   ·rw[dM.jQ,Bool.or_eq_true]at a;rw[dM.uM];split
    ·rename_i e; subst e; exact(dM.Ms d hi).symm
    ·rename_i e
     rcases a with a|a
     ·exact h.par k a
     ·exact M_ (h_ a) e
   ·rw[dM.jQ,f_ rfl,Bool.or_true]
   ·rw[dM.jQ,a,Bool.true_or]
structure Mt(T U:dM)(r k:Nat):Prop where
 sub:wu U T
 fst : ∀ j,j<r->j<T.n->U.has (T.x j)=true
 nxt:k<=r->r<T.n->U.has (T.x r)=true
end
end Rt
namespace Rt
section
variable {x:Nat->Int} {v:Int} {j aq:Nat}
end
section
variable {x p:Nat->Int} {n:Nat}
theorem tu : ∀ {d:Nat} {v:Int},jK x p n d v -> ∀ k,k<(jO x p n d v).length->dW x n ((jO x p n d v).getD k 0)=true /\
 (k+1<(jO x p n d v).length->(jO x p n d v).getD (k+1) 0=iO x p n ((jO x p n d v).getD k 0))/\(k+1=(jO x p n d v).length->dW x n (iO x p n ((jO x p n d v).getD k 0))=false)
 | 0,v,h,k,hk=>M_ hk (z_ _)
 | d+1,v,h,k,hk=>by
   cases hv:dW x n v with
   | false=>rw[lK hv]at hk; exact M_ hk (z_ _)
   | true =>
     have e:jO x p n (d+1) v=v::jO x p n d (iO x p n v):=(by show(if _ then _ else _)=_; rw[d_ hv]);have c:jK x p n d (iO x p n v):=h hv;have i := @tu d (iO x p n v) c;have g:0<(jO x p n d (iO x p n v)).length->(jO x p n d (iO x p n v)).getD 0 0=iO x p n v:=fun a=>by
      cases d with
      | zero=>exact M_ a (z_ _)
      | succ d =>
        unfold jO at a ⊢;split at a
        ·rename_i hq; rw[d_ hq]; rfl
        ·exact M_ a (z_ _)
     rw[e]at hk ⊢;rw[List.length_cons]at hk ⊢
     cases k with
     | zero =>
       rw[List.getD_cons_zero,List.getD_cons_succ];refine⟨hv,fun b=>g (by omega),fun b => ?_⟩
       cases hq:dW x n (iO x p n v)with
       | false=>rfl
       | true =>
         obtain⟨j,_,_,f⟩:=Io c hq;rw[f,List.length_cons]at b; omega
     | succ k =>
       rw[List.getD_cons_succ,List.getD_cons_succ];have:=i k (by omega);exact⟨this.1,fun b=>this.2.1 (by omega),fun b=>this.2.2 (by omega)⟩
end
section
variable {T:dM} {id pa k v:Int} {i j aq:Nat} {pl:List Int}
theorem dM.OE(h:T.ok)(e:pl=T.path v){q:Nat}(a:q<pl.length):T.has (pl.getD q 0)=true:=by
 subst e; exact(tu (h.stop v) q a).1
theorem dM.ZI(h:T.ok)(e:pl=T.path v){q:Nat}(b:q+1<pl.length)(ha:aq-1<T.n)(hx:T.x (aq-1)=pl.getD q 0):T.p (aq-1)=pl.getD (q+1) 0:=by
 subst e;have:=(tu (h.stop v) q (Nat.lt_of_succ_lt b)).2.1 b;have a:=dM.Ms h ha;rw[hx]at a;exact a.symm.trans this.symm
theorem dM.ZJ(h:T.ok)(e:pl=T.path v){q:Nat}(c:q+1=pl.length)(ha:aq-1<T.n)(hx:T.x (aq-1)=pl.getD q 0):T.p (aq-1)=0:=by
 subst e;have a:=(tu (h.stop v) q (Nat.lt_of_succ_le (Nat.le_of_eq c))).2.2 c;have b:=dM.Ms h ha;rw[hx]at b;rw[show iO T.x T.p T.n ((jO T.x T.p T.n 4 v).getD q 0)=T.p (aq-1)from b]at a
 rcases h.par _ ha with h4|⟨i,hi,h4⟩
 ·exact h4
 rw[<- h4,jU (by omega) rfl]at a; cases a
theorem dM.afc(d : ¬ id=0)(e:pa=0\/T.has pa=true):T.err id pa=if T.has id=true then 14 else if 32<=T.n\/4<=(T.path pa).length then 6 else 0:=by
 show sG T.x T.p T.n id pa=_;unfold sG;rw[b_ d];have c : ¬ (¬ pa=0/\dW T.x T.n pa=false):=by
  rintro ⟨b,a⟩
  rcases e with h3|h3
  ·exact b h3
  ·rw[show dW T.x T.n pa=T.has pa from rfl,h3]at a; cases a
 rw[b_ c]; rfl
end
section
variable {w w':World} {v v2:Value} {B s n g m c:Nat} {E:TypeId} {x:Nat->Value}
end
end Rt
namespace Rt
def Hq(n:Nat):Nat->List Nat
 | 0 => []
 | j+1=>Hq n j ++ [n-1-j]
theorem Qu(n:Nat) : ∀ j,(Hq n j).length=j
 | 0=>rfl
 | j+1=>by unfold Hq; rw[E_,Qu n j]; rfl
def Nr(T:dM)(l:List Int)(a:List Nat):dM:=a.foldl (fun U x=>U.add (l.getD x 0) (T.par (l.getD x 0))) dM.zero
theorem Gq(T:dM)(l:List Int)(a:List Nat)(x:Nat):Nr T l (a ++ [x])=(Nr T l a).add (l.getD x 0) (T.par (l.getD x 0)):=by unfold Nr; rw[List.foldl_append]; rfl
def lX(l ll:List Int)(U:dM):Nat->dM
 | 0=>U
 | i+1=>if ll.getD i 0∈l then lX l ll U i else(lX l ll U i).add (ll.getD i 0) 0
section
variable {T U:dM} {l ll:List Int} {id pa k v:Int} {i j n:Nat}
theorem has_lt(t:U.ok)(h : ∀ k,U.has k=true->T.has k=true)(hx:T.has v=true)(o:U.has v=false):U.n<T.n:=by
 obtain⟨i,u,rfl⟩:=iA hx;have r : ∀ j,∃ q,j<U.n->q<T.n/\T.x q=U.x j:=fun j=>by
  by_cases g:j<U.n
  ·obtain⟨q,c,d⟩:=iA (h _ (dM.Au g));exact⟨q,fun _=>⟨c,d⟩⟩
  ·exact⟨0,fun h=>M_ h g⟩
 obtain⟨f,l⟩:=Classical.axiomOfChoice r;have:=Dm T.n (U.n+1) (fun j=>if j=U.n then i else f j) (fun j g=>by
  show(if j=U.n then i else f j)<T.n;split
  ·exact u
  ·exact(l j (by omega)).1) (fun a b w y e=>by
  have p : ∀ j,j<U.n->f j≠i:=fun j g e=>by
   have c:=(l j g).2;rw[e]at c;rw[c,dM.Au g]at o; cases o
  have e:(if a=U.n then i else f a)=(if b=U.n then i else f b):=e;by_cases c:a=U.n
  ·by_cases d:b=U.n
   ·omega
   ·rw[d_ c,b_ d]at e; exact M_ e.symm (p b (by omega))
  ·by_cases d:b=U.n
   ·rw[b_ c,d_ d]at e; exact M_ e (p a (by omega))
   ·rw[b_ c,b_ d]at e;have m:=(l a (by omega)).2;have s:=(l b (by omega)).2;rw[e]at m;exact t.inj a b (by omega) (by omega) (m.symm.trans s))
 omega
theorem Wz(p:U.ok)(h : ∀ k,U.has k=true->T.has k=true):U.n<=T.n:=by
 have l : ∀ j,∃ q,j<U.n->q<T.n/\T.x q=U.x j:=fun j=>by
  by_cases i:j<U.n
  ·obtain⟨q,m,o⟩:=iA (h _ (dM.Au i));exact⟨q,fun _=>⟨m,o⟩⟩
  ·exact⟨0,fun h=>M_ h i⟩
 obtain⟨f,c⟩:=Classical.axiomOfChoice l;exact Dm T.n U.n f (fun q r=>(c q r).1) fun a b d g e=>p.inj a b d g (by rw[<- (c a d).2,<- (c b g).2,e])
structure BwI(T U:dM)(l:List Int)(j:Nat):Prop where
 ok:U.ok
 sub:wu U T
 has : ∀ x,l.length-j<=x->x<l.length->U.has (l.getD x 0)=true
 only : ∀ k,U.has k=true->k∈l
theorem WA(a:T.ok)(hi:i<T.n):0<=T.x i/\T.x i<=18446744073709551615:=by have:=a.pos i hi; omega
theorem ZK(U:dM)(id pa k:Int)(h:(U.add id pa).has k=true):U.has k=true\/k=id:=by
 unfold dM.add at h;split at h
 ·rw[dM.jQ,Bool.or_eq_true]at h
  rcases h with h|h
  ·exact .inl h
  exact .inr (h_ h).symm
 exact .inl h
theorem WB(a:T.ok)(e:l=T.path pa) : ∀ j,j<=l.length->BwI T (Nr T l (Hq l.length j)) l j
 | 0,_=>⟨Cq.zero _ _,wu.zero T,fun x g c=>by omega,fun k h=>nomatch h⟩
 | j+1,hj=>by
   have d:=WB a e j (by omega);have m:l.length-1-j<l.length:=(by omega);have t:T.has (l.getD (l.length-1-j) 0)=true:=dM.OE a e m;obtain⟨i,f,b⟩:=iA t;have n:T.par (l.getD (l.length-1-j) 0)=T.p i:=(by rw[<- b]; exact dM.Ms a f);show BwI T (Nr T l (Hq l.length j ++ [l.length-1-j])) l (j+1);rw[Gq,n,<- b];have s:T.p i=0\/(Nr T l (Hq l.length j)).has (T.p i)=true:=by
    by_cases r:l.length-1-j+1=l.length
    ·exact .inl (dM.ZJ (aq:=i+1) a e r f b)
    ·have c:=dM.ZI (aq:=i+1) a e (show l.length-1-j+1<l.length by omega) f b;have c:T.p i=l.getD (l.length-1-j+1) 0:=c;right;rw[c];exact d.has _ (by omega) (by omega)
   obtain⟨u,v,w⟩:=wu.add a d.ok d.sub f s;refine⟨dM.JL d.ok (WA a f),u,fun x g c => ?_,fun k q => ?_⟩
   ·by_cases o:x=l.length-1-j
    ·rw[o,<- b]; exact v
    ·exact w _ (d.has x (by omega) c)
   ·rcases ZK _ _ _ _ q with g|rfl
    ·exact d.only k g
    ·rw[b];rw[r_,o_ m]; exact R_ m
structure RtI(T U:dM)(l ll:List Int)(i:Nat):Prop where
 ok:U.ok
 sub : ∀ k,U.has k=true->T.has k=true
 par : ∀ k,k∈l->U.has k=true/\U.par k=T.par k
 has : ∀ q,q<i->q<ll.length->U.has (ll.getD q 0)=true
 only : ∀ k,U.has k=true->k∈l \/ ∃ q,q<i/\q<ll.length/\ll.getD q 0=k
theorem afd(d:ll.Pairwise (· < ·)){a b:Nat}(ha:a<ll.length)(c:b<ll.length)(e:ll.getD a 0=ll.getD b 0):a=b:=by
 rw[r_,r_,o_ ha,o_ c]at e;have e:ll[a]=ll[b]:=e
 rcases Nat.lt_trichotomy a b with h1|h1|h1
 ·have:=List.pairwise_iff_getElem.1 d a b ha c h1; omega
 ·exact h1
 have:=List.pairwise_iff_getElem.1 d b a c ha h1; omega
theorem WE(d:T.ok)(g:ll.Pairwise (· < ·) /\ ∀ k,k∈ll<->T.has k=true)(n:RtI T U l ll 0) : ∀ i,i<=ll.length->RtI T (lX l ll U i) l ll i
 | 0,_=>n
 | i+1,hi=>by
   have b:=WE d g n i (by omega);unfold lX;have s:ll.getD i 0∈ll:=(by rw[r_,o_ (by omega)]; exact R_ _);have f:=(g.2 _).1 s;by_cases c:ll.getD i 0∈l
   ·rw[d_ c];refine⟨b.ok,b.sub,b.par,fun q v h => ?_,fun k a => ?_⟩
    ·by_cases e:q=i
     ·rw[e]; exact(b.par _ c).1
     ·exact b.has q (by omega) h
    ·rcases b.only k a with h1|⟨q,h1,h2,h3⟩
     ·exact .inl h1
     ·exact .inr ⟨q,by omega,h2,h3⟩
   ·rw[b_ c];obtain⟨z,r,m⟩:=iA f;have o:=WA d r;rw[m]at o;have u:=d.pos z r;rw[m]at u;have p:(lX l ll U i).has (ll.getD i 0)=false:=by
     cases hh:(lX l ll U i).has (ll.getD i 0)with
     | false=>rfl
     | true =>
       rcases b.only _ hh with h1|⟨q,h1,h2,h3⟩
       ·exact M_ h1 c
       ·have:=afd g.1 h2 (by omega) h3; omega
    have w:=has_lt b.ok b.sub f p;have x:=d.small;have j:(lX l ll U i).err (ll.getD i 0) 0=0:=by
     rw[dM.afc (by omega) (.inl rfl),b_ (by rw[p]; decide),b_];rw[dM.afb b.ok];rintro (h1|h1)
     ·omega
     ·simp at h1
    rw[dM.E5 j];have t : ∀ k,k∈l -> ¬ ll.getD i 0=k:=fun k a e=>c (e ▸ a);refine⟨by have:=dM.JL (pa:=0) b.ok o; rwa [dM.E5 j]at this,fun k a => ?_,fun k a => ?_,fun q v h => ?_,fun k a => ?_⟩
    ·rw[dM.jQ,Bool.or_eq_true]at a
     rcases a with a|a
     ·exact b.sub k a
     ·rw[<- h_ a]; exact f
    ·rw[dM.jQ,dM.uM,b_ (t k a),(b.par k a).1,Bool.true_or];exact⟨rfl,(b.par k a).2⟩
    ·rw[dM.jQ];by_cases e:q=i
     ·rw[e,f_ rfl,Bool.or_true]
     ·rw[b.has q (by omega) h,Bool.true_or]
    ·rw[dM.jQ,Bool.or_eq_true]at a
     rcases a with a|a
     ·rcases b.only k a with h1|⟨q,h1,h2,h3⟩
      ·exact .inl h1
      ·exact .inr ⟨q,by omega,h2,h3⟩
     ·exact .inr ⟨i,by omega,by omega,h_ a⟩
theorem I9(c : ∀ k,U.has k=T.has k) : ∀(d:Nat) (k:Int),(∀ q,q∈jO T.x T.p T.n d k->U.par q=T.par q)->jO U.x U.p U.n d k=jO T.x T.p T.n d k
 | 0,_,_=>rfl
 | d+1,k,h=>by
   have a:dW U.x U.n k=dW T.x T.n k:=c k
   cases hk:dW T.x T.n k with
   | false=>rw[lK hk,lK (a.trans hk)]
   | true =>
     have b:jO T.x T.p T.n (d+1) k=k::jO T.x T.p T.n d (iO T.x T.p T.n k):=(by show(if _ then _ else _)=_; rw[d_ hk]);have e:jO U.x U.p U.n (d+1) k=k::jO U.x U.p U.n d (iO U.x U.p U.n k):=(by show(if _ then _ else _)=_; rw[d_ (a.trans hk)]);rw[b]at h;have f:iO U.x U.p U.n k=iO T.x T.p T.n k:=h k (List.mem_cons_self ..);rw[b,e,f,I9 c d _ fun q g=>h q (List.mem_cons_of_mem _ g)]
theorem ZL(i:T.ok)(e:l=T.path pa)(m:ll.Pairwise (· < ·) /\ ∀ k,k∈ll<->T.has k=true):(lX l ll (Nr T l (Hq l.length l.length)) ll.length).err id pa=T.err id pa:=by
 have d:=WB i e l.length (A_ _);have t : ∀ k,k∈l -> ∃ x,x<l.length/\l.getD x 0=k:=fun k a=>by
  obtain⟨x,h,r⟩:=List.getElem_of_mem a;exact⟨x,h,by rw[r_,o_ h]; exact r⟩
 have s:RtI T (Nr T l (Hq l.length l.length)) l ll 0:=⟨d.ok,d.sub.has,fun k a=>by
  obtain⟨x,h,rfl⟩:=t k a;have:=d.has x (by omega) h;exact⟨this,d.sub.par _ this⟩,fun q b=>by omega,fun k a => .inl (d.only k a)⟩
 have c:=WE i m s ll.length (A_ _);generalize lX l ll (Nr T l (Hq l.length l.length)) ll.length=V at c;have g : ∀ k,V.has k=T.has k:=fun k=>by
  cases f:T.has k with
  | false =>
    cases j:V.has k with
    | false=>rfl
    | true=>rw[c.sub k j]at f; cases f
  | true =>
    obtain⟨q,b,o⟩:=List.getElem_of_mem ((m.2 k).2 f);have:=c.has q b b;rw[r_,o_ b]at this;rw[<- o]; exact this
 have u:V.n=T.n:=by
  have f:=Wz c.ok c.sub;have j:=Wz i (fun k a=>by rw[g]; exact a : ∀ k,T.has k=true->V.has k=true);omega
 have v:V.path pa=T.path pa:=I9 g 4 pa fun q b=>(c.par q (by rw[e]; exact b)).2;show sG V.x V.p V.n id pa=sG T.x T.p T.n id pa;unfold sG;have w:jO V.x V.p V.n 4 pa=jO T.x T.p T.n 4 pa:=v;rw[show dW V.x V.n id=dW T.x T.n id from g id,show dW V.x V.n pa=dW T.x T.n pa from g pa,w,u]
end
end Rt
namespace Fx
abbrev zh:=Exit->(Nat->Value)->List Deferred->World->Prop
def WH(n:Nat)(Q:zh):Exit->Act->World->Prop:=fun e a w => ∃ f,Bn a n f/\Q e f a.defers w
def W0(ro:Option Nat)(m:Nat)(P:Program)(n:Nat)(c:Code)(Q:zh)(f:Nat->Value)(ds:List Deferred)(w:World):Prop := ∀ a,Bn a n f->a.defers=ds->c.wpIn (FR ro) m P (WH n Q) a w
def WI(ro:Option Nat)(m:Nat)(P:Program)(n:Nat)(y:Code)(Q:zh):zh:=fun e f ds w=>match e with | .normal=>W0 ro m P n y Q f ds w|e=>Q e f ds w
def Ch(id:Nat)(Q:zh):zh:=fun e f ds w=>match e with | .exit id'=>if id'=id then Q .normal f ds w else Q (.exit id') f ds w|e=>Q e f ds w
def OG(I:(Nat->Value)->World->Prop)(b:(Nat->Value)->World->Nat)(k:Nat)(ds:List Deferred)(Q:zh):zh:=fun e f a w=>match e with | .normal=>a=ds/\I f w/\b f w<k|e=>Q e f a w
section
variable {ro:Option Nat} {m:Nat} {ds:List Deferred} {P:Program} {n:Nat} {Q:zh} {f:Nat->Value} {w:World}
theorem W0.seq{x y:Code}(h:W0 ro m P n x (WI ro m P n y Q) f ds w):W0 ro m P n (.seq x y) Q f ds w:=fun a i j =>
 wpIn_seq (wpIn_mono (h a i j) fun e d w' b=>by
  obtain⟨g,c,b⟩:=b
  cases e <;> first|exact b d c rfl|exact⟨g,c,b⟩)
theorem W0.skip(h:Q .normal f ds w):W0 ro m P n .skip Q f ds w:=fun _ a b=>wpIn_skip ⟨f,a,b ▸ h⟩
theorem W0.ret(h:Q .ret f ds w):W0 ro m P n .ret Q f ds w:=fun _ a b=>wpIn_ret ⟨f,a,b ▸ h⟩
theorem W0.exit{id:Nat}(h:Q (.exit id) f ds w):W0 ro m P n (.exit id) Q f ds w:=fun _ a b=>wpIn_exit ⟨f,a,b ▸ h⟩
theorem W0.block{id:Nat}{c:Code}(h:W0 ro m P n c (Ch id Q) f ds w):W0 ro m P n (.block id c) Q f ds w:=fun a i j =>
 wpIn_block (wpIn_mono (h a i j) fun e k w' b=>by
  obtain⟨d,g,b⟩:=b
  cases e <;> first
   | exact⟨d,g,b⟩
   | (simp only[Ch]at b; simp only[Exit.inBlock]; split at b <;> rename_i hid <;> simp only[hid,if_true,if_false] <;> exact⟨d,g,b⟩))
theorem W0.cond{c:Operand}{x y:Code}{b:Bool}(h:ev f c = .bool b)(j:b=true->W0 ro m P n x Q f ds w)(i:b=false->W0 ro m P n y Q f ds w):W0 ro m P n (.cond c x y) Q f ds w:=fun a d g =>
 wpIn_cond_split (t:=b) (by rw[d.ev]; exact h) (fun e=>j e a d g) (fun e=>i e a d g)
theorem W0.loop{c:Code}(I:(Nat->Value)->World->Prop)(k:(Nat->Value)->World->Nat)(r:I f w)(hr : ∀ f w,I f w->W0 ro m P n c (OG I k (k f w) ds Q) f ds w):W0 ro m P n (.loop c) Q f ds w:=fun a s h =>
 wpIn_loop (fun a w => ∃ f,Bn a n f/\a.defers=ds/\I f w) (fun a w=>k (fun i=>a.tmps.getD i undef) w) ⟨f,s,h,r⟩ (fun a w g=>by
  obtain⟨f,l,h,g⟩:=g;have e:(fun i=>a.tmps.getD i undef)=f:=funext l.get;refine wpIn_mono (hr f w g a l h)<|fun p o w' b => ?_;obtain⟨d,j,b⟩:=b
  cases p <;> first
   | exact⟨d,j,b⟩
   | (have q:(fun i=>o.tmps.getD i undef)=d:=funext j.get
      exact⟨⟨d,j,b.1,b.2.1⟩,by rw[e,q]; exact b.2.2⟩))
theorem W0.list{id:Nat}{ops:List Oper}(h:L P n ops.toArray (fun e f w=>Q e f ds w) ops f w)(k:ops.all kK=true:=by rfl):W0 ro m P n (.region id ops.toArray false) Q f ds w:=fun a i j =>
 Im i h k fun e l w' ⟨b,c,d,g⟩=>⟨b,c,by rw[d,j]; exact g⟩
theorem rY{y:Code}(h:W0 ro m P n y Q f ds w):WI ro m P n y Q .normal f ds w:=h
theorem aiV{id:Nat}{y:Code}(h:Q (.exit id) f ds w):WI ro m P n y Q (.exit id) f ds w:=h
theorem Mv{id:Nat}(h:Q .normal f ds w):Ch id Q .normal f ds w:=h
theorem aiW{id:Nat}(h:Q .normal f ds w):Ch id Q (.exit id) f ds w:=by simp only[Ch,if_true]; exact h
theorem aqc{I:(Nat->Value)->World->Prop}{a:(Nat->Value)->World->Nat}{k id:Nat}(h:Q (.exit id) f ds w):OG I a k ds Q (.exit id) f ds w:=h
theorem aiX{I:(Nat->Value)->World->Prop}{a:(Nat->Value)->World->Nat}{k:Nat}(h:I f w)(b:a f w<k):OG I a k ds Q .normal f ds w:=⟨rfl,h,b⟩
def abN(P:Program)(m:Nat)(b:Func)(R:Ending->World->Prop):zh:=fun e f ds w => ∀ a,Bn a b.ntmps f->a.defers=ds->bodyPostM (FR none) m P b R e a w
theorem afe{g:FuncId}{b:Func}{c:Code}{args:Array Value}{R:Ending->World->Prop}(m:Nat)(k:P.funcs[g]? = some b)(j:b.body=some c)(f:b.ntmps=n)(ha:Nat.ble args.size n=true)(h:W0 none m P n c (abN P m b R) (start args) [] w):Calls P g args w R:=by
 have q:args.size<=n:=Nat.le_of_ble_eq_true ha;refine(callsIn_wide (n:=m)).1 (callsIn_of_wp_marks (F:=FR none) k j trivial ?_ rfl);refine wpIn_mono (h _ ⟨?_,?_⟩ rfl) fun e a w' ⟨p,l,o⟩=>o a (by rw[f]; exact l) rfl
 ·simp[f]; omega
 intro i;simp only[start,Array.getD_eq_getD_getElem?,Array.getElem?_append,Array.getElem?_replicate];by_cases d:i<args.size
 ·simp[d]
 rw[b_ d];split
 ·rw[Array.getElem?_eq_none (by omega)]; rfl
 rw[Array.getElem?_eq_none (by omega)]
theorem leaveD{b:Func}{R:Ending->World->Prop}{D:Nat}{v:Value}(c:w.heap[D]? = some (.deferred (some [])))(h:(zW b f).run P (w.putObj D (.deferred none)) = .ok v (w.putObj D (.deferred none)))(d:R (.returned v) (w.putObj D (.deferred none))) :
 abN P m b R .ret f [{ target := .collected D,args := #[] }] w:=fun a e g=>leave1 e g c h d
variable {ops:List Oper} {cs:List Nat} {S:World->World->Prop}
theorem R.aiY(T:mO n ops=true)(hsel:Region.noSelect ops.toArray=true)(aa:ops.all kK=true)(hS : ∀ w,S w w)(hT : ∀ a b c,S a b->S b c->S a c){fJ:List (Nat × Nat × List Nat)} : ∀(k:Nat) (u:List Nat) (p:Array Bool) (a:Act) (f:Nat->Value) (w:World),u.length=k->p.size=ops.length->Kz ops.toArray .any p ->
 (∀ i,i∈u<->i<ops.length/\p.getD i false=false)->u.Nodup->(u.Pairwise fun i j=>ru ops cs fJ i j=true)->Bn a n f->a.defers=ds->R P n ops cs S (fun e f w=>Q e f ds w) u f w->wpAnyIn (FR ro) m P .any ops.toArray (WH n Q) k p a w:=by
 intro k
 induction k with
 | zero =>
   intro u p a f w F ac J x G H A L h;have:u = []:=List.eq_nil_of_length_eq_zero F;subst this;refine⟨?_,f,A,by rw[L]; exact h⟩;rw[List.eq_nil_iff_forall_not_mem];intro j E;obtain⟨z,s,_,_⟩:=fT E;exact M_ ((x j).2 ⟨s,z⟩) (by simp)
 | succ k ih =>
   intro u p a f w F ac J x G H A L h;refine⟨fun hr => ?_,fun j E => ?_⟩
   ·cases u with
    | nil=>simp at F
    | cons r amD =>
      exfalso;obtain⟨z,s⟩:=(x r).1 (List.mem_cons_self ..);have:r∈Region.ready .any ops.toArray p:=by
       refine mem_ready.2 ⟨getD_in (by omega) s,opAt ops r,by unfold opAt; rw[List.getElem?_toArray,r_,o_ z]; rfl,fun e M C => ?_⟩;have B:dK (opAt ops r) e.on=true:=by
        unfold dK; rw[Array.any_eq_true']; exact⟨e,M,by rw[C,Nat.beq_refl]; rfl⟩
       have hlt:=(fI T z).2.2.2 e.on B
       cases hle:p.getD e.on false with
       | true=>rfl
       | false =>
         have g:=(x e.on).2 ⟨by omega,hle⟩
         rcases List.mem_cons.1 g with e1|e1
         ·omega
         ·have o:=(List.pairwise_cons.1 H).1 _ e1;unfold ru at o;rw[B]at o; simp at o
      rw[hr]at this; simp at this
   ·obtain⟨z,s,W,X⟩:=fT E;have hjm:=(x j).2 ⟨s,z⟩;obtain⟨t,y,rfl⟩:=List.append_of_mem hjm;have C:=bubble (P:=P) (cs:=cs) (S:=S) (Q:=fun e f w=>Q e f ds w) T hsel hS hT s (l:=y) t (fun i N=>by
     obtain⟨h5,Y⟩:=(x i).1 (List.mem_append_left _ N);have O:i≠j:=fun e=>by
      subst e;exact(List.nodup_append.1 G).2.2 i N i (List.mem_cons_self ..) rfl
     have o:ru ops cs fJ i j=true:=(List.pairwise_append.1 H).2.2 i N j (List.mem_cons_self ..);unfold ru at o;rw[T_,Bool.or_eq_true]at o;have acO:dK (opAt ops j) i=false:=by
      cases hq:dK (opAt ops j) i with
      | false=>rfl
      | true=>have:=X i hq; rw[Y]at this; cases this
     refine⟨h5,O,acO,by simpa using o.1,?_⟩
     rcases o.2 with o|o
     ·rw[T_,Bool.or_eq_true]at o;refine⟨o.1,?_⟩
      rcases o.2 with q|q
      ·rw[Bool.or_eq_true]at q;exact q.elim (fun q => .inl (B_ q)) (fun q => .inr (.inl q))
      ·rw[T_]at q;exact .inr (.inr ⟨B_ q.1,B_ q.2⟩)
     ·exfalso;rw[List.any_eq_true]at o;obtain⟨c,_,Z⟩:=o;rw[T_,T_]at Z;obtain⟨m,g⟩:=jB Z.2
      cases m with
      | zero=>unfold reach at g; simp at g; exact O g.symm
      | succ m =>
        unfold reach at g;rw[Bool.or_eq_true]at g
        rcases g with g|g
        ·simp at g; exact O g.symm
        ·rw[W]at g;simp only at g;rw[Array.any_eq_true']at g;obtain⟨e,M,g⟩:=g;rw[T_]at g;have B:dK (opAt ops j) e.on=true:=by
          unfold dK; rw[Array.any_eq_true']; exact⟨e,M,by rw[g.1,Nat.beq_refl]; rfl⟩
         have:=J.reach _ _ g.2 (X e.on B);rw[Y]at this; cases this) f w h
    have hperm:(t++y).length=k:=(by simp at F ⊢; omega);have hnd':(t++y).Nodup:=by
     refine G.sublist ?_;exact List.Sublist.append_left (List.sublist_cons_self ..) t
    have acP:(t++y).Pairwise fun i j=>ru ops cs fJ i j=true:=H.sublist (List.Sublist.append_left (List.sublist_cons_self ..) t);have hmem' : ∀ i,i∈t++y<->i<ops.length/\(p.setIfInBounds j true).getD i false=false:=fun i=>by
     by_cases e:j=i
     ·subst e;rw[set_self (by omega)];constructor
      ·intro g;exfalso;have D:=List.nodup_append.1 G
       rcases List.mem_append.1 g with q|q
       ·exact D.2.2 j q j (List.mem_cons_self ..) rfl
       ·exact(List.nodup_cons.1 D.2.1).1 q
      ·intro q; cases q.2
     ·rw[kP e,<- x i];simp only[List.mem_append,List.mem_cons];constructor
      ·rintro (q|q)
       ·exact .inl q
       ·exact .inr (.inr q)
      ·rintro (q|q|q)
       ·exact .inl q
       ·exact M_ q.symm e
       ·exact .inr q
    have U : ∀(v:Value) (w':World),R P n ops cs S (fun e f w=>Q e f ds w) (t++y) (put f (opAt ops j).dst v) w'->wpAnyIn (FR ro) m P .any ops.toArray (WH n Q) k (p.setIfInBounds j true) (a.put (opAt ops j).dst v) w':=fun v w' hR =>
     ih (t++y) _ _ _ w' hperm (by simp[ac]) (J.set E) hmem' hnd' acP (A.put (by
      cases D:(opAt ops j).dst with
      | none=>rfl
      | some d=>have:=((fI T s).1 d D).2; simpa [inn,Nat.blt_eq] using this) v) (by rw[put_defers]; exact L) hR
    have ab:kK (opAt ops j)=true:=by
     rw[List.all_eq_true]at aa;refine aa _ ?_;unfold opAt;rw[r_,o_ s];exact R_ s
    unfold wpOpIn;rw[W];simp only;rw[A.yf];unfold R at C
    rcases C with ⟨I,V⟩|⟨I,⟨V,v,q3,q4⟩|⟨V,q3⟩⟩
    ·rw[b_ (by rw[I]; decide)]; exact⟨fun _ _=>trivial,U _ _ V⟩
    ·rw[d_ I];refine Out.wpIn (K:=fun v' w'=>v'=v/\w'=w) A ab (.inl ⟨v,w,q3 w (.inr (.inr rfl)),rfl,rfl⟩) ?_;rintro v' w' ⟨rfl,rfl⟩;exact U _ _ q4
    ·rw[d_ I];exact Out.wpIn A ab q3 fun v w' hk=>U v w' hk.2
theorem W0.aiZ{f:Nat->Value}{w:World}{id:Nat}(l:List Nat)(cs:List Nat)(S:World->World->Prop)(o : ∀ w,S w w)(p : ∀ a b c,S a b->S b c->S a c)(fJ:List (Nat × Nat × List Nat))(x:P.follows .mixedOrders=true)(z:mO n ops=true)(B:Region.noSelect ops.toArray=true)(g:AA ops l=true)(A:wW ops cs fJ l=true)
 (h : ∀ j,Below w.heap.size w j->j.heap.size=w.heap.size->R P n ops cs S (fun e f w=>Q e f ds w) l f j) (y:ops.all kK=true:=by rfl):W0 ro m P n (.region id ops.toArray true) Q f ds w:=fun a q r=>by
 refine wpIn_region_any x ?_;unfold AA at g;rw[T_,T_,T_,List.all_eq_true,List.all_eq_true]at g;obtain⟨⟨⟨C,D⟩,p3⟩,p4⟩:=g;have v:=B_ C;have E:l.Nodup:=h_ p3;have:=R.aiY (ro:=ro) (m:=m) (ds:=ds) (P:=P) (Q:=Q) (fJ:=fJ) z B y o p ops.length l (Array.replicate ops.length false) a f { w with drawn:=w.drawn+1 } v (by simp) (Kz.start _ _ _) (fun i=>by
  have s : ∀ i,(Array.replicate ops.length false).getD i false=false:=fun i=>getD_replicate_false _ _;constructor
  ·intro d; exact⟨by simpa [Nat.blt_eq] using D i d,s i⟩
  ·intro d;obtain⟨k,t,u⟩:=List.any_eq_true.1 (p4 i (by simpa using d.1));rw[B_ u]; exact t) E (wX A) q r (h { w with drawn:=w.drawn+1 } (Below.refl _ _).drew rfl)
 simpa using this
end
end Fx
namespace Rgx
def Qw{b:Type}(J:b->World->Prop):Prop := ∀ s W a,J s W->W.grownBy a none->J s a
def aff{d:Type}(F:Fence)(n:Nat)(P:Program)(g:Nat)(lb:Array Value)(j:d->Array Value)(i:World->World->Prop)(S:List d->Prop)(N:Nat)(h:World->Prop):Prop :=
 ∀(l:Nat) (J:List d->World->Prop) (W:World),h W->Qw J ->
  (∀ c x b,J c b->c.length<N->YieldAt F (n-1) P l (j x) b fun e a=>e = .returned (.bool true)/\J (c ++ [x]) a/\i b a) ->
  J [] W ->
  CallsIn F n P g (#[.func (.yield l) #[] #[]]++lb) W fun e a=>(∃ v,e = .returned v) /\ ∃ f,S f/\J f a
def OH{c:Type}(B:Nat)(I:c->World->Prop):Prop :=
 ∀ s W a b,I s W->W.grownBy a b->(∀ r,b=some r->B<=r /\ ∃ o:Obj,W.heap[r]? = some o/\o.isCells=false)->I s a
variable {F:Fence} {n:Nat} {P:Program}
theorem OH.putObj{a:Type}{B:Nat}{I:a->World->Prop}(h:OH B I){s:a}{W:World}{l:Nat}{o:Obj}(o':Obj)(f:I s W)(b:B<=l)(c:W.heap[l]? = some o)(d:o.isCells=false):I s (W.putObj l o') :=
 h s W _ (some l) f (grownBy_putObj' W l o') (fun r e=>by cases e; exact⟨b,o,c,d⟩)
theorem OH.alloc{a:Type}{B:Nat}{I:a->World->Prop}(h:OH B I){s:a}{W:World}(o:Obj)(b:I s W):I s (W.alloc o) :=
 h s W _ none b (World.grownBy_alloc W o none) (fun r e=>by cases e)
def KeepsFrom(B:Nat)(W a:World):Prop:=W.heap.size<=a.heap.size /\ ∀ k,B<=k->k<W.heap.size->a.heap[k]? = W.heap[k]?
def aja{a:Type}(B:Nat)(b:World->World->Prop)(I:List a->World->Prop)(c:List a)(W:World):Exit->Act->World->Prop
 | .normal,_,W'=>KeepsFrom B W W'/\b W W'/\I c W'
 | _,_,_=>False
theorem EB{α:Type}{g:Operand}{ps:Array Tmp}{assign body:Code}{Q:Exit->Act->World->Prop}{a:Act}{w:World}
 (hro:F.round=none) (h1:1<=n) {gf:Nat} {lb:Array Value} (hg:a.eval g = .func (.func gf) #[] lb) (hFg:F.fn gf) (eg : ∀ args w,(callFunc gf args).run P w = .ok (.enter gf args) w)
 {encs:α->Array Value} {Kp:World->World->Prop} {S:List α->Prop} {N:Nat} {Ip:World->Prop} (hseq:aff F (n-1) P gf lb encs Kp S N Ip)
 (hIp:Ip w) (NQ : ∀ W o,w.heap.size<=W.heap.size->Ip W->Ip (W.alloc o))
 (hKt : ∀ {A B C:World},Kp A B->Kp B C->Kp A C) (hKb : ∀(W:World) (l:Nat) (o o':Obj),w.heap.size<=l->W.heap[l]? = some o->o.isCells=false->Kp W (W.putObj l o')) (hps : ∀ x,(encs x).size=ps.size)
 (I:List α->World->Prop) (hI:OH w.heap.size I) (h0:I [] w) (A₁:α->Act->Prop)
 (hassign : ∀(l:Nat) (x:α) (W:World),assign.wpIn (F.inRound l) (n-1-1) P (Exit.then (fun a' W'=>A₁ x a'/\W'=W) (fun _ _ _=>False)) { tmps:=(ps.zip (encs x)).foldl (fun t (p,v)=>t.setIfInBounds p v) a.tmps,defers := [] } W)
 (hbody : ∀(l:Nat) (pre:List α) (x:α) (W:World) (a':Act),A₁ x a'->I pre W->pre.length<N->w.heap.size<=W.heap.size->body.wpIn (F.inRound l) (n-1-1) P (aja w.heap.size Kp I (pre ++ [x]) W) a' W)
 (hdone : ∀(D:Nat) (xs:List α) (W:World),w.heap.size<=D->S xs->I xs W->W.heap[D]? = some (.deferred (some []))->Q .normal { a with defers := { target := .collected D,args := #[] }::a.defers } W) :
 (Code.rangeFunc g ps assign body).wpIn F n P Q a w:=by
 refine wpIn_rangeFunc ?_;intro fn hfn;rw[hro];obtain⟨rec,hrec⟩ : ∃ rec:LoopState->Option Code->Loop,rec=fun st pe => { state:=st,pending:=pe,fn,tmps:=a.tmps,params:=ps,assign,body,defers:=w.heap.size }:=⟨_,rfl⟩;obtain⟨W1,hW1⟩ : ∃ W1,(w.alloc (.deferred (some []))).alloc (.loop (rec .ready none))=W1:=⟨_,rfl⟩;have hL1:W1.heap[w.heap.size+1]? = some (.loop (rec .ready none)):=by
  rw[<- hW1]; have:=World.alloc_heap_new (w.alloc (.deferred (some []))) (.loop (rec .ready none)); rwa [World.size_alloc]at this
 have hK1:W1.heap[w.heap.size]? = some (.deferred (some [])):=by
  rw[<- hW1]; exact(Below.heap_alloc _ _ _ (by simp)).trans (World.alloc_heap_new w _)
 have hI1:I [] W1:=by rw[<- hW1]; exact hI.alloc _ (hI.alloc _ h0)
 have hp1:Ip W1:=by rw[<- hW1]; exact NQ _ _ (by simp) (NQ _ _ (A_ _) hIp)
 refine⟨w.heap.size+1,[{ target := .collected w.heap.size,args := #[] }],W1,{ target := .fn (.func gf) lb,args := #[.func (.yield (w.heap.size+1)) #[] #[]] },W1,gf,
  #[.func (.yield (w.heap.size+1)) #[] #[]]++lb,W1,?_,?_,?_,?_,fun _=>h1,?_⟩
 ·rw[<- hW1,hrec]; exact run_enterLoop_outer _ _ _ _ _
 ·simp only[resolve,hg];simp[go_sem]
 ·intro f' hf'; simp[Target.leads]at hf'; subst hf'; exact hFg
 ·simp[invoke,go_sem,eg]
 refine(hseq (w.heap.size+1)
  (fun pre W=>I pre W/\W.heap[w.heap.size+1]? = some (.loop (rec .ready none))/\W.heap[w.heap.size]? = some (.deferred (some [])))
  W1 hp1
  (fun s A B hs hg'=>⟨hI s A B none hs.1 hg' (fun r e=>nomatch e),(hg'.block _ (t_.1 hs.2.1).1 (fun e=>nomatch e)).trans hs.2.1,(hg'.block _ (t_.1 hs.2.2).1 (fun e=>nomatch e)).trans hs.2.2⟩)
  ?_ ⟨hI1,hL1,hK1⟩).mono ?_
 ·-- one round
  rintro pre x W ⟨hi,hl,hk⟩ hlen;have hlt:w.heap.size+1<W.heap.size:=(t_.1 hl).1;have hy:=run_yield (P:=P) (args:=encs x) hl (by rw[hrec]; exact hps x);rw[hrec]at hy;refine⟨fn,_,assign,body,hy,roundIn_of_wpIn hfn (wpIn_mono (hassign _ x W) ?_)⟩;rintro e1 a1 w1 hq1
  cases e1 with
  | exit id=>exact hq1.elim
  | goto t=>exact hq1.elim
  | ret=>exact hq1.elim
  | panic ch=>exact hq1.elim
  | outgrown=>exact hq1.elim
  | normal =>
  obtain⟨hA1,ew⟩:=hq1;rw[ew];refine⟨_,run_beginRound hl (by rw[hrec]),?_⟩;have hl2:(W.putObj (w.heap.size+1) (.loop { rec .ready none with state := .busy })).heap[w.heap.size+1]? = some (.loop { rec .ready none with state := .busy }):=World.putObj_heap_same hlt;have hk2:(W.putObj (w.heap.size+1) (.loop { rec .ready none with state := .busy })).heap[w.heap.size]? = some (.deferred (some [])):=(World.putObj_heap_other (by omega)).trans hk;have hw2:Kp W (W.putObj (w.heap.size+1) (.loop { rec .ready none with state := .busy })):=hKb _ _ _ _ (by omega) hl rfl;refine wpIn_mono (hbody _ pre x _ a1 hA1 (hI.putObj _ hi (by omega) hl rfl) hlen (by simp; omega)) ?_;rintro e a3 W3 hp
  cases e with
  | normal =>
    obtain⟨hk3,hkp3,hi3⟩:=hp;have hl3:=(hk3.2 _ (by omega) (t_.1 hl2).1).trans hl2;have aqd:=(hk3.2 _ (by omega) (t_.1 hk2).1).trans hk2;have hr:=run_endRound (P:=P) none hl3;rw[hrec]at hr hl3;refine⟨_,_,hr,rfl,⟨hI.putObj _ hi3 (by omega) hl3 rfl,?_,(World.putObj_heap_other (by omega)).trans aqd⟩,hKt (hKt hw2 hkp3) (hKb _ _ _ _ (by omega) hl3 rfl)⟩;rw[hrec]; exact World.putObj_heap_same (t_.1 hl3).1
  | ret=>exact hp.elim
  | exit id=>exact hp.elim
  | goto t=>exact hp.elim
  | panic ch=>exact hp.elim
  | outgrown=>exact hp.elim
 rintro e W2 ⟨⟨v,rfl⟩,xs,hS,hi,hl,hk⟩;exact⟨none,_,by have:=run_endLoop (P:=P) hl (by rw[hrec]; simp); rw[hrec]at this; exact this,hdone _ xs _ (A_ _) hS (hI.putObj _ hi (by omega) hl rfl) ((World.putObj_heap_other (by omega)).trans hk)⟩
end Rgx
namespace Fx
theorem Mw{a:Act}{n p q:Nat}{u v:Value}{f:Nat->Value}(h:Bn a n f)(c:p<n)(g:q<n):Bn { tmps:=(#[p,q].zip #[u,v]).foldl (fun t (p,v)=>t.setIfInBounds p v) a.tmps,defers := [] } n (put (put f (some p) u) (some q) v):=by
 have b:=(h.put (d:=some p) (by simpa [inn,Nat.blt_eq] using c) u).put (d:=some q) (by simpa [inn,Nat.blt_eq] using g) v;have e:(#[p,q].zip #[u,v]).foldl (fun t (p,v)=>t.setIfInBounds p v) a.tmps=((a.put (some p) u).put (some q) v).tmps:=by simp[Array.zip,Act.put]
 rw[e]; exact⟨b.size,b.get⟩
theorem W0.afg{P:Program}{n m:Nat}{Q:zh}{f:Nat->Value}{ds:List Deferred}{w:World}{c:Type}{g:Operand}{p q:Tmp}{E G:Code}{gf:Nat}{lb:Array Value}(h1:1<=m)(hg:ev f g = .func (.func gf) #[] lb)(J : ∀ z w,(callFunc gf z).run P w = .ok (.enter gf z) w)
 {eu ev2:c->Value} {d:World->World->Prop} {S:List c->Prop} {N:Nat} {s:World->Prop} (hseq:Rgx.aff (FR none) (m-1) P gf lb (fun x => #[eu x,ev2 x]) d S N s)
 (R:s w) (T : ∀ W o,w.heap.size<=W.heap.size->s W->s (W.alloc o)) (V : ∀ {A B C:World},d A B->d B C->d A C) (U : ∀(W:World) (l:Nat) (o o':Obj),w.heap.size<=l->W.heap[l]? = some o->o.isCells=false->d W (W.putObj l o')) (hp:p<n) (hq:q<n)
 (I:List c->World->Prop) (O:Rgx.OH w.heap.size I) (L:I [] w) (A:c->(Nat->Value)->Prop)
 (X : ∀(l:Nat) (x:c) (W:World),W0 (some l) (m-1-1) P n E (fun e b H h=>e = .normal/\H = []/\A x b/\h=W) (put (put f (some p) (eu x)) (some q) (ev2 x)) [] W)
 (Y : ∀(l:Nat) (r:List c) (x:c) (W:World) (b:Nat->Value),A x b->I r W->r.length<N->w.heap.size<=W.heap.size->W0 (some l) (m-1-1) P n G (fun e K H h=>e = .normal/\Rgx.KeepsFrom w.heap.size W h/\d W h/\I (r ++ [x]) h) b [] W)
 (aa : ∀(D:Nat) (u:List c) (W:World),w.heap.size<=D->S u->I u W->W.heap[D]? = some (.deferred (some []))->Q .normal f ({ target := .collected D,args := #[] }::ds) W):W0 none m P n (.rangeFunc g #[p,q] E G) Q f ds w:=fun a t Z=>by
 refine Rgx.EB (F:=FR none) rfl h1 (by rw[t.ev]; exact hg) trivial J hseq R T V U (fun _=>rfl) I O L (fun x i => ∃ b,Bn i n b/\i.defers = []/\A x b) ?_ ?_ ?_
 ·intro l x W;refine wpIn_mono (X l x W _ (Mw t hp hq) rfl) ?_;rintro e i w' ⟨b,y,rfl,j,k,rfl⟩;exact⟨⟨b,y,j,k⟩,rfl⟩
 ·rintro l r x W i ⟨b,y,j,k⟩ hi hl hs;refine wpIn_mono (Y l r x W b k hi hl hs i y j) ?_;rintro e a'' w' ⟨K,axJ,rfl,v⟩;exact v
 ·intro D u W j k v M;refine⟨f,⟨t.size,t.get⟩,?_⟩;show Q .normal f (_::a.defers) W;rw[Z]; exact aa D u W j k v M
end Fx
end Go.Proofs.YtcbedgfikejkoaaGreatDoor
namespace Go.Proofs.YtcbedgfikejkoaaGreatDoor
open Go.RowKit Rt
open Fx (fG eP bA dO Lv sN Ln Ws Wl Wr Sb Wk rV Rs Rn Wb Wx Wo gH nG uG aP Stp Mp iJ mP dD bP bX bY gP gW)
namespace Rt
structure Qx(sb:Nat)(v:Value)(W W':World):Prop where
 size:W.heap.size<=W'.heap.size
 b:W'.heap[sb]? = W.heap[sb]?
 g : ∀ g,v.ownBlock=some g->W'.heap[g]? = W.heap[g]?
theorem Qx.trans{a:Nat}{v:Value}{A B C:World}(h:Qx a v A B)(k:Qx a v B C):Qx a v A C:=⟨m_ h.size k.size,k.b.trans h.b,fun g c=>(k.g g c).trans (h.g g c)⟩
theorem Qx.put{a B:Nat}{v:Value}(e:a<B)(c : ∀ g,v.ownBlock=some g->g<B)(W:World)(l:Nat)(o o':Obj)(d:B<=l):Qx a v W (W.putObj l o'):=⟨by simp,World.putObj_heap_other (by omega),fun g b=>World.putObj_heap_other (by have:=c g b; omega)⟩
theorem Qx.CF{a b:Nat}{v:Value}{W c:World}(h:Stp b W c)(h1:a<W.heap.size)(f:a≠b)(e : ∀ g,v.ownBlock=some g->g<W.heap.size/\g≠b):Qx a v W c:=⟨h.size,h.block a h1 f,fun g d=>h.block g (e g d).1 (e g d).2⟩
theorem afh{q n c s:Nat}{a:Option Addr}{x:Nat->Value}{W d:World}(l:mP W a n s x)(r:0<s)(k:Qx q (.slice a n c) W d):mP d a n s x:=fun h=>by
 obtain⟨b,p,e,m⟩:=l h;refine⟨b,p,e,fun i o => ?_⟩;have f:=m i o;have j:=k.g b (by rw[e]; rfl);unfold World.cell? at f ⊢;rw[j]; exact f
def BwP(b:Nat)(a:Option Addr)(n c:Nat)(l:List Int)(W:World):Prop:=aP W b 1 (fun _ => .slice a n c) 53/\mP W a n 1 (yH l)
theorem BwP.alloc{f n c:Nat}{a:Option Addr}{l:List Int}{W:World}(h:BwP f a n c l W)(o:Obj):BwP f a n c l (W.alloc o) :=
 ⟨(Below.heap_alloc W o f h.1.lt).trans h.1,fun g=>by
   obtain⟨b,p,e,k⟩:=h.2 g;refine⟨b,p,e,fun i m => ?_⟩;have d:=k i m;have j:=Below.heap_alloc W o b (block_lt_of_cell d);unfold World.cell? at d ⊢;rw[j]; exact d⟩
theorem WJ{h f B:Nat}{c:World}{F:List Nat->dM}(h1:h<c.heap.size)(j:f<c.heap.size):Rgx.OH c.heap.size (fun(n:List Nat) W=>tY W B h f (F n)/\Stp f c W):=fun s W i o a b m=>by
 have g : ∀ k,k<c.heap.size->i.heap[k]? = W.heap[k]? := fun k d=>b.block k (n_ d a.2.size) fun e=>by
  have:=(m k e.symm).1; omega
 exact⟨tY.keep a.1 (g h h1) (g f j),⟨b.os.trans a.2.os,b.tape.trans a.2.tape,b.output.trans a.2.output,m_ a.2.size b.size,fun k d l=>(g k d).trans (a.2.block k d l)⟩⟩
theorem ZM{w:World}{B E s n b m:Nat}{v:Value}{x:Nat->Value}{k:Nat->Int}{y:Nat->Value}(a:Fx.Own w B E s v n x)(d:Mp w b m k y){g:Nat}(c:v.ownBlock=some g):g<w.heap.size/\g≠b:=⟨(a.ge c).2,fun e=>d.tL (by rw[<- e]; exact a.ty c)⟩
theorem afi{T:dM}{k:Int}(h : ∀ i,i<T.n->T.x i≠k):T.par k=0:=by
 have : ∀ n,(∀ i,i<n->T.x i≠k)->iO T.x T.p n k=0:=fun n=>by
  induction n with
  | zero=>exact fun _=>rfl
  | succ n ih=>exact fun h=>by unfold iO; rw[b_ (h n (by omega))]; exact ih fun i a=>h i (by omega)
 exact this _ h
structure JB(J:List Nat->World->Prop)(pre:List Nat)(w:World):Prop where
 ab:Rgx.Qw J
 j:J pre w
end Rt
theorem aqf(a:Option Addr)(n c:Nat)(w:World) :
 Calls Tryz.prog 230 #[.slice a (n) (c)] w fun e w' => ∃ d,e = .returned (.func (.func 241) #[] #[(pt d)])/\w.heap.size<=d/\aP w' d 1 (fun _ => .slice a n c) 53/\Below w.heap.size w w':=by
 refine Kent Tryz.func230 4 ?_;refine ay<|vU (.slice a (n) (c)) fun b l h f j m => ?_;have g:=bf j.old (Below.refl w.heap.size w);have i:=gD h;have k:=f.lt;refine av (.nilFunc)<|aC<|ay<|Lv (.func (.func 241) #[] #[(pt b)]) (Fx.lJ (us := []) (vs := [(pt b)]) rfl rfl rfl)<|av (.func (.func 241) #[] #[(pt b)])<|aC<|Wr<|aJ (.func (.func 241) #[] #[(pt b)]) ?_;exact⟨b,rfl,i,f,g⟩
theorem ajb(J:List Nat->World->Prop)(h d c:Nat)(a:Option Addr)(l:List Int)(w:World)(o:aP w d 1 (fun _ => .slice a (l.length) (c)) 53)(I:mP w a l.length 1 (yH l))(n:JB J [] w)(U:l.length<=1000)
 (L : ∀ r x m,J r m->r.length<l.length->Go.YieldAt (Fx.FR none) 1 Tryz.prog h #[au (x:Nat),aD (l.getD x 0)] m fun e y=>e = .returned (.bool true)/\J (r ++ [x]) y/\Qx d (.slice a l.length c) m y) :
  Calls Tryz.prog 241 #[.func (.yield h) #[] #[],(pt d)] w fun e w'=>(∃ v,e = .returned v) /\ ∃ F,F=Hq l.length l.length/\J F w':=by
 have V:=o.lt;have n:JB J (Hq l.length (l.length-l.length)) w:=by rw[Nat.sub_self]; exact n
 refine Kent Tryz.func241 19 ?_;refine ay<|Lv (.slice a (l.length) (c)) (aL o.aH 0)<|av (au l.length)<|Lv (au ((l.length:Int)-1)) gQ<|av (au ((l.length:Int)-1))<|aC<|Wb<|Wo (fun f u => ∃ k:Nat,k<=l.length/\f 0 = .func (.yield h) #[] #[]/\f 1=(pt d)/\f 3=au ((k:Int)-1)/\aP u d 1 (fun _ => .slice a (l.length) (c)) 53/\mP u a l.length 1 (yH l)/\JB J (Hq l.length (l.length-k)) u) (fun f _=>(intOf (f 3)+1).toNat) ⟨l.length,(A_ _),(by rfl),(by rfl),Fx.ic,o,I,n⟩ ?_;rintro S X ⟨k,T,A,B,g,D,E,p⟩;refine Ws<|ay<|aU g ?_;by_cases z:0<=((k:Int)-1)
 ·refine Lv aG (kR z)<|aC<|aM<|Wk<|sN<|Ws<|Wb<|Ws<|Fx.W.abn 2<|Fx.Ly.v (.func (.yield h) #[] #[]) (fG rfl A) ?_;refine Fx.Ly.v (au ((k:Int)-1)) (fG rfl g) ?_;refine Fx.Ly.v (.slice a (l.length) (c)) (bA (x:=fun _ => .slice a (l.length) (c)) rfl B (by kernel_rfl) D.aH (i:=0) (by omega) (by omega) rfl) ?_;refine Fx.Ly.v (au ((k:Int)-1)) (fG rfl g) ?_;obtain⟨G,Q,H,M⟩:=E (by omega);refine Fx.Ly.v (pf G (k+Q-1)) (dO rfl (rfl.trans (L_ (fun q=>Value.slice q (l.length) (c)) H)) rfl Tryz.underlying53 (s:=1) (by kernel_rfl) (by omega) (by omega) (by omega)) ?_;refine Fx.Ly.v (aD (l.getD (k-1) 0)) (bA (x:=yH l) rfl rfl (by kernel_rfl) M (i:=k-1) (by omega) (by omega) rfl) ?_;refine Fx.Ly.yield (l:=h) (args := [au ((k:Int)-1),aD (l.getD (k-1) 0)]) rfl rfl rfl (Fx.args2 rfl rfl) rfl (by have:=L (Hq l.length (l.length-k)) (k-1) _ p.j (by rw[Qu]; omega); rw[show((k-1:Nat):Int)=(k:Int)-1 by omega]at this; exact this) ?_;rintro R t ⟨rfl,K,C⟩;refine⟨.bool true,rfl,?_⟩;have N:aP t d 1 (fun _ => .slice a (l.length) (c)) 53:=C.b.trans D;have O:mP t a l.length 1 (yH l):=afh E (by decide) C;have P:JB J (Hq l.length (l.length-(k-1))) t:=⟨p.ab,by rw[show l.length-(k-1)=(l.length-k)+1 by omega]; unfold Hq; rw[show l.length-1-(l.length-k)=k-1 by omega]; exact K⟩;refine Fx.Ly.v (.bool false) (Fx.Tp rfl rfl) ?_;refine Fx.Ly.nil ?_;refine sN<|aK<|Wk<|bP<|sN<|Wl<|aU g<|Lv (au ((k:Int)-2)) gQ<|av (au ((k:Int)-2))<|Ln<|gW ⟨k-1,(by omega),A,B,Fx.ic,N,O,P⟩ ?_;show(intOf (au ((k:Int)-2))+1).toNat<_;simp only[g,intOf]; omega
 refine Lv aF (kJ z) (aC (aK (Wx (bX (gP (bY (⟨.tuple #[],iJ Tryz.results241,?_⟩)))))));exact⟨⟨_,rfl⟩,_,rfl,by have:=p.j; rw[show l.length-k=l.length by omega]at this; exact this⟩
theorem afj(b c:Nat)(a:Option Addr)(l:List Int)(i:l.length<=1000) :
 Rgx.aff (Fx.FR none) 2 Tryz.prog 241 #[(pt b)] (fun x:Nat => #[au (x:Int),aD (l.getD x 0)]) (Qx b (.slice a l.length c)) (fun k=>k=Hq l.length l.length) l.length (BwP b a l.length c l) :=
 fun j J W ⟨h,e⟩ g f d=>callsIn_wide.2 (ajb J j b c a l W h e ⟨g,d⟩ i f)
namespace Rt
theorem Qy{l:List Int}{T:dM}(b:T.ok)(h : ∀ k,k∈l->T.has k=true)(x:Nat):0<=l.getD x 0/\l.getD x 0<=18446744073709551615:=by
 by_cases a:x<l.length
 ·have d:l.getD x 0∈l:=by rw[r_,o_ a]; exact R_ a
  obtain⟨i,c,e⟩:=iA (h _ d);rw[<- e]; exact WA b c
 rw[r_,List.getElem?_eq_none (by omega)]; decide
theorem Qz{l:List Int}{T:dM}{pa:Int}(a:T.ok)(e:l=T.path pa)(x:Nat):0<=l.getD x 0/\l.getD x 0<=18446744073709551615:=Qy a (fun k d=>by
 obtain⟨i,b,c⟩:=List.getElem_of_mem d;have:=dM.OE a e b;rw[r_,o_ b]at this;rw[<- c]; exact this) x
theorem ZN{l:List Int}{T:dM}(a:T.ok)(h : ∀ k,k∈l<->T.has k=true)(x:Nat):0<=l.getD x 0/\l.getD x 0<=18446744073709551615:=Qy a (fun k b=>(h k).1 b) x
end Rt
theorem afk(m:dN)(lp B:Nat)(w:World)(h:mM w B lp m)(id pa:Int)(hid:0<=id/\id<=18446744073709551615) :
 Calls Tryz.prog 215 #[(pt lp),aD id,aD pa] w fun e w'=>e = .returned (au (m.T.err id pa))/\Below w.heap.size w w':=by
 have hC:=h.c;have hT:=h.t;have hP:=h.p;have hR:=h.r;have hG:=h.g;have hA:=h.a;have hN:=h.ne;have lC:=h.c.lt;have lT:=h.t.lt;have lP:=h.p.lt;have lR:=h.r.lt;have lG:=h.g.lt;have lA:=h.a.lt;refine Fx.afe 3 Tryz.func215 rfl (n:=55) rfl (by rfl) ?_;refine Fx.W0.seq<|Fx.W0.list<|vU (pt lp) fun g1 w1 kQ m1 s1 z1 => ?_;have⟨m2,m3,m4,m5,m6,m7,b1⟩:=jT s1.old hC hT hP hR hG hA (Below.refl w.heap.size w);have rF:=gD kQ;have⟨ny,yB,yA,Cg,Aq⟩:=AL kQ hC.lt hP.lt hR.lt hG.lt hA.lt;have sQ:=m1.lt;refine av (au 0)<|Ln<|Fx.rY<|Fx.W0.seq<|Fx.W0.list<|lD (abB _) ?_;rintro e9 w2 ⟨v,j,u,hg1,m8,hb1⟩;refine⟨_,u,?_⟩;clear u;have nem.auz:m.mb≠j:=u_ (n_ m3.lt hg1);have⟨m9,m10,m11,m12,m13,m14,m15,b2⟩:=nO hb1 m2 m3 m4 m5 m6 m7 m1 b1;have m16:tY w2 (w.heap.size) v j dM.zero:=m8.weak b1.size;clear m8 hg1;refine qR 1 (fun _ => .pointer none) fun L w3 yw m17 s3 z2 => ?_;have⟨m18,m19,m24,mZ,b3⟩:=nN s3.old m9 m10 m15 m16 b2;have pO:=iw yw b2.size;have⟨afl,aqg,aqh,aqi,aqj,aqk⟩:=JE yw m9.lt m11.lt m12.lt m13.lt m14.lt m15.lt;have yu:=m17.lt;refine ji m17 0 (pt v) fun w4 nQ s4 z3 => ?_;have nH:aP w4 L 1 (fun _=>(pt v)) 107:=dD nQ;have fV:=gH s4 m17.ty;have⟨og,oh,nR,pF⟩:=K4 fV m18 m19 m24 mZ;have b4:=s4.below b3 b3.size (by omega);refine Ln<|Fx.rY<|Fx.W0.seq<|Fx.W0.list<|Lv (pt lp) (aL nR.aH 0)<|av (pt lp)<|av (pf lp 18)<|Lv (pt m.tp) (aL og.aH 18)<|av (aD pa)<|lD (NW pa oh) ?_;rintro e9 w5 ⟨F,G,u,nS,hb2⟩;refine⟨_,u,?_⟩;clear u;have⟨mH,qg,qh,b5⟩:=jN hb2 nR pF nH b4;obtain⟨l,J⟩ : ∃ q,q=dM.path m.T pa:=⟨_,rfl⟩;rw[<- J]at nS ⊢;have hl4:l.length<=4:=by rw[J]; exact dM.zP
 refine av (.slice F (l.length) (G))<|Ln<|Fx.rY<|Fx.W0.seq<|Fx.W0.seq<|Fx.W0.list<|av (.slice F (l.length) (G))<|lD (aqf F l.length G _) ?_;rintro e9 w6 ⟨sb1,u,hg2,om,hb3⟩;refine⟨_,u,?_⟩;clear u;have⟨uE,E,wo,tQ,U⟩:=nN hb3 mH qg qh nS b5;refine Ln<|Fx.rY<|Fx.W0.block ?_;have ajc:g1≠j:=E.map.ne uE.ty;have axK:=uE.lt;have ajd:L≠j:=E.map.ne wo.ty;have axL:=wo.lt;have abP:sb1≠j:=E.map.ne om.ty;have aje:=om.lt;have hgm:=E.gm;have ltm:=E.lt;have ltt:=E.blk.lt;have K : ∀ g,(.slice F (l.length) (G):Value).ownBlock=some g->g<w6.heap.size/\g≠j:=fun g y=>ZM tQ E.map y;refine Fx.W0.afg (gf:=241) (lb := #[(pt sb1)]) (eu:=fun x:Nat=>au (x:Int)) (ev2:=fun x=>aD (l.getD x 0)) (by decide) rfl (fun args w=>kN Tryz.func241 (by kernel_rfl) rfl args w) (afj sb1 G F l (by omega)) ⟨om,Fx.adF tQ⟩ (fun W o _ hi=>hi.alloc o) (fun h k=>h.trans k) (fun W l o o' J _ _=>Qx.put aje (fun g y=>(K g y).1) W l o o' J) (by decide) (by decide) (fun xs W=>tY W (w.heap.size) v j (Nr m.T l xs)/\Stp j w6 W) (WJ ltt ltm) ⟨E,nG _ _⟩ (fun x f=>f 3=(pt g1)/\f 7=(pt L)/\f 10=aD (l.getD x 0)) ?_ ?_ ?_
 ·intro ly x W;exact Fx.W0.list (Lv (aD (l.getD x 0)) (eP rfl rfl) (Ln ⟨rfl,rfl,⟨rfl,rfl,rfl⟩,rfl⟩))
 ·rintro ly pre x W f9 ⟨q3,q7,q10⟩ ⟨hT2,s⟩ hpl hWs;have H:Below w.heap.size w W:=s.below U U.size hgm;have C:=h.up H;have hPW:=C.p;have M:=C.c;have N:=C.t;have Q:=uE.cZ s ajc;have ajf:=Q.lt;have R:=wo.cZ s ajd;have ajg:=R.lt;have lWm:j<W.heap.size:=n_ ltm s.size;have lWt:w6.heap.size<=W.heap.size:=s.size;have lCW:=M.lt;have lPW:=hPW.lt;have lTW:=N.lt;have lh0:=h.t.lt;have lh1:=h.p.lt;refine Fx.W0.block ?_;refine Fx.W0.aiZ [1,6,0,2,3,4,5,7,8] [4,0,4,0,0,4,0,4,3] Fx.Mk uG Fx.Mk.trans (fJ := [(8,0,[0]),(8,2,[7,5,4,3,2]),(8,5,[7,5]),(8,7,[7])]) (by kernel_rfl) (by kernel_rfl) (by kernel_rfl) (by kernel_rfl) (by kernel_rfl) fun rE dR iK => ?_;have s7:Stp W.heap.size W rE:=Sb dR;have⟨tT,uF,yD,rG,vK,pz⟩:=oJ dR M hPW N Q R hT2;have b7:=(nG j W).then s7 (.inr (nG j W).size);refine bZ q10<|bZ q10<|Rs (pt v) (aL vK.aH 0 (ha:=q7)) ?_;refine Rs (pt lp) (aL rG.aH 0 (ha:=q3)) ?_;refine aX (pt lp)<|aX (pf lp 19)<|Rs (.map (some m.pb)) (aL tT.aH 19) ?_
  rcases Fx.tN m.T.x m.T.n (l.getD x 0)with ⟨WK,D9,Ea⟩|jL
  ·refine Rs (aD (m.T.p WK)) (Fx.wZ (z:=aD 0) rfl rfl rfl uF Tryz.underlying108 Tryz.underlying23 (by rfl) D9 Ea rfl) ?_;refine gZ<|dH (Lu (l.getD x 0) (m.T.p WK) pz (Qz h.t.inv J x)) _ rfl ?_;rintro w7 ⟨uI,s8⟩;have O:=pz.Cy s8;have m64:=tT.eB O;have xw:=uF.eB O (by omega);have wN:=yD.eB O (by omega);have vL:=rG.eB O;have xA:=vK.eB O;have V:=b7.then s8 (.inl rfl);refine Ln<|Rn<|Fx.Mv ?_;have ep:m.T.par (l.getD x 0)=m.T.p WK:=BA C.t.inv.inj D9 Ea;refine⟨rfl,⟨V.size,fun q hq hq2=>V.block q hq2 (by omega)⟩,Qx.CF V (by omega) abP (fun g y=>⟨n_ (K g y).1 lWt,(K g y).2⟩),?_,s.then V (.inl rfl)⟩;rw[Gq,ep]; exact uI
  refine Rs (aD 0) (Fx.Py (z:=aD 0) rfl rfl rfl uF Tryz.underlying108 Tryz.underlying23 (by rfl) jL) ?_;refine gZ<|dH (Lu (l.getD x 0) 0 pz (Qz h.t.inv J x)) _ rfl ?_;rintro w8 ⟨tV,s9⟩;have P:=pz.Cy s9;have vM:=tT.eB P;have uP:=uF.eB P (by omega);have vN:=yD.eB P (by omega);have vO:=rG.eB P;have zI:=vK.eB P;have X:=b7.then s9 (.inl rfl);refine Ln<|Rn<|Fx.Mv ?_;have ep:m.T.par (l.getD x 0)=0:=afi jL;refine⟨rfl,⟨X.size,fun q hq hq2=>X.block q hq2 (by omega)⟩,Qx.CF X (by omega) abP (fun g y=>⟨n_ (K g y).1 lWt,(K g y).2⟩),?_,s.then X (.inl rfl)⟩;rw[Gq,ep]; exact tV
 rintro D xs W hD rfl ⟨hT2,s⟩ hK;have H:Below w.heap.size w W:=s.below U U.size hgm;have C:=h.up H;have hPW:=C.p;have M:=C.c;have N:=C.t;have Q:=uE.cZ s ajc;have ajf:=Q.lt;have R:=wo.cZ s ajd;have ajg:=R.lt;have lWm:j<W.heap.size:=n_ ltm s.size;have lWt:w6.heap.size<=W.heap.size:=s.size;have lCW:=M.lt;have lPW:=hPW.lt;have lTW:=N.lt;have lh0:=h.t.lt;have lh1:=h.p.lt;have lDW:=(t_.1 hK).1;have oW:=tQ.cZ s (fun e=>(K _ e).2 rfl);refine Fx.Mv<|Fx.rY<|Fx.W0.seq<|Fx.W0.seq<|Fx.W0.list<|Lv (pt lp) (aL Q.aH 0) ?_;refine av (pt lp)<|av (pf lp 18)<|Lv (pt m.tp) (aL M.aH 18)<|lD (UZ N) ?_;rintro e9 w9 ⟨la1,A,d,u,wO,hq1,ajh,hb4⟩;refine⟨_,u,?_⟩;clear u;have s10:=Sb hb4;have⟨xB,xC,yR⟩:=iy hb4 R hT2 oW;have b10:=(nG j W).then s10 (.inr (nG j W).size);refine av (au d.length)<|av (au 0)<|Ln<|Fx.rY<|Fx.W0.block<|Fx.W0.loop (fun f S => ∃ i:Nat,i<=d.length/\f 1=aD id/\f 2=aD pa/\f 7=(pt L)/\f 8 = .slice F (l.length) (G)/\f 37 = .slice la1 (d.length) (A)/\f 38=au (d.length:Int)/\f 39=au (i:Int)/\aP S L 1 (fun _=>(pt v)) 107/\tY S (w.heap.size) v j (lX l d (Nr m.T l (Hq l.length l.length)) i)/\Fx.Own S W.heap.size 23 1 (.slice la1 (d.length) (A)) d.length (yH d)/\Fx.Own S w4.heap.size 23 1 (.slice F (l.length) (G)) l.length (yH l)/\Stp j W S) (fun f _=>((d.length:Int)-intOf (f 39)).toNat) ⟨0,(by omega),Fx.ic,Fx.ic,(by rfl),(by rfl),(by rfl),Fx.ic,Fx.ic,xB,xC,wO,yR,b10⟩ ?_;rintro f1 pJ ⟨i,hi,h1,h2,h3,h4,h5,h6,I,AP,yS,BI,Bq,b11⟩;refine Fx.W0.seq<|Fx.W0.list ?_;by_cases c40:(i:Int)<(d.length:Int)
 ·refine Lv aG (gM c40 (hx:=I) (hy:=h6)) (Ln (Fx.rY (Fx.W0.seq (Fx.W0.cond (b:=true) rfl (fun _=>Fx.W0.skip (Fx.rY (Fx.W0.seq (Fx.W0.block (Fx.W0.seq (Fx.W0.list ?_)))))) (fun h=>nomatch h)))));obtain⟨Eu,Z⟩:=BI.addr (by omega);have Br:Fx.Own pJ W.heap.size 23 1 (bK Eu d.length A) d.length (yH d):=BI.eY (L_ (fun q=>Value.slice q d.length A) Z);refine Lv (pf Eu i) (dw 1 (hx:=(h5.trans (L_ (fun q=>Value.slice q (d.length) (A)) Z))) (hi:=I))<|Lv (aD (d.getD i 0)) (aL Br.aH i)<|av (aD (d.getD i 0))<|Ln<|Fx.rY<|Fx.W0.seq<|Fx.W0.list<|aU h4<|av (aD (d.getD i 0))<|dH (amM l (d.getD i 0) _ _ _ _ Bq (by omega)) (ax := #[.slice F (l.length) (G),aD (d.getD i 0)]) _ rfl ?_;intro DV hb5;have s11:=Sb hb5;have⟨AQ,AU,BJ,FL⟩:=jN hb5 AP yS Bq Br;have b12:=b11.then s11 (.inr b11.size);by_cases Y:d.getD i 0∈l
  ·skip
   refine Lv aF (Fx.Tp rfl (L_ Value.bool (f_ Y)))<|Ln<|Fx.rY<|Fx.W0.cond (b:=false) rfl (fun h=>nomatch h)<|fun _=>Fx.W0.skip<|Fx.Mv<|Fx.rY<|Fx.W0.list<|Lv (au ((i:Int)+1)) (fA (hx:=I))<|av (au ((i:Int)+1))<|Ln ?_;have Es:Fx.Own DV W.heap.size 23 1 (.slice la1 (d.length) (A)) d.length (yH d):=FL.eY (L_ (fun q=>Value.slice q d.length A) Z.symm);have CU:tY DV (w.heap.size) v j (lX l d (Nr m.T l (Hq l.length l.length)) (i+1)):=by unfold lX; rw[d_ Y]; exact AU
   skip
   refine Fx.aiX ⟨i+1,(by omega),(h1.trans Fx.ic),(h2.trans Fx.ic),h3,h4,h5,(h6.trans Fx.ic),Fx.ic,AQ,CU,Es,BJ,b12⟩ ?_;show((d.length:Int)-intOf (au ((i:Int)+1))).toNat<_;simp only[I,intOf]; omega
  skip
  refine Lv aG (Fx.acz rfl (L_ Value.bool (g_ Y))) (Ln (Fx.rY (Fx.W0.cond (b:=true) rfl (fun _=>Fx.W0.list (Lv (pt v) (aL AQ.aH 0 (ha:=h3)) ?_)) (fun h=>nomatch h))));refine av (aD (d.getD i 0))<|dH (Lu (d.getD i 0) 0 AU (ZN h.t.inv hq1.2 i)) _ rfl ?_;rintro Ct ⟨DX,s12⟩;have afm:=AU.Cy s12;have AY:=AQ.eB afm;have Hl:=BJ.eB afm;have ET:=FL.eB afm;have b13:=b12.then s12 (.inl rfl);refine Ln<|Fx.Mv<|Fx.rY<|Fx.W0.list<|Lv (au ((i:Int)+1)) (fA (hx:=I))<|av (au ((i:Int)+1))<|Ln ?_;have Ho:Fx.Own Ct W.heap.size 23 1 (.slice la1 (d.length) (A)) d.length (yH d):=ET.eY (L_ (fun q=>Value.slice q d.length A) Z.symm);have HY:tY Ct (w.heap.size) v j (lX l d (Nr m.T l (Hq l.length l.length)) (i+1)):=by unfold lX; rw[b_ Y]; exact DX
  skip
  refine Fx.aiX ⟨i+1,(by omega),(h1.trans Fx.ic),(h2.trans Fx.ic),h3,h4,h5,(h6.trans Fx.ic),Fx.ic,AY,HY,Ho,Hl,b13⟩ ?_;show((d.length:Int)-intOf (au ((i:Int)+1))).toNat<_;simp only[I,intOf]; omega
 refine Lv aF (gN c40 (hx:=I) (hy:=h6))<|Ln<|Fx.rY<|Fx.W0.seq<|Fx.W0.cond (b:=false) rfl (fun h=>nomatch h)<|fun _=>Fx.W0.exit<|Fx.aiV<|Fx.aqc<|Fx.aiW<|Fx.rY<|Fx.W0.seq ?_;have hil:i=d.length:=by omega
 refine Fx.W0.list<|Lv (pt v) (aL AP.aH 0 (ha:=h3)) ?_;refine aU h1<|aU h2<|dH (Lu id pa yS hid) _ rfl ?_;rintro EM ⟨xL,s13⟩;have afn:=yS.Cy s13;have yV:=AP.eB afn;have xM:=BI.eB afn;have vg:=Bq.eB afn;have b14:=b11.then s13 (.inl rfl);refine av (au (dM.err (lX l d (Nr m.T l (Hq l.length l.length)) i) id pa))<|Ln<|Fx.rY<|Fx.W0.ret ?_;have hKD:=(b14.block D lDW (by omega)).trans hK;have eD:dM.err (lX l d (Nr m.T l (Hq l.length l.length)) d.length) id pa=m.T.err id pa:=ZL h.t.inv J hq1;refine Fx.leaveD hKD (rV Tryz.results215 (show Fx.Hu Tryz.prog _ _ (.tmp 6) (au (dM.err (lX l d (Nr m.T l (Hq l.length l.length)) i) id pa))from rfl)) ⟨by rw[hil,eD],?_⟩;exact(b14.below H H.size hgm).grown (grownBy_putObj' _ D _) (b14.below H H.size hgm).size fun r e=>by cases e; omega
end Go.Proofs.YtcbedgfikejkoaaGreatDoor
namespace Go.Proofs.YtcbedgfikejkoaaGreatDoor
open Go.RowKit
namespace Fx
abbrev Sg:=List (Nat × List Nat)
def Ja(ops:List Oper)(a:List Nat)(b:Bool)(i:Nat)(l:Sg):Bool:=l.all fun x=>match a[x.1]? with|some e => !Nat.beq i e&&(if b then yM ops i x.2 e else yM ops e x.2 i)|none=>false
def OI(ops:List Oper)(a:List Nat)(c b:List Sg):Bool:=(List.range ops.length).all fun i=>Ja ops a true i (c.getD i [])&&Ja ops a false i (b.getD i [])
def qJ(a:List Nat)(b:Array Bool)(j:Nat):Bool:=match a[j]? with|some e=>b.getD e false|none=>false
def WL(m:Nat->Bool)(j:Nat):Nat->Bool:=fun q=>bif Nat.beq q j then true else m q
section
variable {P:Program} {n:Nat} {Q:Post} {f:Nat->Value} {w:World} {ops:List Oper}
theorem Si{i e:Nat}{p:List Nat}{b:Array Bool}(hr:i∈Region.ready .any ops.toArray b)(j:Kz ops.toArray .any b)(d:i≠e)(h:yM ops i p e=true):b.getD e false=true:=by
 obtain⟨m,n,l,g⟩:=fT hr;obtain⟨f,h⟩:=jB h
 cases f with
 | zero=>unfold reach at h; exact M_ (by simpa using h) d
 | succ f =>
   unfold reach at h;rw[Bool.or_eq_true]at h
   rcases h with h|h
   ·exact M_ (by simpa using h) d
   ·rw[l]at h;simp only at h;rw[Array.any_eq_true']at h;obtain⟨c,k,a⟩:=h;rw[T_]at a;refine j.reach _ _ a.2<|g c.on ?_;unfold dK;rw[Array.any_eq_true'];exact⟨c,k,by rw[a.1,Nat.beq_refl]; rfl⟩
theorem W.masks{id:Nat}(o:List Nat)(V Z:List Sg)(y:Gh->Nat->Value)(S:(Nat->Bool)->Gh->World->Prop)(hm:P.follows .mixedOrders=true)(T:mO n ops=true)(hsel:Region.noSelect ops.toArray=true)(WO:OI ops o V Z=true)
 (hes:o.all (fun e=>Nat.blt e ops.length&&(match (opAt ops e).guard with|none=>true|_=>false))=true) (hnd:o.Nodup) (r0:Gh)
 (h0 : ∀ C,Below w.heap.size w C->C.heap.size=w.heap.size->S (fun _=>false) r0 C)
 (I : ∀ i,i<ops.length->o.contains i=false -> ∀ r m w,(∀ x∈V.getD i [],m x.1=true)->(∀ x∈Z.getD i [],m x.1=false)->S m r w->if Region.wanted (opAt ops i) (yf ops.toArray (full ops f (y r)))then Oper.quietUpon P (S m r) w (y r i) ((execOp (ev (full ops f (y r))) (opAt ops i)).run P w)else y r i=undef)
 (H : ∀ j i,o[j]? = some i -> ∀ r m w (a:Act) (K:Act->World->Prop),(∀ x∈V.getD i [],m x.1=true)->(∀ x∈Z.getD i [],m x.1=false)->m j=false->S m r w->(∀ x∈(opAt ops i).op.operands,a.eval x=ev (full ops f (y r)) x)->(∀ p w',S (WL m j) (sD r j p) w'->K (a.put (opAt ops i).dst (y (sD r j p) i)) w')->(opAt ops i).wp P a w K (lift n Q))
 (hd : ∀ i,i<ops.length -> ∀ j r p,(∀ x∈V.getD i [],x.1≠j)->o[j]? ≠ some i->j<o.length->y (sD r j p) i=y r i)
 (h : ∀ r m w',(∀ j,j<o.length->m j=true)->S m r w'->Q .normal (full ops f (y r)) w'):W P n (.region id ops.toArray true) Q f w:=fun a L=>by
 refine wp_region_any hm ?_;have Y : ∀ i,i<ops.length->Ja ops o true i (V.getD i [])=true/\Ja ops o false i (Z.getD i [])=true:=fun i t=>by
  unfold OI at WO;rw[List.all_eq_true]at WO;have:=WO i (by simpa using t)
  rwa [T_]at this
 have hpr : ∀ i,i<ops.length -> ∀ x∈V.getD i [],∃ e,o[x.1]? = some e/\i≠e/\yM ops i x.2 e=true:=fun i t x F=>by
  have c:=(Y i t).1;unfold Ja at c;rw[List.all_eq_true]at c;have c:=c x F
  cases H:o[x.1]? with
  | none=>rw[H]at c; cases c
  | some e =>
    rw[H]at c;simp only[if_true,T_]at c;exact⟨e,rfl,fun q=>by subst q; rw[Nat.beq_refl]at c; exact M_ c.1 (by simp),c.2⟩
 have hpo : ∀ i,i<ops.length -> ∀ x∈Z.getD i [],∃ e,o[x.1]? = some e/\yM ops e x.2 i=true:=fun i t x F=>by
  have c:=(Y i t).2;unfold Ja at c;rw[List.all_eq_true]at c;have c:=c x F
  cases H:o[x.1]? with
  | none=>rw[H]at c; cases c
  | some e =>
    rw[H]at c;simp only[T_]at c;exact⟨e,rfl,by simpa using c.2⟩
 have TA : ∀ k i,o[k]? = some i->i<ops.length/\(opAt ops i).guard=none:=fun k i hk=>by
  rw[List.all_eq_true]at hes;have:=hes i (List.mem_of_getElem? hk);rw[T_]at this;refine⟨by simpa [Nat.blt_eq] using this.1,?_⟩
  cases hg:(opAt ops i).guard with
  | none=>rfl
  | some _=>rw[hg]at this; exact M_ this.2 (by simp)
 have key : ∀(N:Nat) (b:Array Bool) (a:Act) (C:World) (r:Gh),b.size=ops.length->Kz ops.toArray .any b->Fr a n (over ops f (y r) b)->S (qJ o b) r C ->
  (∀ M:List Nat,M=(List.range ops.length).filter (fun i => !b.getD i false)->M.length=N)->wpAny P .any ops.toArray (lift n Q) N b a C:=by
  intro N
  induction N with
  | zero =>
    intro b a C r U El L O X;have R : ∀ i,i<ops.length->b.getD i false=true:=fun i t=>by
     have c:=List.eq_nil_of_length_eq_zero (X _ rfl)
     cases I:b.getD i false
     ·have:i∈(List.range ops.length).filter (fun i => !b.getD i false):=(by simp only[List.mem_filter,O_]; exact⟨t,by rw[I]; rfl⟩);rw[c]at this; cases this
     ·rfl
    have hnone:Region.ready .any ops.toArray b = []:=by
     cases I:Region.ready .any ops.toArray b with
     | nil=>rfl
     | cons i l =>
       have E:i∈Region.ready .any ops.toArray b:=(by rw[I]; exact List.mem_cons_self);obtain⟨c,D,_,_⟩:=fT E;rw[R i D]at c; cases c
    refine⟨hnone,full ops f (y r),?_,h r _ C (fun j A => ?_) O⟩
    ·have:over ops f (y r) b=full ops f (y r):=by
      funext s
      unfold over full
      cases Y:writer ops s with
      | none=>rfl
      | some i=>simp only; rw[d_ (R i (nY Y).2)]
     exact this ▸ L
    ·unfold qJ;rw[o_ A];exact R _ (TA j _ (o_ A)).1
  | succ N ih =>
    intro b a C r U El L O X;have hcount : ∀ i,i∈Region.ready .any ops.toArray b -> ∀ M:List Nat,M=(List.range ops.length).filter (fun j => !(b.setIfInBounds i true).getD j false)->M.length=N:=by
     intro i E M acC;obtain⟨c,D,_,_⟩:=fT E;subst acC;have e:(List.range ops.length).filter (fun j => !(b.setIfInBounds i true).getD j false)=((List.range ops.length).filter (fun i => !b.getD i false)).erase i:=by
      rw[List.Nodup.erase_eq_filter (List.Nodup.sublist List.filter_sublist List.nodup_range),List.filter_filter];apply List.filter_congr;intro j A;by_cases e:i=j
      ·subst e; rw[set_self (by rw[U]; exact D)]; simp
      ·rw[kP e];have:(j != i)=true:=(by simp; exact fun q=>e q.symm);rw[this,Bool.true_and]
     rw[e,List.length_erase_of_mem (by simp only[List.mem_filter,O_]; exact⟨D,by rw[c]; rfl⟩),X _ rfl];rfl
    refine⟨fun hnone => ?_,fun i E => ?_⟩
    ·exfalso;have hlen:=X _ rfl;exact(by
      have : ∃ i,i∈Region.ready .any ops.toArray b:=by
       obtain⟨q,I⟩ : ∃ q,q∈(List.range ops.length).filter (fun i => !b.getD i false):=by
        cases hfe:(List.range ops.length).filter (fun i => !b.getD i false)with
        | nil=>rw[hfe]at hlen; cases hlen
        | cons q l=>exact⟨q,List.mem_cons_self⟩
       have ND : ∀ m q,q<=m->q<ops.length->b.getD q false=false -> ∃ i,i<ops.length/\b.getD i false=false /\ ∀ j,j<i->b.getD j false=true:=by
        intro m
        induction m with
        | zero=>intro q hm B hq2; exact⟨q,B,hq2,fun j A=>by omega⟩
        | succ m ihm =>
          intro q hm B hq2;by_cases R : ∀ j,j<q->b.getD j false=true
          ·exact⟨q,B,hq2,R⟩
          ·obtain⟨j,A⟩:=Classical.not_forall.1 R;obtain⟨hj1,hj2⟩:=Classical.not_imp.1 A;exact ihm j (by omega) (by omega) (by simpa using hj2)
       simp only[List.mem_filter,O_]at I;obtain⟨i,t,hi1,hi2⟩:=ND q q (A_ _) I.1 (by simpa using I.2);refine⟨i,mem_ready.2 ⟨getD_in (by rw[U]; exact t) hi1,opAt ops i,?_,fun e H hb=>hi2 e.on ((fI T t).2.2.2 e.on ?_)⟩⟩
       ·unfold opAt; rw[List.getElem?_toArray,r_,o_ t]; rfl
       ·unfold dK; rw[Array.any_eq_true']; exact⟨e,H,by rw[hb,Nat.beq_refl]; rfl⟩
      obtain⟨i,t⟩:=this;rw[hnone]at t; cases t)
    ·obtain⟨c,t,hop,R⟩:=fT E;have hsz':(b.setIfInBounds i true).size=ops.length:=(by simpa using U);have KV:=El.set E;have hev:=Po (f:=f) T (v:=y r) E;have hae : ∀ x∈(opAt ops i).op.operands,a.eval x=ev (full ops f (y r)) x:=fun x F=>by rw[L.ev]; exact hev x F
     have hex:execOp a.eval (opAt ops i)=execOp (ev (full ops f (y r))) (opAt ops i):=execOp_congr _ (Region.noSelect_spec hsel i _ · · hop) hae;have hwant:Region.wanted (opAt ops i) (yielded ops.toArray a.tmps)=Region.wanted (opAt ops i) (yf ops.toArray (full ops f (y r))):=(by rw[L.yf]; exact DR T E);have hpre : ∀ x∈V.getD i [],qJ o b x.1=true:=fun x F=>by
      obtain⟨e,D,h3,G⟩:=hpr i t x F;unfold qJ;rw[D]; exact Si E El h3 G
     have hpost : ∀ x∈Z.getD i [],qJ o b x.1=false:=fun x F=>by
      obtain⟨e,D,G⟩:=hpo i t x F;unfold qJ;rw[D]
      cases hle:b.getD e false with
      | false=>exact hle
      | true =>
        obtain⟨mm,G⟩:=jB G;have:=El.reach _ _ G hle;rw[c]at this; cases this
     unfold wpOp;simp only[hop];rw[hwant];by_cases hne:o.contains i=true
     ·have hmem:i∈o:=(by simpa using hne);obtain⟨j,A⟩:=List.getElem?_of_mem hmem;have hg:=(TA j i A).2;have hjl:j<o.length:=(List.getElem?_eq_some_iff.1 A).1;rw[d_ (by unfold Region.wanted; rw[hg])];refine .inl<|H j i A r _ C a _ hpre hpost (by unfold qJ; rw[A]; exact c) O hae fun p w' hS' => ?_;have hsame:over ops f (y r) b=over ops f (y (sD r j p)) b:=by
       funext s
       unfold over
       cases Y:writer ops s with
       | none=>rfl
       | some q =>
         simp only
         cases hlq:b.getD q false
         ·rfl
         ·simp only[if_true];have hqi:=(nY Y).2;refine(hd q hqi j r p (fun x F e => ?_) (fun e => ?_) hjl).symm
          ·obtain⟨J,D,h3,G⟩:=hpr q hqi x F;obtain⟨mm,G⟩:=jB G;have h5:=El.reach _ _ G hlq;rw[e,A]at D;rw[<- C_ D,c]at h5; cases h5
          ·rw[A]at e;rw[<- C_ e,c]at hlq; cases hlq
      refine ih _ _ _ (sD r j p) hsz' KV ?_ ?_ (hcount i E)
      ·have:=(hsame ▸ L).put (d:=(opAt ops i).dst) (by
        cases hd:(opAt ops i).dst with
        | none=>rfl
        | some d=>simp[inn,Nat.blt_eq,((fI T t).1 d hd).2]) (y (sD r j p) i)
       rwa [Bz T U t]at this
      ·have e:qJ o (b.setIfInBounds i true)=WL (qJ o b) j:=by
        funext q
        unfold WL
        cases hb:Nat.beq q j with
        | true =>
          have:=B_ hb;subst this;unfold qJ;rw[A]; exact set_self (by rw[U]; exact t)
        | false =>
          have hqj:q≠j:=fun z=>by rw[z,Nat.beq_refl]at hb; cases hb
          unfold qJ
          cases hqe:o[q]? with
          | none=>rfl
          | some J =>
            have:i≠J:=fun z=>by
             subst z;have h9:=List.getElem?_eq_some_iff.1 hqe;have h10:=List.getElem?_eq_some_iff.1 A;exact hqj ((List.getElem_inj hnd).1 (h9.2.trans h10.2.symm))
            exact kP this
       rw[e]; exact hS'
     ·have hne':o.contains i=false:=(by simpa using hne);have B:=I i t hne' r _ C hpre hpost O;have hfin : ∀ w',S (qJ o b) r w'->wpAny P .any ops.toArray (lift n Q) N (b.setIfInBounds i true) (a.put (opAt ops i).dst (y r i)) w':=fun w' hS'=>by
       refine ih _ _ _ r hsz' KV ?_ ?_ (hcount i E)
       ·have:=L.put (d:=(opAt ops i).dst) (by
         cases hd:(opAt ops i).dst with
         | none=>rfl
         | some d=>simp[inn,Nat.blt_eq,((fI T t).1 d hd).2]) (y r i)
        rwa [Bz T U t]at this
       ·have e:qJ o (b.setIfInBounds i true)=qJ o b:=by
         funext q
         unfold qJ
         cases hqe:o[q]? with
         | none=>rfl
         | some J =>
           have:i≠J:=fun z=>by subst z; exact M_ (show o.contains i=true by simpa using List.mem_of_getElem? hqe) hne
           exact kP this
        rw[e]; exact hS'
      by_cases hwt:Region.wanted (opAt ops i) (yf ops.toArray (full ops f (y r)))=true
      ·rw[d_ hwt]at B ⊢;refine .inl ?_;unfold Oper.wp;rw[hex];generalize (execOp (ev (full ops f (y r))) (opAt ops i)).run P C=res at B
       cases res with
       | ok nx w' =>
         cases nx <;> simp only[Oper.quietUpon]at B <;> simp only[Oper.upon]
         case value u=>obtain⟨e1,J⟩:=B; subst e1 J; exact hfin _ O
         case skip=>obtain⟨e1,J⟩:=B; subst e1; rw[<- J]; exact hfin _ O
         case enter g args =>
          obtain⟨e1,hc⟩:=B;subst e1;exact hc.mono fun e w'' ⟨he',hw''⟩=>by subst he'; exact hfin _ hw''
       | halt x w'=>simp only[Oper.quietUpon]at B
      ·rw[b_ hwt]at B ⊢;rw[<- B];exact hfin _ O
 have hrep : ∀ i,(Array.replicate ops.toArray.size false).getD i false=false:=fun i=>by
  rw[Array.getD_eq_getD_getElem?];by_cases t:i<ops.length
  ·simp[t]
  ·simp[t]
 have hstart:over ops f (y r0) (Array.replicate ops.toArray.size false)=f:=by
  funext s
  unfold over
  cases writer ops s with
  | none=>rfl
  | some i=>simp only; rw[hrep]; simp
 have hdn:qJ o (Array.replicate ops.toArray.size false)=fun _=>false:=by
  funext j
  unfold qJ
  cases o[j]? with
  | none=>rfl
  | some e=>exact hrep e
 have:=key ops.toArray.size (Array.replicate ops.toArray.size false) a { w with drawn:=w.drawn+1 } r0 (by simp) (Kz.start _ _ _) (by rw[hstart]; exact L) (by rw[hdn]; exact h0 _ (Below.refl _ _).drew rfl) (fun M X=>by
  subst X;rw[List.filter_eq_self.2 (fun i _=>by rw[hrep]; rfl)];simp)
 simpa using this
theorem eO{r:Gh}{k j:Nat}{p:Nat × Nat}(h:j≠k):sD r k p j=r j:=by
 unfold sD;have:Nat.beq j k=false:=by
  cases hq:Nat.beq j k
  ·rfl
  ·exact M_ (B_ hq) h
 rw[this]; rfl
theorem Mx{o:Oper}{ρ:Operand->Value}{T:TypeId}{m:Nat}{z:Nat->Value}(d:o.op = .alloc T)(e:((P.info? T).bind (·.zero)).map (·.cells)=some (aA m z))(a:World) : ∃ b,(execOp ρ o).run P a = .ok (.value (.pointer (some ⟨a.heap.size,0,none⟩))) b/\aP b a.heap.size m z T/\Stp a.heap.size a b:=by
 obtain⟨i,f,g⟩:=Option.map_eq_some_iff.1 e;obtain⟨j,c,h⟩:=Option.bind_eq_some_iff.1 f;refine⟨a.alloc (.cells i.cells T),?_,?_,Stp.alloc _ _⟩
 ·unfold execOp;simp[d,Instr.alloc,zeroValue,typeInfo,c,h,newVar,newRow]
 show(a.alloc _).heap[a.heap.size]? = _;rw[alloc_at,d_ rfl,g]
theorem MB{o:Oper}{ρ:Operand->Value}{T T':TypeId}{a v:Operand}{m g:Nat}{x y:Nat->Value}{u:Value}(A:o.op = .store T' a v)(l:(P.info? T').map (·.size)=some m)(n:ρ a = .pointer (some ⟨g,0,none⟩))(p:ρ v=u)(D:u.cells=aA m y)(h1 : ∀ j,j<m->(y j).oneCell'=true){b:World}(t:aP b g m x T) : ∃ d,(execOp ρ o).run P b = .ok .skip d/\aP d g m y T/\Stp g b d:=by
 have h:b.heap[g]? = some (.cells (aA m x) T (0,0)):=t;have s:(aA m y).all (·.oneCell')=true:=by
  rw[Array.all_eq_true_iff_forall_mem];intro q B;obtain⟨j,i,z⟩:=Array.getElem_of_mem B;have k:j<m:=by simpa [cB] using i
  have e:=fQ y k;rw[Array.getElem?_eq_getElem i,z]at e;rw[C_ e]; exact h1 j k
 have C:(storeVar T' ⟨g,0,none⟩ u).run P b = .ok () (b.setRow g (aA m y)):=by
  have f:=run_storeCells_at (P:=P) g 0 T (aA m y).toList 0 (aA m x) b h (by simp[cB]) (fun q c=>(Array.all_eq_true_iff_forall_mem.1 s) q (by simpa using c));have r:((aA m x).toList.take (0+0)++(aA m y).toList++(aA m x).toList.drop (0+0+(aA m y).toList.length)).toArray=aA m y:=by
   rw[List.drop_eq_nil_of_le (by simp[cB])]; simp
  rw[r]at f
  cases c:P.info? T' with
  | none=>simp[c]at l
  | some ti =>
    have E:ti.size=m:=(by simp[c]at l; omega);simp only[storeVar,sizeOf,typeInfo,Sem.run_bind,run_program,c,D,cB,E,ne_eq,not_true_eq_false,if_false,Result.andThen_ok,Sem.run_pure,f]
 obtain⟨F,G,H⟩:=Ay (w:=b) (cs:=aA m y) h;refine⟨_,?_,G,F⟩;unfold execOp;simp only[A,n,p,Instr.storeAt,Instr.sureAddr,Sem.run_bind,Sem.run_pure,Result.andThen_ok,C]
def Dn(c d:Nat)(vs:Array Value)(a b:Nat):Nat->Value:=fun i=>bif Nat.beq i c then .pointer (some ⟨a,0,none⟩)else bif Nat.beq i d then .pointer (some ⟨b,0,none⟩)else vs.getD i undef
def Kh(ops:List Oper)(f:Nat->Value)(c d:Nat)(vs:Array Value)(a b:Nat):Nat->Value:=full ops f (Dn c d vs a b)
structure ZO(w:World)(m1 m2:Nat)(z1 y1 z2 y2:Nat->Value)(T1 T2:TypeId)(m:Nat->Bool)(r:Gh)(v:World):Prop where
 b:Below w.heap.size w v
 a:m 0=true->w.heap.size<=(r 0).1/\aP v (r 0).1 m1 (if m 2=true then y1 else z1) T1
 c:m 1=true->w.heap.size<=(r 1).1/\aP v (r 1).1 m2 (if m 3=true then y2 else z2) T2
 ne:m 0=true->m 1=true->(r 0).1≠(r 1).1
theorem ZO.up{m1 m2:Nat}{z1 y1 z2 y2:Nat->Value}{T1 T2:TypeId}{m:Nat->Bool}{r:Gh}{v e:World}(h:ZO w m1 m2 z1 y1 z2 y2 T1 T2 m r v)(d:Below v.heap.size v e):ZO w m1 m2 z1 y1 z2 y2 T1 T2 m r e :=
 ⟨Nn h.b d,fun q=>⟨(h.a q).1,(h.a q).2.cZ (Sb d) (u_ (h.a q).2.lt)⟩,fun q=>⟨(h.c q).1,(h.c q).2.cZ (Sb d) (u_ (h.c q).2.lt)⟩,h.ne⟩
def OJ(P:Program)(a:Nat->Value)(ops:Array Oper)(w:World)(b:List Nat)(vs:Array Value):List Oper->Nat->Prop
 | [],_=>True
 | o::l,i=>(b.contains i=true\/(if Region.wanted o (yf ops a)then QB P (ev a) o w (vs.getD i undef)else vs.getD i undef=undef))/\OJ P a ops w b vs l (i+1)
theorem Jb{a:Nat->Value}{c:Array Oper}{b:List Nat}{vs:Array Value} : ∀ {l:List Oper} {k:Nat},OJ P a c w b vs l k -> ∀ i,i<l.length->(b.contains (k+i)=true\/(if Region.wanted (opAt l i) (yf c a)then QB P (ev a) (opAt l i) w (vs.getD (k+i) undef)else vs.getD (k+i) undef=undef))
 | [],_,_,i,hi=>M_ hi (by simp)
 | o::l,k,h,0,_=>h.1
 | o::l,k,h,i+1,hi=>by
   have:=Jb h.2 i (by simpa using hi)
   rwa [show k+1+i=k+(i+1) by omega]at this
theorem Gr{i j:Nat}(h:i≠j):Nat.beq i j=false:=by
 cases hq:Nat.beq i j
 ·rfl
 exact M_ (B_ hq) h
def Dp(l:Sg)(j:Nat):Bool:=l.any fun x=>Nat.beq x.1 j
theorem xS{l:Sg}{j:Nat}(h:Dp l j=true) : ∃ x∈l,x.1=j:=by
 unfold Dp at h;rw[List.any_eq_true]at h;obtain⟨x,a,b⟩:=h;exact⟨x,a,B_ b⟩
theorem Gs{id:Nat}{T1 T2 T1' T2':TypeId}{a1 v1 a2 v2:Operand}{m1 m2:Nat}{z1 y1 z2 y2:Nat->Value}{u1 u2:Value}(k l y z:Nat)(N M:List Sg)(vs:Array Value)(hm:P.follows .mixedOrders=true)(hok:mO n ops=true)(hsel:Region.noSelect ops.toArray=true)(WO:OI ops [k,l,y,z] N M=true)
 (hes : [k,l,y,z].all (fun e=>Nat.blt e ops.length&&(match (opAt ops e).guard with|none=>true|_=>false))=true) (hnd:decide [k,l,y,z].Nodup=true)
 (hw1:Dp (N.getD y []) 0=true) (hw2:Dp (N.getD z []) 1=true) (hw3:Dp (M.getD k []) 2=true) (hw4:Dp (M.getD l []) 3=true)
 (o1:(opAt ops k).op = .alloc T1) (o2:(opAt ops l).op = .alloc T2) (n1:((P.info? T1).bind (·.zero)).map (·.cells)=some (aA m1 z1)) (n2:((P.info? T2).bind (·.zero)).map (·.cells)=some (aA m2 z2))
 (U:(opAt ops y).op = .store T1' a1 v1) (V:(opAt ops z).op = .store T2' a2 v2) (X:(opAt ops y).dst=none) (Y:(opAt ops z).dst=none) (e1:(P.info? T1').map (·.size)=some m1) (e2:(P.info? T2').map (·.size)=some m2)
 (ha1 : ∀ o s,ev (Kh ops f k l vs o s) a1 = .pointer (some ⟨o,0,none⟩)) (ha2 : ∀ o s,ev (Kh ops f k l vs o s) a2 = .pointer (some ⟨s,0,none⟩)) (hv1 : ∀ o s,ev (Kh ops f k l vs o s) v1=u1) (hv2 : ∀ o s,ev (Kh ops f k l vs o s) v2=u2)
 (hu1:u1.cells=aA m1 y1) (hu2:u2.cells=aA m2 y2) (h11 : ∀ j,j<m1->(y1 j).oneCell'=true) (h12 : ∀ j,j<m2->(y2 j).oneCell'=true)
 (hq : ∀ o s,OJ P (Kh ops f k l vs o s) ops.toArray w [k,l,y,z] vs ops 0)
 (h : ∀ o s w' Z,Z=Kh ops f k l vs o s->w.heap.size<=o->w.heap.size<=s->o≠s->aP w' o m1 y1 T1->aP w' s m2 y2 T2->Below w.heap.size w w'->Q .normal Z w'):W P n (.region id ops.toArray true) Q f w:=by
 have hn:=h_ hnd;simp only[List.nodup_cons,List.mem_cons,List.not_mem_nil,or_false,not_or]at hn;obtain⟨⟨x12,x1s,x1t⟩,⟨x2s,x2t⟩,xst,_⟩:=hn;refine W.masks [k,l,y,z] N M (fun r=>Dn k l vs (r 0).1 (r 1).1) (ZO w m1 m2 z1 y1 z2 y2 T1 T2) hm hok hsel WO hes (h_ hnd) (fun _=>(0,0)) (fun w1 A _=>⟨A,fun h=>(nomatch h),fun h=>(nomatch h),fun h=>(nomatch h)⟩) ?_ ?_ ?_ ?_
 ·intro i hi T r m v _ _ d
  rcases Jb (hq (r 0).1 (r 1).1) i hi with h2|h2
  ·rw[G_]at h2; rw[h2]at T; cases T
  rw[G_]at h2;have hni':i≠k/\i≠l/\i≠y/\i≠z:=by simpa using T
  have H:Dn k l vs (r 0).1 (r 1).1 i=vs.getD i undef:=by unfold Dn; rw[Gr hni'.1,Gr hni'.2.1]; rfl
  show if Region.wanted (opAt ops i) (yf ops.toArray (Kh ops f k l vs (r 0).1 (r 1).1))then Oper.quietUpon P _ v (Dn k l vs (r 0).1 (r 1).1 i) ((execOp (ev (Kh ops f k l vs (r 0).1 (r 1).1)) (opAt ops i)).run P v)else Dn k l vs (r 0).1 (r 1).1 i=undef;rw[H];by_cases hw:Region.wanted (opAt ops i) (yf ops.toArray (Kh ops f k l vs (r 0).1 (r 1).1))=true
  ·rw[d_ hw]at h2 ⊢
   rcases h2 v d.b with h3|⟨g,args,h3,h4⟩
   ·rw[h3]; exact⟨rfl,rfl⟩
   rw[h3]; exact⟨rfl,h4.mono fun e w2 ⟨he,hb2⟩=>⟨he,d.up hb2⟩⟩
  rw[b_ hw]at h2 ⊢; exact h2
 ·intro j i t r m v a K hpr hpo hmj d B J
  match j,t with
  | 0,t =>
    obtain rfl:k=i:=(by simpa using t);obtain⟨v2,E,A,u⟩:=Mx (ρ:=a.eval) o1 n1 v;unfold Oper.wp;rw[E];obtain⟨x,C,D⟩:=xS hw3;have hm2:m 2=false:=(by rw[<- D]; exact hpo x C);have:=J (v.heap.size,0) v2 ⟨Nn d.b u.old,fun _=>by
     rw[pY];exact⟨d.b.size,by show aP v2 v.heap.size m1 (if m 2=true then y1 else z1) T1; rw[hm2]; exact A⟩,fun q=>by
     have q:m 1=true:=q;rw[eO (by decide)];exact⟨(d.c q).1,(d.c q).2.cZ u (u_ (d.c q).2.lt)⟩,fun _ q=>by
     have q:m 1=true:=q;rw[pY,eO (by decide)];exact Nat.ne_of_gt (d.c q).2.lt⟩
    have H:Dn k l vs (sD r 0 (v.heap.size,0) 0).1 (sD r 0 (v.heap.size,0) 1).1 k = .pointer (some ⟨v.heap.size,0,none⟩):=(by unfold Dn; rw[Nat.beq_refl,pY]; rfl);rw[H]at this;exact this
  | 1,t =>
    obtain rfl:l=i:=(by simpa using t);obtain⟨v2,E,A,u⟩:=Mx (ρ:=a.eval) o2 n2 v;unfold Oper.wp;rw[E];obtain⟨x,C,D⟩:=xS hw4;have hm3:m 3=false:=(by rw[<- D]; exact hpo x C);have:=J (v.heap.size,0) v2 ⟨Nn d.b u.old,fun q=>by
     have q:m 0=true:=q;rw[eO (by decide)];exact⟨(d.a q).1,(d.a q).2.cZ u (u_ (d.a q).2.lt)⟩,fun _=>by
     rw[pY];exact⟨d.b.size,by show aP v2 v.heap.size m2 (if m 3=true then y2 else z2) T2; rw[hm3]; exact A⟩,fun q _=>by
     have q:m 0=true:=q;rw[pY,eO (by decide)];exact u_ (d.a q).2.lt⟩
    have H:Dn k l vs (sD r 1 (v.heap.size,0) 0).1 (sD r 1 (v.heap.size,0) 1).1 l = .pointer (some ⟨v.heap.size,0,none⟩):=(by unfold Dn; rw[Gr (fun e=>x12 e.symm),Nat.beq_refl,pY]; rfl);rw[H]at this;exact this
  | 2,t =>
    obtain rfl:y=i:=(by simpa using t);obtain⟨x,C,D⟩:=xS hw1;have F:m 0=true:=(by rw[<- D]; exact hpr x C);have O:a.eval a1 = .pointer (some ⟨(r 0).1,0,none⟩):=(B a1 (by rw[U]; simp[Op.operands])).trans (ha1 (r 0).1 (r 1).1);have R:a.eval v1=u1:=(B v1 (by rw[U]; simp[Op.operands])).trans (hv1 (r 0).1 (r 1).1);obtain⟨I,E,A,u⟩:=MB U e1 O R hu1 h11 (d.a F).2;unfold Oper.wp;rw[E];show K (a.put (opAt ops y).dst undef) _;rw[X];have:=J (0,0) I ⟨u.below d.b d.b.size (d.a F).1,fun _=>by
     rw[eO (by decide)];exact⟨(d.a F).1,by show aP I (r 0).1 m1 (if WL m 2 2=true then y1 else z1) T1; exact A⟩,fun q=>by
     have q:m 1=true:=q;rw[eO (by decide)];exact⟨(d.c q).1,(d.c q).2.cZ u (fun e=>d.ne F q e.symm)⟩,fun _ q=>by
     have q:m 1=true:=q;rw[eO (by decide),eO (by decide)];exact d.ne F q⟩
    rw[X]at this;exact this
  | 3,t =>
    obtain rfl:z=i:=(by simpa using t);obtain⟨x,C,D⟩:=xS hw2;have G:m 1=true:=(by rw[<- D]; exact hpr x C);have O:a.eval a2 = .pointer (some ⟨(r 1).1,0,none⟩):=(B a2 (by rw[V]; simp[Op.operands])).trans (ha2 (r 0).1 (r 1).1);have R:a.eval v2=u2:=(B v2 (by rw[V]; simp[Op.operands])).trans (hv2 (r 0).1 (r 1).1);obtain⟨I,E,A,u⟩:=MB V e2 O R hu2 h12 (d.c G).2;unfold Oper.wp;rw[E];show K (a.put (opAt ops z).dst undef) _;rw[Y];have:=J (0,0) I ⟨u.below d.b d.b.size (d.c G).1,fun q=>by
     have q:m 0=true:=q;rw[eO (by decide)];exact⟨(d.a q).1,(d.a q).2.cZ u (d.ne q G)⟩,fun _=>by
     rw[eO (by decide)];exact⟨(d.c G).1,by show aP I (r 1).1 m2 (if WL m 3 3=true then y2 else z2) T2; exact A⟩,fun q _=>by
     have q:m 0=true:=q;rw[eO (by decide),eO (by decide)];exact d.ne q G⟩
    rw[Y]at this;exact this
  | j+4,t=>simp at t
 ·intro i hi j r p C hne hjl;have t:j=0\/j=1\/j=2\/j=3:=by simp at hjl; omega
  show Dn k l vs (sD r j p 0).1 (sD r j p 1).1 i=Dn k l vs (r 0).1 (r 1).1 i;unfold Dn
  rcases t with rfl|rfl|rfl|rfl
  ·have:i≠k:=fun e=>hne (by rw[e]; rfl);rw[Gr this]; simp only[cond_false]; rw[eO (by decide)]
  ·have:i≠l:=fun e=>hne (by rw[e]; rfl);rw[Gr this]; simp only[cond_false]; rw[eO (by decide)]
  ·rw[eO (by decide),eO (by decide)]
  rw[eO (by decide),eO (by decide)]
 intro r m w' L d;have m0:=L 0 (by simp); have m1':=L 1 (by simp); have m2':=L 2 (by simp); have m3:=L 3 (by simp);have B:=d.a m0; have S:=d.c m1';rw[m2']at B; rw[m3]at S;exact h (r 0).1 (r 1).1 w' _ rfl B.1 S.1 (d.ne m0 m1') B.2 S.2 d.b
end
end Fx
end Go.Proofs.YtcbedgfikejkoaaGreatDoor
