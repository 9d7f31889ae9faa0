/-
  What the proof of the law rests on, part 5: walks of functions, and plain laws; each says its conditions itself.
-/
import Derived.Test.YtahbiajdgealnaaGreatDoorRows
import Derived.OrdersIn
import Derived.Test.YtahbiajdgealnaaGreatDoorZF4
set_option maxRecDepth 20000
set_option linter.unusedVariables false
set_option maxHeartbeats 1600000
set_option linter.unusedSimpArgs false
namespace Go.Proofs.YtahbiajdgealnaaGreatDoor
open Go.RowKit Rt
open Fx (Lv sN Ln Ws Qv Wl Wr Sb Wk sR Wb Wx Wo Qn gZ rv aA aQ ev cO Stp aU flat down mM bO bQ cu cB gL gF qm)
section
namespace Rt
structure Inv0(L:fZ)(T:Nat):Prop where
 Bt:L.tn=L.nn
 nn:L.nn<=32
 tid : ∀ i,i<L.nn->L.t i 0=L.id i/\L.t i 1=L.par i
 rise : ∀ i j,i<j->j<L.nn->L.id i<L.id j
 pos : ∀ i,i<L.nn->1<=L.id i
 top : ∀ i,i<L.nn->L.id i<7696581394432
 up : ∀ i,i<L.nn->L.par i=0 \/ ∃ j,j<L.nn/\L.id j=L.par i
 dep : ∀ x,∃ D,D<=4/\bE L.t L.tn (bD L.t L.tn D x)<0
 gn:L.gn<=T
 rn : ∀ i,i<6->L.rn i<=T
 may : ∀ k,k<L.nn->may (L.R k)=true
 g47 : ∀ k,k<L.nn -> ∀ a,a<6->L.R k a<=140737488355328
 kn:Gd L.known
theorem Yx(a:Int):a<0\/0<=a:=by omega
theorem iJ{t:Nat->Nat->Int}{tn:Nat}{x:Int}:0<=bE t tn x <-> ∃ i,i<tn/\t i 0=x:=by
 constructor
 ·intro h;obtain⟨j,c,_,e⟩:=sH h;exact⟨j,c,e⟩
 rintro ⟨i,b,e⟩
 rcases jg (fun i=>decide (t i 0=x)) tn with ⟨k,_,a,_⟩|⟨_,h2⟩
 ·unfold bE; rw[a]; omega
 have:=h2 i b; rw[f_ e]at this; cases this
theorem vw{t:Nat->Nat->Int}{tn:Nat}{x:Int}:bE t tn x<0 <-> ∀ i,i<tn->t i 0≠x:=by
 constructor
 ·intro h i a e;have:=iJ.2 ⟨i,a,e⟩; omega
 intro h
 rcases Yx (bE t tn x)with h1|h1
 ·exact h1
 obtain⟨i,a,e⟩:=iJ.1 h1;exact N_ e (h i a)
theorem vB{t:Nat->Nat->Int}{tn i:Nat}(c : ∀ i j,i<tn->j<tn->t i 0=t j 0->i=j)(hi:i<tn):bE t tn (t i 0)=(i:Int):=by
 obtain⟨j,b,e,a⟩:=sH (iJ.2 ⟨i,hi,rfl⟩);rw[e,c j i b hi a]
theorem Fj{t:Nat->Nat->Int}{tn:Nat}{x:Int} : ∀ j,bD t tn (j+1) x=bD t tn j (bD t tn 1 x)
 | 0=>rfl
 | j+1=>by
   show t (bE t tn (bD t tn (j+1) x)).toNat 1=t (bE t tn (bD t tn j (bD t tn 1 x))).toNat 1;rw[Fj j]
section
variable {L:fZ} {T:Nat}
theorem Inv0.inj(h:Inv0 L T) : ∀ i j,i<L.nn->j<L.nn->L.id i=L.id j->i=j:=fun i j a b e=>by
 rcases Nat.lt_trichotomy i j with h1|h1|h1
 ·have:=h.rise i j h1 b; omega
 ·exact h1
 ·have:=h.rise j i h1 a; omega
theorem Inv0.ahl(h:Inv0 L T) : ∀ i j,i<L.tn->j<L.tn->L.t i 0=L.t j 0->i=j:=fun i j a b e=>by
 rw[h.Bt]at a b;rw[(h.tid i a).1,(h.tid j b).1]at e;exact h.inj i j a b e
theorem CX{P Q:Nat->Bool} : ∀ {n:Nat},(∀ i,i<n->P i=Q i)->gX P n=gX Q n
 | 0,_=>rfl
 | n+1,h=>by
   simp only[gX];rw[CX (n:=n) fun i a=>h i (by omega),h n (by omega)]
theorem Inv0.node(h:Inv0 L T)(x:Int):L.node x=bE L.t L.tn x:=by
 unfold fZ.node bE;rw[h.Bt];exact CX fun i a=>by rw[(h.tid i a).1]
theorem Inv0.w(h:Inv0 L T):ada L T where
 nn:=by have:=h.nn; omega
 gn:=h.gn
 rn:=h.rn
 tn:=h.node
 dx:=fun x=>by obtain⟨D,b,a⟩:=h.dep x; exact⟨D,by omega,a⟩
 may:=h.may
 kn:=h.kn
theorem Inv0.mono{T':Nat}(h:Inv0 L T)(a:T<=T'):Inv0 L T' := { h with gn:=m_ h.gn a,rn:=fun i b=>m_ (h.rn i b) a }
theorem D9{a:Type}{f:Nat->a}{k i:Nat}{v:a}(h:i<k):cO f k v i=f i:=by unfold cO; rw[d_ h]
theorem dH{a:Type}{f:Nat->a}{k:Nat}{v:a}:cO f k v k=v:=by unfold cO; rw[b_ (by omega),d_ rfl]
theorem Ea{a:Type}{f:Nat->a}{k i:Nat}{v:a}(h:k<i):cO f k v i=f (i-1):=by unfold cO; rw[b_ (by omega),b_ (by omega)]
theorem dX{k i n:Nat}(b:k<=n)(hi:i<n+1):i=k \/ ∃ j,j<n/\(∀ {α:Type} (f:Nat->α) (v:α),cO f k v i=f j)/\(j<k->i=j)/\(k<=j->i=j+1):=by
 rcases Nat.lt_trichotomy i k with h|h|h
 ·exact .inr ⟨i,by omega,fun f v=>D9 h,fun _=>rfl,fun a=>by omega⟩
 ·exact .inl h
 exact .inr ⟨i-1,by omega,fun f v=>Ea h,fun a=>by omega,fun _=>by omega⟩
theorem A9{k j n:Nat}(a:j<n) : ∃ i,i<n+1/\i≠k /\ ∀ {α:Type} (f:Nat->α) (v:α),cO f k v i=f j:=by
 by_cases h:j<k
 ·exact⟨j,by omega,by omega,fun f v=>D9 h⟩
 exact⟨j+1,by omega,by omega,fun f v=>by rw[Ea (by omega)]; rfl⟩
theorem yS(t:Nat->Nat->Int)(k:Nat)(id par:Int)(i:Nat):oU t k id par i=cO t k (fun j=>if j=0 then id else par) i:=rfl
theorem He{P Q:Nat->Bool} : ∀ {n:Nat},(∀ i,i<n->P i=Q i)->down P n=down Q n
 | 0,_=>rfl
 | n+1,h=>by
   unfold down;rw[He (n:=n) fun i a=>h i (by omega),h n (by omega)]
structure pE(t t':Nat->Nat->Int)(tn:Nat)(id par:Int):Prop where
 u : ∀ i j,i<tn->j<tn->t i 0=t j 0->i=j
 u' : ∀ i j,i<tn+1->j<tn+1->t' i 0=t' j 0->i=j
 no : ∀ i,i<tn->t i 0≠id
 old : ∀ i,i<tn -> ∃ j,j<tn+1/\t' j=t i
 new : ∃ j,j<tn+1/\t' j 0=id/\t' j 1=par
 back : ∀ j,j<tn+1->t' j 0=id \/ ∃ i,i<tn/\t' j=t i
variable {t t':Nat->Nat->Int} {tn:Nat} {id par:Int}
theorem pE.find(h:pE t t' tn id par){x:Int}:0<=bE t' (tn+1) x<->(0<=bE t tn x\/x=id):=by
 rw[iJ,iJ];constructor
 ·rintro ⟨j,b,e⟩
  rcases h.back j b with a|⟨i,hi,a⟩
  ·exact .inr (e.symm.trans a)
  exact .inl ⟨i,hi,by rw[<- a]; exact e⟩
 rintro (⟨i,hi,e⟩|e)
 ·obtain⟨j,b,a⟩:=h.old i hi;exact⟨j,b,by rw[a]; exact e⟩
 obtain⟨j,b,a,_⟩:=h.new;exact⟨j,b,a.trans e.symm⟩
theorem pE.Yy(h:pE t t' tn id par){x:Int}(hx:0<=bE t tn x):t' (bE t' (tn+1) x).toNat 1=t (bE t tn x).toNat 1:=by
 obtain⟨i,b,e⟩:=iJ.1 hx;obtain⟨j,f,a⟩:=h.old i b;have c:bE t tn x=(i:Int):=by rw[<- e]; exact vB h.u b
 have d:bE t' (tn+1) x=(j:Int):=by
  have:t' j 0=x:=by rw[a]; exact e
  rw[<- this]; exact vB h.u' f
 rw[c,d];show t' j 1=t i 1;rw[a]
theorem pE.iter(h:pE t t' tn id par){x:Int} : ∀ K,(∀ i,i<K->0<=bE t tn (bD t tn i x))->bD t' (tn+1) K x=bD t tn K x
 | 0,_=>rfl
 | K+1,hk=>by
   have a:=pE.iter h K fun i b=>hk i (by omega);show t' (bE t' (tn+1) (bD t' (tn+1) K x)).toNat 1=t (bE t tn (bD t tn K x)).toNat 1;rw[a]; exact h.Yy (hk K (by omega))
theorem rU{t:Nat->Nat->Int}{tn:Nat}{x:Int} : ∀ D,bE t tn (bD t tn D x)<0 -> ∃ K,K<=D/\bE t tn (bD t tn K x)<0 /\ ∀ i,i<K->0<=bE t tn (bD t tn i x)
 | 0,h=>⟨0,A_ _,h,fun _ a=>N_ a (z_ _)⟩
 | D+1,h=>by
   by_cases f : ∀ i,i<D+1->0<=bE t tn (bD t tn i x)
   ·exact⟨D+1,A_ _,h,f⟩
   ·obtain⟨i,a⟩:=Classical.not_forall.1 f;obtain⟨a,o⟩:=Classical.not_imp.1 a
    rcases Nat.lt_or_ge i D with h3|h3
    ·-- an earlier end
     have : ∀ n,n<=D->(∃ j,j<=n/\bE t tn (bD t tn j x)<0) -> ∃ K,K<=n/\bE t tn (bD t tn K x)<0 /\ ∀ i,i<K->0<=bE t tn (bD t tn i x):=by
      intro n
      induction n with
      | zero=>rintro _ ⟨j,m,k⟩; obtain rfl:j=0:=by omega
              exact⟨0,A_ _,k,fun _ a=>N_ a (z_ _)⟩
      | succ n ih =>
        rintro k ⟨j,m,g⟩;by_cases c : ∃ j,j<=n/\bE t tn (bD t tn j x)<0
        ·obtain⟨K,d,l⟩:=ih (by omega) c; exact⟨K,by omega,l⟩
        ·refine⟨n+1,A_ _,?_,fun i a => ?_⟩
         ·by_cases e:j=n+1
          ·rw[<- e]; exact g
          ·exact N_ ⟨j,by omega,g⟩ c
         ·rcases Yx (bE t tn (bD t tn i x))with h7|h7
          ·exact N_ ⟨i,by omega,h7⟩ c
          ·exact h7
     obtain⟨K,d,b⟩:=this i (by omega) ⟨i,A_ _,by omega⟩;exact⟨K,by omega,b⟩
    ·obtain rfl:i=D:=(by omega);obtain⟨K,d,b⟩:=rU (t:=t) (tn:=tn) (x:=x) i (by omega);exact⟨K,by omega,b⟩
theorem pE.dep(h:pE t t' tn id par)(z:1<=id)(v : ∀ i,i<tn->t i 1=0\/0<=bE t tn (t i 1))(s:par=0\/0<=bE t tn par)(B:bE t tn 0<0)(o : ∀ x,∃ D,D<=4/\bE t tn (bD t tn D x)<0)(p : ¬ CU t tn par) :
 ∀ x,∃ D,D<=4/\bE t' (tn+1) (bD t' (tn+1) D x)<0:=by
 have A:bE t tn id<0:=vw.2 h.no;have k : ∀ x K,x≠id->bE t tn (bD t tn K x)<0->(∀ i,i<K->0<=bE t tn (bD t tn i x))->bE t' (tn+1) (bD t' (tn+1) K x)<0:=fun x K c f a=>by
  rw[h.iter K a]
  rcases Yx (bE t' (tn+1) (bD t tn K x))with h1|h1
  ·exact h1
  ·exfalso
   rcases h.find.1 h1 with h2|h2
   ·omega
   ·cases K with
    | zero=>exact c h2
    | succ K =>
      have q:=a K (by omega);obtain⟨i,b,e⟩:=iJ.1 q;have d:bD t tn (K+1) x=t i 1:=by
       show t (bE t tn (bD t tn K x)).toNat 1=t i 1;rw[<- e,vB h.u b]; rfl
      rw[d]at h2 f
      rcases v i b with h4|h4
      ·omega
      ·omega
 intro x;by_cases c:x=id
 ·subst c;obtain⟨i,b⟩:=Classical.not_forall.1 p;obtain⟨y,b⟩:=Classical.not_imp.1 b;obtain⟨K,f,g,a⟩:=rU (t:=t) (tn:=tn) (x:=par) i (by omega);refine⟨K+1,by omega,?_⟩;have l:bD t' (tn+1) 1 x=par:=by
   obtain⟨j,r,m,d⟩:=h.new;show t' (bE t' (tn+1) x).toNat 1=par;rw[<- m,vB h.u' r]; exact d
  rw[Fj,l];refine k par K ?_ g a;rintro rfl
  rcases s with h1|h1 <;> omega
 obtain⟨D,w,n⟩:=o x;obtain⟨K,f,g,a⟩:=rU D n;exact⟨K,by omega,k x K c g a⟩
end
end Rt
end
section
namespace Rt
section
variable {L:fZ} {T:Nat} {v:EvM}
theorem Yz{t:Nat->Nat->Int}{tn:Nat}{id par:Int}(h:jA t tn id par=0):id≠0/\bE t tn id<0/\(par=0\/0<=bE t tn par)/\tn<32 /\ ¬ CU t tn par:=by
 unfold jA at h;split at h; · cases h
 rename_i h1;split at h; · cases h
 rename_i h2;split at h; · cases h
 rename_i h3;split at h; · cases h
 rename_i h4;refine⟨h1,by omega,?_,?_,fun b=>h4 (.inr b)⟩
 ·rcases Yx (bE t tn par)with h5|h5
  ·by_cases a:par=0
   ·exact .inl a
   exact N_ ⟨a,h5⟩ h3
  exact .inr h5
 rcases Nat.lt_or_ge tn 32 with h5|h5
 ·exact h5
 exact N_ (Or.inl h5) h4
theorem nX(h:bR v=true):1<=v.o/\v.o<=6/\1<=v.seq/\v.seq<1099511627776:=by
 have a:=iP h;have b:=DW h;unfold nS at a;simp only[T_,decide_eq_true_eq]at a;exact⟨a.1,a.2,b.1,b.2⟩
theorem rM(h:bR v=true):jk v.o v.seq=1099511627776*v.o+v.seq:=by
 have:=nX h;unfold jk; rw[d_ (by omega)]
theorem mR(h:bR v=true):aO v<6:=by
 have:=nX h; unfold aO; omega
theorem YA{a:Nat}{n:Int}(ha:a<6)(f:0<=n)(h1:n<=1125899906842624):may (upd (fun _=>0) a n)=true:=by
 have e : ∀ p,upd (fun _=>0) a n p=if p=a then n else 0:=fun p=>rfl;rw[jS];refine⟨fun p l => ?_,fun k h => ?_,?_⟩
 ·rw[e]; split <;> omega
 ·have b : ∀ i j,R (upd (fun _=>0) a n) i j=0:=fun i j=>by unfold R; rw[e,b_ (by omega)]
  refine⟨?_,?_,b k k⟩
  ·unfold L;simp only[b];have g:0<=G (upd (fun _=>0) a n) k:=by unfold G; rw[e]; split <;> omega
   have d:F (upd (fun _=>0) a n) k=0:=(by unfold F; rw[e,b_ (by omega)]);have c:C (upd (fun _=>0) a n) k=0:=(by unfold C; rw[e,b_ (by omega)]);omega
  have d:F (upd (fun _=>0) a n) k=0:=by unfold F; rw[e,b_ (by omega)]
  have c:C (upd (fun _=>0) a n) k=0:=by unfold C; rw[e,b_ (by omega)]
  omega
 unfold ou G;simp only[e];have:(if 0=a then n else 0)+(if 1=a then n else 0)+(if 2=a then n else 0)+(if 3=a then n else 0)+(if 4=a then n else 0)+(if 5=a then n else 0)=n:=six a ha n;omega
theorem wQ(h:Inv0 L T)(d:bR v=true)(F:v.kind=1)(f:kI L v=0) : ∃ k,k<=L.nn/\1<=jk v.o v.seq/\L.nn<32/\(0<=v.aS/\v.aS<=140737488355328)/\(v.node=0\/0<=bE L.t L.tn v.node) /\ ¬ CU L.t L.tn v.node /\
 qI L v = { L with nn:=L.nn+1,id:=cO L.id k (jk v.o v.seq),par:=cO L.par k v.node,R:=cO L.R k (upd (fun _=>0) (aO v) v.aS),tn:=L.tn+1,t:=oU L.t k (jk v.o v.seq) v.node } /\
 (∀ i j,i<j->j<L.nn+1->cO L.id k (jk v.o v.seq) i<cO L.id k (jk v.o v.seq) j)/\(∀ i,i<L.nn+1->oU L.t k (jk v.o v.seq) v.node i 0=cO L.id k (jk v.o v.seq) i/\oU L.t k (jk v.o v.seq) v.node i 1=cO L.par k v.node i) /\
 pE L.t (oU L.t k (jk v.o v.seq) v.node) L.tn (jk v.o v.seq) v.node:=by
 unfold kI at f;split at f
 ·cases f
 rename_i h47;obtain⟨K,s,w,M,y⟩:=Yz f;have S:=nX d;have U:=rM d;have W:=mR d;have D:0<=v.aS/\v.aS<=140737488355328:=by
  have Q : ¬ 140737488355328<v.aS:=fun h=>h47 (.inr h);unfold bR at d;simp only[T_]at d;have l:=d.2;unfold dF at l;rw[d_ F]at l;simp only[T_,decide_eq_true_eq]at l;omega
 generalize hx:jk v.o v.seq=x at *;have J:1<=x:=by omega
 have A:down (fun i=>decide (x<L.t i 0)) L.tn=sI L.id L.nn x:=by
  unfold sI; rw[h.Bt]; exact He fun i a=>by rw[(h.tid i a).1]
 have z:qI L v = { L with nn:=L.nn+1,id:=cO L.id (sI L.id L.nn x) x,par:=cO L.par (sI L.id L.nn x) v.node,R:=cO L.R (sI L.id L.nn x) (upd (fun _=>0) (aO v) v.aS),tn:=L.tn+1,t:=oU L.t (sI L.id L.nn x) x v.node }:=by
  unfold qI; rw[hx,A]; rfl
 generalize hkk:sI L.id L.nn x=k at *;have c:k<=L.nn:=by rw[<- hkk]; exact Fx.yK _ _
 have G : ∀ i,i<L.nn->L.id i≠x:=fun i a e=>vw.1 s i (by rw[h.Bt]; exact a) (by rw[(h.tid i a).1]; exact e);have C : ∀ q,k<=q->q<L.nn->x<L.id q:=fun q b g=>by
  have:=Fx.IK (P:=fun i=>decide (x<L.id i)) (n:=L.nn) (i:=q) (by show sI L.id L.nn x<=q; omega) g;exact h_ this
 have B : ∀ q,q<k->L.id q<x:=fun q b=>by
  obtain⟨j,rfl⟩ : ∃ j,k=j+1:=⟨k-1,by omega⟩;have g:=Fx.IL (P:=fun i=>decide (x<L.id i)) (n:=L.nn) (j:=j) hkk;have N : ¬ x<L.id j:=j_ g;have O:=G j (by omega);by_cases e:q=j
  ·subst e; omega
  ·have:=h.rise q j (by omega) (by omega); omega
 have H:L.nn<32:=by have:=h.Bt; omega
 have m : ∀ i j,i<j->j<L.nn+1->cO L.id k x i<cO L.id k x j:=fun i j V hj=>by
  rcases dX c (show i<L.nn+1 by omega)with rfl|⟨q,hq,eq,q1,q2⟩
  ·rcases dX c hj with rfl|⟨r,hr,er,r1,r2⟩
   ·omega
   ·rw[dH,er];exact C r (by omega) hr
  ·rcases dX c hj with rfl|⟨r,hr,er,r1,r2⟩
   ·rw[dH,eq];exact B q (by omega)
   ·rw[eq,er];exact h.rise q r (by omega) hr
 have p : ∀ i,i<L.nn+1->oU L.t k x v.node i 0=cO L.id k x i/\oU L.t k x v.node i 1=cO L.par k v.node i:=fun i a=>by
  rw[yS]
  rcases dX c a with rfl|⟨q,hq,eq,_,_⟩
  ·rw[dH,dH,dH]; exact⟨rfl,rfl⟩
  ·rw[eq,eq,eq]; exact h.tid q hq
 have E : ∀ i j,i<L.nn+1->j<L.nn+1->cO L.id k x i=cO L.id k x j->i=j:=fun i j a hj e=>by
  rcases Nat.lt_trichotomy i j with b|b|b
  ·have:=m i j b hj; omega
  ·exact b
  ·have:=m j i b a; omega
 have I:pE L.t (oU L.t k x v.node) L.tn x v.node := {
  u:=h.ahl
  u':=fun i j a hj e=>by
   rw[h.Bt]at a hj;rw[(p i a).1,(p j hj).1]at e;exact E i j a hj e
  no:=vw.1 s
  old:=fun i a=>by
   obtain⟨j,hj,_,e⟩:=A9 (k:=k) a;exact⟨j,hj,by rw[yS]; exact e L.t _⟩
  new:=⟨k,by have:=h.Bt; omega,by rw[yS,dH]; rfl,by rw[yS,dH]; rfl⟩
  back:=fun j hj=>by
   rw[h.Bt]at hj
   rcases dX c hj with rfl|⟨q,hq,eq,_,_⟩
   ·exact .inl (by rw[yS,dH]; rfl)
   ·exact .inr ⟨q,by rw[h.Bt]; exact hq,by rw[yS]; exact eq L.t _⟩ }
 exact⟨k,c,J,H,D,w,y,z,m,p,I⟩
theorem QK(h:Inv0 L T)(c:bR v=true)(w:v.kind=1)(r:kI L v=0):Inv0 (qI L v) (T+1):=by
 obtain⟨k,a,m,K,s,g,n,p,B,E,F⟩:=wQ h c w r;have I:=nX c;have J:=rM c;have C:=mR c;rw[p];generalize hx:jk v.o v.seq=x at *;have z : ∀ j,j<L.nn -> ∃ i,i<L.nn+1/\cO L.id k x i=L.id j:=fun j hj=>by
  obtain⟨i,hi,_,e⟩:=A9 (k:=k) hj;exact⟨i,hi,e L.id x⟩
 have H:bE L.t L.tn 0<0:=vw.2 fun i hi e=>by
  rw[h.Bt]at hi;rw[(h.tid i hi).1]at e;have:=h.pos i hi; omega
 have A:v.node=0 \/ ∃ j,j<L.nn/\L.id j=v.node:=by
  rcases g with e|e
  ·exact .inl e
  ·obtain⟨i,hi,d⟩:=iJ.1 e;rw[h.Bt]at hi;exact .inr ⟨i,hi,by rw[<- (h.tid i hi).1]; exact d⟩
 exact {
  Bt:=by show L.tn+1=L.nn+1; rw[h.Bt]
  nn:=by show L.nn+1<=32; omega
  tid:=E
  rise:=B
  pos:=fun i hi=>by
   show 1<=cO L.id k x i
   rcases dX a hi with rfl|⟨q,hq,eq,_,_⟩
   ·rw[dH]; exact m
   ·rw[eq]; exact h.pos q hq
  top:=fun i hi=>by
   show cO L.id k x i<_
   rcases dX a hi with rfl|⟨q,hq,eq,_,_⟩
   ·rw[dH]; omega
   ·rw[eq]; exact h.top q hq
  up:=fun i hi=>by
   show cO L.par k v.node i=0 \/ ∃ j,j<L.nn+1/\cO L.id k x j=cO L.par k v.node i;have l : ∀ y,(y=0 \/ ∃ j,j<L.nn/\L.id j=y)->(y=0 \/ ∃ j,j<L.nn+1/\cO L.id k x j=y):=fun y G=>G.imp id fun⟨j,hj,e⟩=>by
    obtain⟨i,hi,d⟩:=z j hj;exact⟨i,hi,d.trans e⟩
   rcases dX a hi with rfl|⟨q,hq,eq,_,_⟩
   ·rw[dH]; exact l _ A
   ·rw[eq]; exact l _ (h.up q hq)
  dep:=by
   show ∀ y,∃ D,D<=4/\bE (oU L.t k x v.node) (L.tn+1) (bD (oU L.t k x v.node) (L.tn+1) D y)<0;refine F.dep m (fun i hi => ?_) g H h.dep n;have f:=hi;rw[h.Bt]at f;rw[(h.tid i f).2]
   rcases h.up i f with e|⟨j,hj,e⟩
   ·exact .inl e
   ·exact .inr (iJ.2 ⟨j,by rw[h.Bt]; exact hj,by rw[(h.tid j hj).1]; exact e⟩)
  gn:=Nat.le_succ_of_le h.gn
  rn:=fun i hi=>Nat.le_succ_of_le (h.rn i hi)
  may:=fun i hi=>by
   show may (cO L.R k _ i)=true
   rcases dX a hi with rfl|⟨q,hq,eq,_,_⟩
   ·rw[dH]; exact YA C s.1 (by omega)
   ·rw[eq]; exact h.may q hq
  g47:=fun i hi b u=>by
   show cO L.R k _ i b<=_
   rcases dX a hi with rfl|⟨q,hq,eq,_,_⟩
   ·rw[dH];show(if b=aO v then v.aS else 0)<=_;split <;> omega
   ·rw[eq]; exact h.g47 q hq b u
  kn:=h.kn }
theorem Hf{b:fZ}{T':Nat}(h:Inv0 L T)(c:b.nn=L.nn)(d:b.id=L.id)(f:b.par=L.par)(g:b.tn=L.tn)(j:b.t=L.t)(m:b.known=L.known)(n:b.gn<=T')(hr : ∀ i,i<6->b.rn i<=T')
 (l : ∀ k,k<L.nn->may (b.R k)=true /\ ∀ a,a<6->b.R k a<=140737488355328):Inv0 b T' where
 Bt:=by rw[c,g]; exact h.Bt
 nn:=by rw[c]; exact h.nn
 tid:=by rw[c,d,f,j]; exact h.tid
 rise:=by rw[c,d]; exact h.rise
 pos:=by rw[c,d]; exact h.pos
 top:=by rw[c,d]; exact h.top
 up:=by rw[c,d,f]; exact h.up
 dep:=by rw[g,j]; exact h.dep
 gn:=n
 rn:=hr
 may:=by rw[c]; exact fun k e=>(l k e).1
 g47:=by rw[c]; exact fun k e=>(l k e).2
 kn:=by rw[m]; exact h.kn
def uE(x:Nat->Int):Prop:=may x=true /\ ∀ a,a<6->x a<=140737488355328
theorem Fp{f:(Nat->Int)->(Nat->Int) × Int}{idx:Nat->Nat}{R:Nat->Nat->Int}{n:Nat}(g : ∀ x,uE x->(f x).2=0->uE (f x).1)(d : ∀ k,k<n->uE (R k)) : ∀ K k,k<n->uE ((dw f idx R K).1 k)
 | 0,k,hk=>d k hk
 | K+1,k,hk=>by
   have a:=Fp g d (idx:=idx) K;unfold dw;by_cases e:(dw f idx R K).2=0
   ·rw[d_ e];by_cases b:(f ((dw f idx R K).1 (idx K))).2=0
    ·rw[d_ b];show uE (if k=idx K then _ else _);by_cases c:k=idx K
     ·rw[d_ c]; exact g _ (by rw[<- c]; exact a k hk) b
     ·rw[b_ c]; exact a k hk
    ·rw[b_ b]; exact a k hk
   ·rw[b_ e]; exact a k hk
theorem YB{x:Nat->Int}{i n:Int}(h:uE x)(c:(bC x i n).2=0):uE (bC x i n).1:=by
 obtain⟨a,g,_,_,_,_,_,f,_,_,_,e⟩:=Je c;exact⟨f,fun b d=>by rw[e,gM _ _ _ _ (by omega)]; exact h.2 b d⟩
theorem YC{x:Nat->Int}{i n:Int}(h:uE x)(c:(bG x i n).2=0):uE (bG x i n).1:=by
 obtain⟨a,g,_,_,_,_,f,_,_,_,e⟩:=Jf c;exact⟨f,fun b d=>by rw[e,gM _ _ _ _ (by omega)]; exact h.2 b d⟩
theorem YD{x:Nat->Int}{i j n:Int}(h:uE x)(d:(dn x i j n).2=0):uE (dn x i j n).1:=by
 obtain⟨a,b,k,l,_,_,_,_,_,_,g,e⟩:=AZ d;exact⟨g.may,fun c f=>by rw[e,gM _ _ _ _ (by omega)]; exact h.2 c f⟩
theorem U2{x:Nat->Int}{a:Nat}{n:Int}(ha:a<6)(h:uE x)(s:0<=n)(q : ¬ 140737488355328<x a+n):uE (upd x a (x a+n)):=by
 have d:=(jS x).1 h.1;have e : ∀ p,upd x a (x a+n) p=if p=a then x a+n else x p:=fun p=>rfl;have t:=d.1 a (by omega);have c : ∀ b,b<6->upd x a (x a+n) b<=140737488355328:=fun b l=>by
  rw[e]; split
  ·omega
  ·exact h.2 b l
 refine⟨(jS _).2 ⟨fun p o => ?_,fun k m => ?_,?_⟩,c⟩
 ·have:=d.1 p o;rw[e]; split <;> omega
 ·obtain⟨r,i,j⟩:=d.2.1 k m;have f:C (upd x a (x a+n)) k=C x k:=by unfold C; rw[e,b_ (by omega)]
  have g:F (upd x a (x a+n)) k=F x k:=by unfold F; rw[e,b_ (by omega)]
  refine⟨?_,?_,?_⟩
  ·rw[UE x a (by omega),f,g,agT]; split <;> omega
  ·rw[f,g]; exact i
  unfold R; rw[e,b_ (by omega)]; exact j
 unfold ou G;have:=c 0 (by omega); have:=c 1 (by omega); have:=c 2 (by omega); have:=c 3 (by omega); have:=c 4 (by omega); have:=c 5 (by omega);omega
theorem Inv0.KR(h:Inv0 L T) : ∀ k,k<L.nn->uE (L.R k):=fun k a=>⟨h.may k a,h.g47 k a⟩
theorem OQ(h:Inv0 L T)(a:Nat) : ∀ i,i<6->aI L.rn a (L.rn a+1) i<=T+1:=fun i b=>by
 unfold aI;by_cases e:i=a
 ·subst e; rw[d_ rfl]; have:=h.rn i b; omega
 ·rw[b_ e]; have:=h.rn i b; omega
theorem OT{q:Nat}{r:Nat->Int}(h : ∀ k,k<L.nn->uE (L.R k))(hr:uE r) : ∀ k,k<L.nn->uE (aI L.R q r k):=fun k a=>by
 unfold aI; split
 ·exact hr
 ·exact h k a
theorem Inv0.OU(h:Inv0 L T){x:Int}(hx : ¬ L.node x<0):(L.node x).toNat<L.nn:=by
 rw[h.node]at hx ⊢;obtain⟨j,a,e,_⟩:=sH (show 0<=bE L.t L.tn x by omega);rw[e]; have:=h.Bt; simp; omega
theorem QL(h:Inv0 L T)(a : ∀ k,k<L.nn->uE ((ny L v).1 k)):Inv0 (mh L v) (T+1):=by
 unfold mh qL;generalize ny L v=W at a;exact Hf h rfl rfl rfl rfl rfl rfl (Nat.succ_le_succ h.gn) (OQ h _) a
theorem QM(h:Inv0 L T)(a : ∀ k,k<L.nn->uE ((mo L v).1 k)):Inv0 (kJ L v) (T+1):=by
 unfold kJ qL;generalize mo L v=W at a;exact Hf h rfl rfl rfl rfl rfl rfl (Nat.le_succ_of_le h.gn) (OQ h _) a
theorem U3(h:Inv0 L T)(f:bR v=true)(a:dS L v=0):Inv0 (iN L v) (T+1):=by
 have q:=jh f;have o:=mR f;have e:=h.gn;have d : ∀ i,i<6->L.rn i<=T+1:=fun i n=>Nat.le_succ_of_le (h.rn i n);unfold dS at a;unfold iN;by_cases b:v.kind=1
 ·rw[d_ b]at a ⊢; exact QK h f b a
 by_cases c:v.kind=2
 ·rw[b_ b,d_ c]at a ⊢;unfold wP at a;split at a; · cases a
  rename_i n1;split at a; · cases a
  rename_i n2;have p:=kZ f (.inl c);exact Hf h rfl rfl rfl rfl rfl rfl (Nat.le_succ_of_le e) d (OT h.KR (U2 o (h.KR _ (h.OU n1)) (by omega) n2))
 by_cases g:v.kind=3
 ·rw[b_ b,b_ c,d_ g]at a ⊢;have j : ∀ k,k<L.nn->uE ((ny L v).1 k):=by unfold ny; exact Fp (fun x=>YB) h.KR _
  exact QL h j
 by_cases l:v.kind=4
 ·rw[b_ b,b_ c,b_ g,d_ l]at a ⊢;have j : ∀ k,k<L.nn->uE ((mo L v).1 k):=by unfold mo; exact Fp (fun x=>YC) h.KR _
  exact QM h j
 by_cases m:v.kind=5
 ·rw[b_ b,b_ c,b_ g,b_ l,d_ m]at a ⊢;unfold pz at a;split at a; · cases a
  rename_i n1;split at a; · cases a
  exact Hf h rfl rfl rfl rfl rfl rfl (Nat.le_succ_of_le e) d (OT h.KR (YD (h.KR _ (h.OU n1)) a))
 rw[b_ b,b_ c,b_ g,b_ l,b_ m];split
 ·exact Hf h rfl rfl rfl rfl rfl rfl (Nat.le_succ_of_le e) d h.KR
 exact Hf h rfl rfl rfl rfl rfl rfl (Nat.le_succ_of_le e) d h.KR
theorem zX(h:Inv0 L T):Inv0 (dN L v) (T+1):=by
 unfold dN;by_cases a:bK L v=0
 ·rw[d_ a];unfold bK at a;split at a; · cases a
  rename_i h1;split at a; · cases a
  split at a; · cases a
  rename_i h3;split at a; · cases a
  have b:bR v=true:=by simpa using h1
  have c:dD L.known v=true:=by simpa using h3
  have g:=U3 h b a;have k:=mR b;have m:=DW b;refine { g with kn:=fun i j => ?_ };have e:(G9 (iN L v) v).known=aI L.known (aO v) (L.known (aO v)+1):=by unfold G9; simp only[qc]
  rw[e];unfold dD at c;simp only[T_,decide_eq_true_eq]at c;have d:=h.kn;unfold aI;split
  ·have f:=c.1.2;have l:v.seq=L.known (aO v)+1:=f;have:=d (aO v) k;omega
  exact d i j
 rw[b_ a]; exact h.mono (Nat.le_succ T)
end
end Rt
end
section
namespace Rt
def Jk(t:Nat->Nat->Int)(tn:Nat)(x y:Int):Nat->Int
 | 0=>0
 | k+1=>Jk t tn x y k+if bD t tn k x=y then 1 else 0
def Cb(t:Nat->Nat->Int)(tn:Nat)(x y:Int):Int:=Jk t tn x y (eP t tn x)
def qg(t:Nat->Nat->Int)(tn:Nat)(g:Nat->Int)(y:Int):Int:=if g 4=0 then g 3*Cb t tn (g 2) y else 0
def oG(t:Nat->Nat->Int)(tn:Nat)(g:Nat->Nat->Int)(y:Int):Nat->Int
 | 0=>0
 | q+1=>oG t tn g y q+qg t tn (g q) y
structure zY(L:fZ):Prop where
 us : ∀ k,k<L.nn->lQ (L.R k)=oG L.t L.tn L.g (L.id k) L.gn
 gb : ∀ q,q<L.gn->0<=bE L.t L.tn (L.g q 2)/\1<=L.g q 0/\L.g q 0<=6/\0<=L.g q 3/\L.g q 3<=1125899906842624
structure oz(v:EvM):Prop where
 aS:v.aS<=65536
 req:v.req<=256
structure QN(L:fZ)(T:Nat):Prop where
 kt : ∀ i,i<6->L.known i<=T
 rb : ∀ k,k<L.nn -> ∀ a,a<54->L.R k a<=2097152*T
 rq : ∀ i,i<6 -> ∀ j,j<L.rn i->L.rq i j<=256
structure Inv(L:fZ)(T:Nat):Prop extends Inv0 L T where
 s:zY L
 b:QN L T
section
variable {L:fZ} {T:Nat} {v:EvM}
theorem Eb{P:Nat->Bool} : ∀ {n i:Nat},i<lead P n->P i=true
 | 0,i,h=>N_ h (z_ _)
 | n+1,i,h=>by
   unfold lead at h;by_cases e:lead P n=n/\P n=true
   ·rw[d_ e]at h;by_cases a:i=n
    ·rw[a]; exact e.2
    ·exact Eb (n:=n) (by omega)
   ·rw[b_ e]at h; exact Eb h
theorem Ba{t:Nat->Nat->Int}{tn i:Nat}{x:Int}(h:i<eP t tn x):0<=bE t tn (bD t tn i x):=h_ (Eb (P:=fun i=>decide (0<=bE t tn (bD t tn i x))) h)
theorem yT{t t':Nat->Nat->Int}{tn b:Nat}{g a:Nat->Nat->Int}{y c:Int} : ∀ n,(∀ q,q<n->qg t' b (a q) c=qg t tn (g q) y)->oG t' b a c n=oG t tn g y n
 | 0,_=>rfl
 | n+1,h=>by unfold oG; rw[yT n fun q d=>h q (by omega),h n (by omega)]
theorem Hg{t:Nat->Nat->Int}{tn:Nat}{g:Nat->Nat->Int}{y:Int} : ∀ n,(∀ q,q<n->qg t tn (g q) y=0)->oG t tn g y n=0
 | 0,_=>rfl
 | n+1,h=>by unfold oG; rw[Hg n fun q a=>h q (by omega),h n (by omega)]; rfl
theorem KS{t:Nat->Nat->Int}{tn k:Nat}{g:Nat->Nat->Int}{x:Nat->Int}{y:Int} : ∀ n,k<n->oG t tn (aI g k x) y n=oG t tn g y n-qg t tn (g k) y+qg t tn x y
 | 0,h=>N_ h (z_ _)
 | n+1,h=>by
   unfold oG;by_cases e:k=n
   ·subst e;rw[yT (t:=t) (tn:=tn) (g:=g) (y:=y) k fun q a=>by unfold aI; rw[b_ (by omega)]];unfold aI; rw[d_ rfl]; omega
   ·rw[KS n (by omega)];have:aI g k x n=g n:=b_ (fun h=>e h.symm);rw[this]; omega
theorem KT{t:Nat->Nat->Int}{tn k:Nat}{g:Nat->Nat->Int}{x:Nat->Int}{y:Int} : ∀ n,k<=n->oG t tn (cO g k x) y (n+1)=oG t tn g y n+qg t tn x y
 | 0,h=>by
   obtain rfl:k=0:=(by omega);show(0:Int)+qg t tn (cO g 0 x 0) y=0+_;rw[dH]
 | n+1,h=>by
   by_cases e:k=n+1
   ·subst e;show oG t tn (cO g (n+1) x) y (n+1)+qg t tn (cO g (n+1) x (n+1)) y=_;rw[dH,yT (t:=t) (tn:=tn) (g:=g) (y:=y) (n+1) fun q a=>by rw[D9 a]]
   ·show oG t tn (cO g k x) y (n+1)+qg t tn (cO g k x (n+1)) y=oG t tn g y n+qg t tn (g n) y+_;rw[KT n (by omega),Ea (by omega),Nat.add_sub_cancel]; omega
def U4(idx:Nat->Nat)(k:Nat):Nat->Int
 | 0=>0
 | j+1=>U4 idx k j+if idx j=k then 1 else 0
theorem Cc{f:(Nat->Int)->(Nat->Int) × Int}{idx:Nat->Nat}{R:Nat->Nat->Int}{d:Int}(e : ∀ x,(f x).2=0->lQ (f x).1=lQ x+d) : ∀ K,(dw f idx R K).2=0 -> ∀ k,lQ ((dw f idx R K).1 k)=lQ (R k)+d*U4 idx k K
 | 0,_,k=>by show lQ (R k)=lQ (R k)+d*0; omega
 | K+1,h,k=>by
   unfold dw at h ⊢;by_cases a:(dw f idx R K).2=0
   ·have g:=Cc e K a k;rw[d_ a]at h ⊢;by_cases b:(f ((dw f idx R K).1 (idx K))).2=0
    ·rw[d_ b];show lQ (aI _ (idx K) _ k)=_;unfold aI U4;rw[Int.mul_add];by_cases c:k=idx K
     ·subst c;rw[d_ rfl,d_ rfl,e _ b,g]; omega
     ·rw[b_ c,b_ (fun h=>c h.symm),g]; omega
    ·rw[b_ b]at h; exact N_ h b
   ·rw[b_ a]at h; exact N_ h a
theorem Nc{t:Nat->Nat->Int}{tn k:Nat}{x y:Int}{idx:Nat->Nat} : ∀ K,(∀ i,i<K->(idx i=k<->bD t tn i x=y))->U4 idx k K=Jk t tn x y K
 | 0,_=>rfl
 | K+1,h=>by
   unfold U4 Jk;rw[Nc K fun i b=>h i (by omega)];by_cases e:idx K=k
   ·rw[d_ e,d_ ((h K (by omega)).1 e)]
   ·rw[b_ e,b_ (fun a=>e ((h K (by omega)).2 a))]
theorem Ec(h:Inv0 L T){x:Int}{i k:Nat}(g:k<L.nn)(hi:i<eP L.t L.tn x):ow L x i=k<->bD L.t L.tn i x=L.id k:=by
 obtain⟨j,f,e,c⟩:=sH (Ba hi);have b:j<L.nn:=by rw[<- h.Bt]; exact f
 have l:ow L x i=j:=by unfold ow; rw[h.node,e]; rfl
 rw[l];have a:L.id j=bD L.t L.tn i x:=by rw[<- (h.tid j b).1]; exact c
 constructor
 ·rintro rfl; exact a.symm
 intro d; exact h.inj j k b g (a.trans d)
theorem KU{x:Nat->Int}{a:Nat}{n:Int}(ha:a<6):lQ (upd x a n)=lQ x:=by
 have b : ∀ k,C (upd x a n) k=C x k:=fun k=>gM _ _ _ _ (by omega);have c : ∀ k,F (upd x a n) k=F x k:=fun k=>gM _ _ _ _ (by omega);unfold lQ; simp only[b,c]
theorem U5(h:bR v=true)(b:v.kind=4):1<=v.req:=by
 unfold bR at h;simp only[T_]at h;have a:=h.2;unfold dF at a;rw[b_ (by omega),b_ (by omega),b_ (by omega),d_ b]at a;simp only[T_,decide_eq_true_eq]at a;exact a.1.1
theorem adb{n k:Nat}{g:Nat->Nat->Int}{x:Nat->Int}(a:k<=n)(P:(Nat->Int)->Prop)(h : ∀ q,q<n->P (g q))(hx:P x) : ∀ q,q<n+1->P (cO g k x q):=fun q b=>by
 rcases dX a b with rfl|⟨j,hj,e,_,_⟩
 ·rw[dH]; exact hx
 ·rw[e]; exact h j hj
attribute [local irreducible] eP in
theorem Nf(j:Inv0 L T)(h:zY L)(e:bR v=true)(b:v.kind=3)(a:iW L v=0):zY (mh L v):=by
 unfold iW at a;split at a; · cases a
 split at a; · cases a
 rename_i hp;have c:=nX e;have l:=kZ e (.inr (.inl b));unfold mh qL;have p:=Cc (f:=fun x=>bC x v.o v.aS) (idx:=ow L v.node) (R:=L.R) (d:=v.aS) (fun x s=>by obtain⟨_,_,_,_,_,_,_,_,_,_,r,_⟩:=Je s; exact r) _ a;refine⟨fun k b => ?_,fun q n => ?_⟩
 ·show lQ ((ny L v).1 k)=oG L.t L.tn (cO L.g (down (fun i=>EY v (L.g i)) L.gn) (qy v)) (L.id k) (L.gn+1);rw[KT _ (Fx.yK _ _)];have:=p k;rw[show qg L.t L.tn (qy v) (L.id k)=v.aS*Cb L.t L.tn v.node (L.id k)from rfl,<- h.us k b];unfold Cb;rw[<- Nc (idx:=ow L v.node) (k:=k) _ fun i m=>Ec j b m];exact this
 exact adb (Fx.yK _ _) (fun y=>0<=bE L.t L.tn (y 2)/\1<=y 0/\y 0<=6/\0<=y 3/\y 3<=1125899906842624) h.gb
  ⟨Ba (i:=0) (x:=v.node) (by omega),c.1,c.2.1,by show 0<=v.aS; omega,l.2⟩ q n
attribute [local irreducible] eP in
theorem Ng(s:Inv0 L T)(h:zY L)(z:bR v=true)(c:v.kind=4)(b:iM L v=0):zY (kJ L v):=by
 unfold iM at b;split at b; · cases b
 split at b; · cases b
 rename_i l;have F:=U5 z c
 have E:0<=L.grant v.o v.of:=by rcases Yx (L.grant v.o v.of)with h|h; · exact N_ (.inl h) l
                                ·exact h
 have D:L.g (zB L v) 4=0:=by
  by_cases e:L.g (zB L v) 4=0
  ·exact e
  ·exact N_ (.inr e) l
 have n:zB L v<L.gn:=by
  rcases jg (fun i=>decide (L.g i 0=v.o)&&decide (L.g i 1=v.of)) L.gn with ⟨k,c,e,_⟩|⟨e,_⟩
  ·have m:L.grant v.o v.of=(k:Int):=e;unfold zB; rw[m]; exact c
  ·have m:L.grant v.o v.of = -1:=e;omega
 unfold kJ qL mo;unfold mo at b;generalize zB L v=q at *;have A:=Cc (f:=fun x=>bG x v.o (L.g q 3)) (idx:=ow L (L.g q 2)) (R:=L.R) (d := -(L.g q 3)) (fun x C=>by obtain⟨_,_,_,_,_,_,_,_,_,B,_⟩:=Jf C; rw[B]; omega) _ b;have u:=h.gb q n;refine⟨fun k c => ?_,fun p l => ?_⟩
 ·show lQ ((dw _ _ _ _).1 k)=oG L.t L.tn (aI L.g q (aI (L.g q) 4 v.req)) (L.id k) L.gn;rw[KS _ n,<- h.us k c,A k];have a:qg L.t L.tn (aI (L.g q) 4 v.req) (L.id k)=0:=by
   unfold qg; rw[b_]; show ¬ v.req=0; omega
  have r:qg L.t L.tn (L.g q) (L.id k)=L.g q 3*Cb L.t L.tn (L.g q 2) (L.id k):=d_ D;rw[a,r];unfold Cb;rw[<- Nc (idx:=ow L (L.g q 2)) (k:=k) _ fun i w=>Ec s c w,Int.neg_mul];omega
 show 0<=bE L.t L.tn (aI L.g q (aI (L.g q) 4 v.req) p 2)/\1<=aI L.g q (aI (L.g q) 4 v.req) p 0/\aI L.g q (aI (L.g q) 4 v.req) p 0<=6/\0<=aI L.g q (aI (L.g q) 4 v.req) p 3/\aI L.g q (aI (L.g q) 4 v.req) p 3<=1125899906842624;by_cases e:p=q
 ·subst e;have a : ∀ j,j≠4->aI L.g p (aI (L.g p) 4 v.req) p j=L.g p j:=fun j y=>by
   show(if p=p then aI (L.g p) 4 v.req else L.g p) j=_;rw[d_ rfl]; exact b_ y
  rw[a 2 (by omega),a 0 (by omega),a 3 (by omega)]; exact u
 have a:aI L.g q (aI (L.g q) 4 v.req) p=L.g p:=b_ e;rw[a]; exact h.gb p l
theorem Jl{a:fZ}(h:zY L)(j:a.nn=L.nn)(l:a.id=L.id)(c:a.tn=L.tn)(d:a.t=L.t)(e:a.gn=L.gn)(f:a.g=L.g)(m : ∀ k,k<L.nn->lQ (a.R k)=lQ (L.R k)):zY a:=by
 refine⟨fun k b => ?_,fun q i => ?_⟩
 ·rw[j]at b; rw[l,c,d,e,f,m k b]; exact h.us k b
 rw[e]at i; rw[c,d,f]; exact h.gb q i
theorem U6{q:Nat}{r:Nat->Int}{R:Nat->Nat->Int}(hr:lQ r=lQ (R q))(k:Nat):lQ (aI R q r k)=lQ (R k):=by
 unfold aI; split
 ·rename_i e; rw[e]; exact hr
 rfl
theorem pE.path{t t':Nat->Nat->Int}{tn:Nat}{id par z y:Int}(h:pE t t' tn id par)(A:1<=id)(r : ∀ i,i<tn->t i 1=0\/0<=bE t tn (t i 1))(p : ∃ D,D<=4/\bE t tn (bD t tn D z)<0)(C:0<=bE t tn z) :
 Cb t' (tn+1) z y=Cb t tn z y/\(y=id->Cb t tn z y=0):=by
 obtain⟨D,w,g⟩:=p;obtain⟨K,x,c,a⟩:=rU D g;have f:K=eP t tn z:=sM a c g (by omega);have d : ∀ i,i<=K->bD t' (tn+1) i z=bD t tn i z:=fun i b=>h.iter i fun j B=>a j (by omega);have k:bE t' (tn+1) (bD t' (tn+1) K z)<0:=by
  rw[d K (A_ _)]
  rcases Yx (bE t' (tn+1) (bD t tn K z))with h1|h1
  ·exact h1
  ·exfalso
   rcases h.find.1 h1 with h2|h2
   ·omega
   ·cases K with
    | zero=>have:bE t tn z<0:=c; omega
    | succ K =>
      obtain⟨i,b,e⟩:=iJ.1 (a K (by omega));have l:bD t tn (K+1) z=t i 1:=by
       show t (bE t tn (bD t tn K z)).toNat 1=t i 1;rw[<- e,vB h.u b]; rfl
      rw[l]at h2 c
      rcases r i b with h4|h4
      ·omega
      ·omega
 have m:K=eP t' (tn+1) z:=sM (fun i b=>by rw[d i (by omega)]; exact h.find.2 (.inl (a i b))) k k (by omega);have o : ∀ n,n<=K->Jk t' (tn+1) z y n=Jk t tn z y n:=by
  intro n
  induction n with
  | zero=>intro _; rfl
  | succ n ih=>intro q; unfold Jk; rw[ih (by omega),d n (by omega)]
 refine⟨?_,fun s => ?_⟩
 ·unfold Cb; rw[<- f,<- m]; exact o K (A_ _)
 subst s;have : ∀ n,n<=K->Jk t tn z y n=0:=by
  intro n
  induction n with
  | zero=>intro _; rfl
  | succ n ih =>
    intro q; unfold Jk;rw[ih (by omega),b_]
    ·rfl
    ·intro e;have:=a n (by omega);rw[e]at this;have v:=vw.2 h.no;omega
 unfold Cb; rw[<- f]; exact this K (A_ _)
attribute [local irreducible] eP in
theorem Nh(a:Inv0 L T)(h:zY L)(l:bR v=true)(s:v.kind=1)(r:kI L v=0):zY (qI L v):=by
 obtain⟨k,u,A,E,D,B,C,p,F,G,n⟩:=wQ a l s r;have z:=mR l;rw[p];generalize jk v.o v.seq=x at *;have w : ∀ i,i<L.tn->L.t i 1=0\/0<=bE L.t L.tn (L.t i 1):=fun i c=>by
  have d:=c;rw[a.Bt]at d;rw[(a.tid i d).2]
  rcases a.up i d with e|⟨j,hj,e⟩
  ·exact .inl e
  ·exact .inr (iJ.2 ⟨j,by rw[a.Bt]; exact hj,by rw[(a.tid j hj).1]; exact e⟩)
 have m : ∀ q,q<L.gn -> ∀ y,Cb (oU L.t k x v.node) (L.tn+1) (L.g q 2) y=Cb L.t L.tn (L.g q 2) y/\(y=x->Cb L.t L.tn (L.g q 2) y=0):=fun q b y=>n.path A w (a.dep _) (h.gb q b).1;refine⟨fun i c => ?_,fun q b => ?_⟩
 ·show lQ (cO L.R k (upd (fun _=>0) (aO v) v.aS) i)=oG (oU L.t k x v.node) (L.tn+1) L.g (cO L.id k x i) L.gn;rw[yT (t:=L.t) (tn:=L.tn) (g:=L.g) (y:=cO L.id k x i) L.gn fun q b=>by unfold qg; rw[(m q b _).1]]
  rcases dX u c with rfl|⟨j,hj,e,_,_⟩
  ·rw[dH,dH,KU z,Hg L.gn fun q b=>by unfold qg; rw[(m q b _).2 rfl,Int.mul_zero]; exact ite_self _];rfl
  rw[e,e]; exact h.us j hj
 have f:=h.gb q b;exact⟨n.find.2 (.inl f.1),f.2⟩
theorem Hl(g:Inv0 L T)(h:zY L)(c:bR v=true)(a:dS L v=0):zY (iN L v):=by
 have m:=jh c;have l:=mR c;unfold dS at a;unfold iN;by_cases b:v.kind=1
 ·rw[d_ b]at a ⊢; exact Nh g h c b a
 by_cases d:v.kind=2
 ·rw[b_ b,d_ d]at a ⊢;exact Jl h rfl rfl rfl rfl rfl rfl fun k _=>U6 (KU l) k
 by_cases e:v.kind=3
 ·rw[b_ b,b_ d,d_ e]at a ⊢; exact Nf g h c e a
 by_cases f:v.kind=4
 ·rw[b_ b,b_ d,b_ e,d_ f]at a ⊢; exact Ng g h c f a
 by_cases i:v.kind=5
 ·rw[b_ b,b_ d,b_ e,b_ f,d_ i]at a ⊢;unfold pz at a;split at a; · cases a
  split at a; · cases a
  obtain⟨_,_,_,_,_,_,_,_,_,_,j,_⟩:=AZ a;exact Jl h rfl rfl rfl rfl rfl rfl fun k _=>U6 j.u k
 rw[b_ b,b_ d,b_ e,b_ f,b_ i];split
 ·exact Jl h rfl rfl rfl rfl rfl rfl fun _ _=>rfl
 exact Jl h rfl rfl rfl rfl rfl rfl fun _ _=>rfl
theorem U7{t:Nat->Nat->Int}{tn D:Nat}{x:Int}(h:bE t tn (bD t tn D x)<0):eP t tn x<=D:=by
 rcases Nat.lt_or_ge D (eP t tn x)with h1|h1
 ·have:=Ba h1; omega
 exact h1
theorem Inv0.ahm(h:Inv0 L T)(x:Int):eP L.t L.tn x<=4:=by
 obtain⟨D,b,a⟩:=h.dep x;have:=U7 a; omega
theorem Bb{x:Nat->Int}{p:Nat}{n c:Int}(h : ∀ a,a<54->x a<=c)(d:n<=c) : ∀ a,a<54->upd x p n a<=c:=fun a b=>by
 show(if a=p then n else x a)<=c;split
 ·exact d
 ·exact h a b
theorem Fq{f:(Nat->Int)->(Nat->Int) × Int}{idx:Nat->Nat}{R:Nat->Nat->Int}{n:Nat}{B d:Int}(o:0<=d)(m : ∀ x c,(f x).2=0->(∀ a,a<54->x a<=c) -> ∀ a,a<54->(f x).1 a<=c+d)(j : ∀ k,k<n -> ∀ a,a<54->R k a<=B) : ∀(K:Nat) k,k<n -> ∀ a,a<54->(dw f idx R K).1 k a<=B+d*(K:Int)
 | 0,k,hk,a,ha=>by have h:=j k hk a ha; show R k a<=B+d*0; omega
 | K+1,k,hk,a,ha=>by
   have b:=Fq o m j (idx:=idx) K;have e:d*((K+1:Nat):Int)=d*(K:Int)+d:=(by rw[Int.natCast_succ,Int.mul_add,Int.mul_one]);rw[e];unfold dw;by_cases l:(dw f idx R K).2=0
   ·rw[d_ l];by_cases g:(f ((dw f idx R K).1 (idx K))).2=0
    ·rw[d_ g];show(if k=idx K then _ else _:Nat->Int) a<=_;by_cases i:k=idx K
     ·rw[d_ i];have:=m _ (B+d*(K:Int)) g (by rw[<- i]; exact b k hk) a ha; omega
     ·rw[b_ i]; have:=b k hk a ha; omega
    ·rw[b_ g]; have:=b k hk a ha; show(dw f idx R K).1 k a<=_; omega
   ·rw[b_ l]; have:=b k hk a ha; omega
theorem U8{i n c:Int}{x:Nat->Int}(g:n<=65536)(h:(bC x i n).2=0)(hx : ∀ a,a<54->x a<=c) : ∀ a,a<54->(bC x i n).1 a<=c+65536:=by
 obtain⟨a,f,_,_,_,_,_,_,_,_,_,e⟩:=Je h;rw[e];have:=hx (6+a) (by omega);exact Bb (fun b d=>by have:=hx b d; omega) (by omega)
theorem U9{i n c:Int}{x:Nat->Int}(h:(bG x i n).2=0)(hx : ∀ a,a<54->x a<=c) : ∀ a,a<54->(bG x i n).1 a<=c+0:=by
 obtain⟨a,g,_,_,_,b,_,_,_,_,e⟩:=Jf h;rw[e,E_];have d:=hx (6+a) (by omega);have f:n<=x (6+a)-x (12+a):=b;exact Bb hx (by omega)
theorem OV(h:QN L T){a:Nat}{r:Int}(hr:r<=256) : ∀ i,i<6 -> ∀ j,j<aI L.rn a (L.rn a+1) i->aI L.rq a (aI (L.rq a) (L.rn a) r) i j<=256:=fun i d j b=>by
 unfold aI at b ⊢;by_cases e:i=a
 ·subst e;rw[d_ rfl]at b ⊢;by_cases c:j=L.rn i
  ·rw[d_ c]; exact hr
  ·rw[b_ c]; exact h.rq i d j (by omega)
 ·rw[b_ e]at b ⊢; exact h.rq i d j b
attribute [local irreducible] eP in
theorem QO(A:Inv0 L T)(h:QN L T)(E:oz v)(D:bR v=true)(d:dS L v=0) :
 (∀ k,k<(iN L v).nn -> ∀ a,a<54->(iN L v).R k a<=2097152*((T+1:Nat):Int))/\(∀ i,i<6 -> ∀ j,j<(iN L v).rn i->(iN L v).rq i j<=256):=by
 have m:=jh D;have ab:=mR D;have V:(0:Int)<=(T:Int):=Int.natCast_nonneg _;have X:((T+1:Nat):Int)=(T:Int)+1:=Int.natCast_succ _;have u : ∀ k,k<L.nn -> ∀ a,a<54->L.R k a<=2097152*((T+1:Nat):Int):=fun k m a l=>by have:=h.rb k m a l; omega
 have G : ∀ q r,(∀ a,a<54->r a<=2097152*((T+1:Nat):Int)) -> ∀ k,k<L.nn -> ∀ a,a<54->aI L.R q r k a<=2097152*((T+1:Nat):Int):=fun q r O k m a l=>by
  unfold aI; split
  ·exact O a l
  ·exact u k m a l
 have P:=E.aS;unfold dS at d;unfold iN;by_cases s:v.kind=1
 ·rw[d_ s]at d ⊢;obtain⟨k,N,ae,Z,Y,Q,S,I,aa,ac,ad⟩:=wQ A D s d;rw[I];refine⟨fun i M a l => ?_,h.rq⟩;show cO L.R k (upd (fun _=>0) (aO v) v.aS) i a<=_
  rcases dX N M with rfl|⟨j,hj,e,_,_⟩
  ·rw[dH];exact Bb (c:=2097152*((T+1:Nat):Int)) (fun b _=>by omega) (by omega) a l
  rw[e]; exact u j hj a l
 by_cases z:v.kind=2
 ·rw[b_ s,d_ z]at d ⊢;unfold wP at d;split at d; · cases d
  rename_i n1;split at d; · cases d
  have w:=A.OU n1;have J:=h.rb _ w (aO v) (by omega);exact⟨G _ _ (Bb (fun b B=>u _ w b B) (by omega)),h.rq⟩
 by_cases C:v.kind=3
 ·rw[b_ s,b_ z,d_ C]at d ⊢;have y : ∀ k,k<L.nn -> ∀ a,a<54->(ny L v).1 k a<=2097152*((T+1:Nat):Int):=fun k m a l=>by
   have U:=A.ahm v.node;have:=Fq (f:=fun x=>bC x v.o v.aS) (idx:=ow L v.node) (by decide) (fun x c=>U8 P) h.rb (eP L.t L.tn v.node) k m a l;unfold ny; omega
  unfold mh qL;generalize ny L v=W at y;exact⟨y,OV h E.req⟩
 by_cases F:v.kind=4
 ·rw[b_ s,b_ z,b_ C,d_ F]at d ⊢;have y : ∀ k,k<L.nn -> ∀ a,a<54->(mo L v).1 k a<=2097152*((T+1:Nat):Int):=fun k m a l=>by
   have:=Fq (f:=fun x=>bG x v.o (L.g (zB L v) 3)) (idx:=ow L (L.g (zB L v) 2)) (O_ 0) (fun x c=>U9) h.rb (eP L.t L.tn (L.g (zB L v) 2)) k m a l;unfold mo; omega
  unfold kJ qL;generalize mo L v=W at y;exact⟨y,OV h E.req⟩
 by_cases H:v.kind=5
 ·rw[b_ s,b_ z,b_ C,b_ F,d_ H]at d ⊢;unfold pz at d;split at d; · cases d
  rename_i n1;split at d; · cases d
  have w:=A.OU n1;obtain⟨a,b,l,B,_,_,_,_,_,_,_,e⟩:=AZ d;have J:=h.rb _ w (18+a*6+b) (by omega);have K:=G (L.node v.node).toNat _ (Bb (x:=L.R (L.node v.node).toNat) (p:=18+a*6+b) (n:=L.R (L.node v.node).toNat (18+a*6+b)+v.aS) (fun b B=>u _ w b B) (by omega));refine⟨?_,h.rq⟩;show ∀ k,k<L.nn -> ∀ c,c<54->aI L.R (L.node v.node).toNat (yt L v).1 k c<=_;unfold yt;rw[e]; exact K
 rw[b_ s,b_ z,b_ C,b_ F,b_ H];split
 ·exact⟨u,h.rq⟩
 exact⟨u,h.rq⟩
theorem QN.mono{T':Nat}(h:QN L T)(e:T<=T'):QN L T' where
 kt:=fun i c=>by have:=h.kt i c; omega
 rb:=fun k d a b=>by have:=h.rb k d a b; omega
 rq:=h.rq
theorem Ho(j:oz v)(h:Inv L T):Inv (dN L v) (T+1):=by
 refine⟨zX h.toInv0,?_,?_⟩ <;> unfold dN <;> by_cases a:bK L v=0
 ·rw[d_ a];unfold bK at a;split at a; · cases a
  rename_i d;split at a; · cases a
  split at a; · cases a
  split at a; · cases a
  have e:bR v=true:=by simpa using d
  have c:=Hl h.toInv0 h.s e a;exact⟨c.us,c.gb⟩
 ·rw[b_ a]; exact h.s
 ·rw[d_ a];unfold bK at a;split at a; · cases a
  rename_i d;split at a; · cases a
  split at a; · cases a
  split at a; · cases a
  have e:bR v=true:=by simpa using d
  have c:=QO h.toInv0 h.b j e a;refine⟨fun i g => ?_,c.1,c.2⟩;have f:(G9 (iN L v) v).known=aI L.known (aO v) (L.known (aO v)+1):=by unfold G9; simp only[qc]
  rw[f];have d:=h.b.kt i g;have k:=h.b.kt (aO v) (mR e);unfold aI;split <;> omega
 rw[b_ a]; exact h.b.mono (Nat.le_succ T)
theorem Inv.mono{T':Nat}(h:Inv L T)(a:T<=T'):Inv L T':=⟨h.toInv0.mono a,h.s,h.b.mono a⟩
end
end Rt
end
section
namespace Rt
def evX(e:Nat->EvM):Nat->Value:=flat 14 fun k=>bU (e k)
noncomputable def oH(e:Nat->EvM)(K:Nat->Int)(L:fZ):Nat->fZ
 | 0=>L
 | j+1=>if(e j).seq<=K (aO (e j))then dN (oH e K L j) (e j)else oH e K L j
def KV(L M:fZ):Prop := ∀ i,i<6->L.known i=M.known i
open Classical in
noncomputable def iX(e:Nat->EvM)(n:Nat)(K:Nat->Int):Nat->fZ->fZ
 | 0,L=>L
 | f+1,L=>if KV (oH e K L n) L then oH e K L n else iX e n K f (oH e K L n)
noncomputable def Fu(e:Nat->EvM)(n:Nat)(K:Nat->Int)(L:fZ):fZ:=iX e n K (n+1) L
section
variable {e:Nat->EvM} {K:Nat->Int} {L M M':fZ} {j n r:Nat}
theorem Va(h:M=oH e K L j)(b:(e j).seq<=K (aO (e j)))(a:M'=dN M (e j)):M'=oH e K L (j+1):=by unfold oH; rw[d_ b,<- h,a]
theorem YE(h:M=oH e K L j)(a : ¬ (e j).seq<=K (aO (e j))):M=oH e K L (j+1):=by unfold oH; rw[b_ a,<- h]
theorem QS(hr:r<=n)(h:M=oH e K L n)(a:KV M L):iX e n K (n+1-r) L=M:=by
 rw[show n+1-r=(n-r)+1 by omega]; unfold iX; rw[<- h,d_ a]
theorem Vb(hr:r<=n)(h:M=oH e K L n)(a : ¬ KV M L):iX e n K (n+1-(r+1)) M=iX e n K (n+1-r) L:=by
 rw[show n+1-r=(n-r)+1 by omega,show n+1-(r+1)=n-r by omega]
 conv=>rhs; unfold iX
 rw[<- h,b_ a]
theorem Hq{m a:lS}:KV m.core a.core <-> ∀ i,i<6->(rv .u64 m.s.known) i=(rv .u64 a.s.known) i:=by
 unfold KV rv;simp only[Value.int.injEq,true_and]; exact Iff.rfl
end
theorem Gd.kd{K:Nat->Int}(h:Gd K):Fx.Kd (List.replicate 6 (some .u64)) (rv .u64 K):=Fx.RV fun i a=>Fx.uL (by have:=h i a; omega)
end Rt
attribute [irreducible] Rt.iX
set_option maxRecDepth 20000 in
theorem YF(m:lS)(B p T:Nat)(O:Option Addr)(an E:Nat)(ev:Nat->EvM)(K:Nat->Int)(w:World)(hL:vP w B p m)(hI:Inv m.core T)(hA:mM w O an 14 (evX ev))(hwf : ∀ k,k<an->gU (ev k))(hmay : ∀ k,k<an->bR (ev k)=true)(hsm : ∀ k,k<an->oz (ev k))(han:an<=60)(hT:T<=890000) :
 Calls Tryz.prog 37 #[(pt p),.slice O (an) (E),.agg (aA 6 (rv .u64 K))] w fun e w' => ∃ p' m',e = .returned (pt p')/\m'.core=Fu ev an K m.core/\Inv m'.core (T+3660)/\vP w' B p' m'/\Below w.heap.size w w':=by
 refine Kent Tryz.func37 59 ?_;refine ay<|qD fun H w1 lK g s1 z1 => ?_;have⟨l,b1⟩:=fD s1.old hL (Below.refl w.heap.size w);have sU:=ig lK;have uq:=g.lt;refine av (.pointer none)<|aC<|Ws<|ay<|av (au 0)<|aC<|Wb<|Wo (fun f z => ∃ r:Nat,∃ x:Nat,∃ g:lS,∃ N:Nat,r<=an+1/\iX ev an K (an+1-r) g.core=Fu ev an K m.core/\Inv g.core N/\N<=T+r*60/\f 0=(pt x)/\f 1 = .slice O (an) (E)/\f 5=(pt H)/\f 7=au (r:Int)/\aQ z H 6 (rv .u64 K) 30/\vP z B x g/\Below w.heap.size w z) (fun f _=>(an+1-(intOf (f 7)).toNat)) ⟨0,p,m,T,by omega,rfl,hI,by omega,(by rfl),(by rfl),(by rfl),Fx.ic,g,l,b1⟩ ?_;rintro f1 w2 ⟨r,x,g,N,hr,hc1,S,hT1,h1,h2,h3,h4,m3,m4,b2⟩;refine Ws<|ay<|aT h4<|aT h2<|av (au an) ?_;by_cases c13:(r:Int)<=(an:Int)
 ·refine Lv aG (nE c13)<|aC<|aN<|Wk<|sN<|Ws<|Wb<|Ws ?_;have ahn:=m4.c;refine Wl<|aT h1<|av (pt x)<|av (pt x)<|av (pf x 12)<|Lv (.agg (aA 6 (rv .u64 g.s.known))) (fP ahn.aH 12 (fun j V=>lZ _ (by omega) (kr _ V (by omega))))<|uh 6 (rv .u64 (fun _=>0)) fun g2 w3 Ak m5 s2 z2 => ?_;have⟨m6,m7,b3⟩:=jw s2.old m3 m4 b2;have pV:=iV Ak b2.size;have⟨agI,KW⟩:=vY Ak m3.lt ahn.lt;have zy:=m5.lt;refine fA m5 0 fun w4 m9 s3 z3 => ?_;have m10:aQ w4 g2 6 (rv .u64 g.s.known) 30:=aU m9;have m11:=m6.cZ s3 (by omega);have fV:=gZ s3 m5.ty;have m12:=kF fV m7;have b4:=s3.below b3 b3.size (by omega);refine aC<|Ws<|ay<|av (au 0)<|aC<|Wb<|Wo (fun f z => ∃ j:Nat,∃ u:Nat,∃ l:lS,∃ A:Nat,j<=an/\l.core=oH ev K g.core j/\Inv l.core A/\A<=T+r*60+j/\f 0=(pt u)/\f 1 = .slice O (an) (E)/\f 5=(pt H)/\f 7=au (r:Int)/\f 8=(pt g2)/\f 9=au (j:Int)/\aQ z H 6 (rv .u64 K) 30/\aQ z g2 6 (rv .u64 g.s.known) 30/\vP z B u l/\Below w.heap.size w z) (fun f _=>(an-(intOf (f 9)).toNat)) ⟨0,x,g,N,by omega,rfl,S,by omega,h1,h2,h3,(h4.trans Fx.ic),(by rfl),Fx.ic,m11,m10,m12,b4⟩ ?_;rintro f2 t ⟨j,u,l,A,V,U,D,hT2,I,C,R,h8,h9,y,W,m15,J,G⟩;refine Ws<|ay<|aT y<|aT C<|av (au an) ?_;by_cases c24:(j:Int)<(an:Int)
  ·refine Lv aG (gu c24)<|aC<|aN<|Wk<|sN<|Ws<|Wb<|Ws ?_;obtain⟨a,ha,ho⟩:=fH (iP (hmay j (by omega)));have eN:aO (ev j)=a:=(by unfold aO; omega);refine xR<|eG C<|eG y ?_;obtain⟨F,L,eq1,Z⟩:=(hA.up G rfl) (by omega);have YG:F<t.heap.size:=Z.lt (by omega);refine Qv (pf F (14*j+L)) (fun b d=>dh 14 (hx:=(rfl.trans (M_ (fun q=>Value.slice q (an) (E)) eq1))))<|aW (pf F (14*j+L+1))<|Qv (aD ((ev j).seq)) (fun b d=>aL (Z.dr d) (14*j+1) (Fx.fO (k:=j) (j:=1) (by omega) (by omega) rfl))<|eG C<|eG y<|Qv (pf F (14*j+L)) (fun b d=>dh 14 (hx:=(rfl.trans (M_ (fun q=>Value.slice q (an) (E)) eq1))))<|aW (pf F (14*j+L))<|Qv (au ((ev j).o)) (fun b d=>aL (Z.dr d) (14*j) (Fx.fO (k:=j) (j:=0) (by omega) (by omega) rfl))<|Qv (au a) (fun b d=>gH)<|Qv (pf H a) (fun b d=>jC 6 1 (hx:=R))<|Qv (aD (K a)) (fun b d=>aL (W.aH.dr d) a) ?_;by_cases P:((ev j).seq)<=(K a)
   ·refine Qv aG (fun b d=>nE P)<|Qn ?_;rintro _ ⟨v,rfl⟩;obtain⟨Dv,oV⟩ : ∃ b,b=World.drewN t v:=⟨_,rfl⟩;rw[<- oV];have s4:Stp t.heap.size t Dv:=(by rw[oV]; exact Sb (jM t v));have⟨m18,m19,m20,m21,b6⟩:=uj s4.old W m15 J Z G;clear oV;refine sN<|aN<|Wl<|aT I<|aT C<|aT y<|Lv (pf F (14*j+L)) (dh 14 (hx:=(rfl.trans (M_ (fun q=>Value.slice q (an) (E)) eq1))))<|Lv (.agg (aA 14 (bU (ev j)))) (fP m21 (14*j) (fun jq hjq=>Fx.jB (k:=j) (by omega) hjq))<|mE (OP l B u A (ev j) _ m20 (hwf j (by omega)) D.w (by omega)) ?_;rintro e9 w6 ⟨M,m3,he,hc3,hL1,hb1⟩;refine⟨.tuple #[(pt M),au (bK l.core (ev j))],he,?_⟩;clear he;have⟨m22,m23,b7⟩:=jw hb1 m18 m19 b6;refine av (.tuple #[(pt M),au (bK l.core (ev j))])<|av (pt M)<|av (au (bK l.core (ev j)))<|av (pt M)<|Ln<|bQ<|sN<|Wl<|aT y<|Lv (au ((j:Int)+1)) eO<|av (au ((j:Int)+1))<|Ln<|gF ⟨j+1,M,m3,A+1,by omega,(Va U (by rw[eN]; exact P) hc3),(by rw[hc3]; exact Ho (hsm j (by omega)) D),by omega,(by rfl),C,R,(h8.trans Fx.ic),h9,Fx.ic,m22,m23,hL1,b7⟩ ?_;show(an-(intOf (au ((j:Int)+1))).toNat)<_;simp only[y,intOf]; omega
   refine Qv aF (fun b d=>nM P)<|Qn ?_;rintro _ ⟨v,rfl⟩;obtain⟨wq2,sJ⟩ : ∃ b,b=World.drewN t v:=⟨_,rfl⟩;rw[<- sJ];have s6:Stp t.heap.size t wq2:=(by rw[sJ]; exact Sb (jM t v));have⟨nk,og,oh,b8⟩:=kR s6.old W m15 J G;clear sJ;refine sN<|aK<|Wk<|bQ<|sN<|Wl<|aT y<|Lv (au ((j:Int)+1)) eO<|av (au ((j:Int)+1))<|Ln<|gF ⟨j+1,u,l,A,by omega,(YE U (by rw[eN]; exact P)),D,by omega,I,C,R,(h8.trans Fx.ic),h9,Fx.ic,nk,og,oh,b8⟩ ?_;show(an-(intOf (au ((j:Int)+1))).toNat)<_;simp only[y,intOf]; omega
  refine Lv aF (gy c24)<|aC<|aK<|Wx<|cu<|gL<|cB<|sN<|Ws ?_;have aoh:=J.c;refine xR<|eG I<|aW (pt u)<|aW (pt u)<|aW (pf u 12)<|Qv (.agg (aA 6 (rv .u64 l.s.known))) (fun b d=>fP (aoh.aH.dr d) 12 (fun j V=>lZ _ (by omega) (kr _ V (by omega))))<|Qv (.agg (aA 6 (rv .u64 g.s.known))) (fun b d=>fP (m15.aH.dr d) 0 (ha:=h9)) ?_;by_cases Q : ∀ i,i<6->(rv .u64 l.s.known) i=(rv .u64 g.s.known) i
  ·refine Qv aG (fun b d=>Fx.xL (n:=6) (ks:=List.replicate 6 (some .u64)) (X:=rv .u64 l.s.known) (Y:=rv .u64 g.s.known) 12 true rfl rfl rfl (Fx.Xy Q) (Gd.kd D.kn) (Gd.kd S.kn) rfl (by kernel_rfl) (by kernel_rfl) (by kernel_rfl) (by kernel_rfl) (by kernel_rfl))<|Qn ?_;rintro _ ⟨v,rfl⟩;obtain⟨wq3,Fb⟩ : ∃ b,b=World.drewN t v:=⟨_,rfl⟩;rw[<- Fb];have s7:Stp t.heap.size t wq3:=(by rw[Fb]; exact Sb (jM t v));have⟨lX,b9⟩:=fD s7.old J G;clear Fb;refine sN<|aN<|ay<|aT I<|av (pt u)<|aC<|Wr<|bO<|sR<|qm<|bO<|sR<|aJ (pt u) ?_;exact⟨u,l,rfl,((QS (n:=an) (r:=r) (by omega) (by rw[show an=j by omega]; exact U) (Hq.2 Q)).symm.trans hc1),D.mono (by omega),lX,b9⟩
  refine Qv aF (fun b d=>Fx.xL (n:=6) (ks:=List.replicate 6 (some .u64)) (X:=rv .u64 l.s.known) (Y:=rv .u64 g.s.known) 12 false rfl rfl rfl (Fx.nob Q) (Gd.kd D.kn) (Gd.kd S.kn) rfl (by kernel_rfl) (by kernel_rfl) (by kernel_rfl) (by kernel_rfl) (by kernel_rfl))<|Qn ?_;rintro _ ⟨v,rfl⟩;obtain⟨wq4,Fe⟩ : ∃ b,b=World.drewN t v:=⟨_,rfl⟩;rw[<- Fe];have s8:Stp t.heap.size t wq4:=by rw[Fe]; exact Sb (jM t v)
  have⟨pR,oq,b10⟩:=jw s8.old W J G;clear Fe;refine sN<|aK<|Wk<|bQ<|sN<|Wl<|aT h8<|Lv (au ((r:Int)+1)) eO<|av (au ((r:Int)+1))<|Ln<|gF ⟨r+1,u,l,A,by omega,(Vb (by omega) (by rw[show an=j by omega]; exact U) (fun h=>Q (Hq.1 h))).trans hc1,D,by omega,I,C,R,Fx.ic,pR,oq,b10⟩ ?_;show(an+1-(intOf (au ((r:Int)+1))).toNat)<_;simp only[h4,intOf]; omega
 refine Lv aF (nM c13)<|aC<|aK<|Wx<|cu<|gL<|cB<|sN<|ay<|aT h1<|av (pt x)<|aC<|Wr<|aJ (pt x) ?_;exact⟨x,g,rfl,(by rw[<- hc1,show an+1-r=0 by omega]; unfold iX; rfl),S.mono (by omega),m4,b2⟩
end
section
namespace Rt
def zeroE:EvM:=⟨0,0,fun _=>0,0,0,0,0,0,0⟩
def gY(ev:Nat->EvM):Nat->Nat->Int
 | 0,_=>0
 | k+1,i=>gY ev k i+if aO (ev k)=i then 1 else 0
structure OW(ev:Nat->EvM)(an:Nat)(K:Nat->Int):Prop where
 le : ∀ i,i<6->K i<=gY ev an i
 cl : ∀ k,k<an->(ev k).seq<=K (aO (ev k)) -> ∀ i,i<6->(ev k).deps i<=K i
structure Cz(n an:Nat)(ev:Nat->EvM)(kn:Nat->Nat->Int):Prop where
 rd : ∀ k,k<an->dD (gY ev k) (ev k)=true
 reg : ∀ k,k<an->aO (ev k)<n
 own : ∀ o,o<n->kn o o=gY ev an o
 kc : ∀ o,o<n->OW ev an (kn o)
section
variable {ev:Nat->EvM} {an n j k i:Nat} {K:Nat->Int} {kn kn':Nat->Nat->Int} {v:EvM} {L:fZ}
theorem Vd : ∀ d k i,gY ev k i<=gY ev (k+d) i
 | 0,_,_=>O_ _
 | d+1,k,i=>by have:=Vd d k i; show _<=gY ev (k+d) i+_; split <;> omega
theorem cnt_mono(h:j<=k):gY ev j i<=gY ev k i:=by have:=Vd (ev:=ev) (k-j) j i; rwa [show j+(k-j)=k by omega]at this
theorem Ed(h:j<k):gY ev j (aO (ev j))+1<=gY ev k (aO (ev j)):=by
 have a:gY ev (j+1) (aO (ev j))<=gY ev k (aO (ev j)):=cnt_mono (by omega);have b:gY ev (j+1) (aO (ev j))=gY ev j (aO (ev j))+1:=by show _+(if _ then _ else _)=_; rw[d_ rfl]
 omega
theorem zZ : ∀ k i,0<=gY ev k i
 | 0,_=>O_ _
 | k+1,i=>by have:=zZ k i; unfold gY; split <;> omega
theorem Gl(h:dD K v=true):bR v=true/\v.seq=K (aO v)+1 /\ ∀ i,i<6->v.deps i<=K i:=by
 unfold dD at h;simp only[T_,decide_eq_true_eq]at h;refine⟨h.1.1,h.1.2,fun i a => ?_⟩;have:=h.2;unfold yc at this;rw[List.all_eq_true]at this;exact h_ (this i (P_.2 a))
theorem Jm(h1:bR v=true)(a:v.seq=K (aO v)+1)(b : ∀ i,i<6->v.deps i<=K i):dD K v=true:=by
 unfold dD;simp only[T_,decide_eq_true_eq];refine⟨⟨h1,a⟩,?_⟩;unfold yc;rw[List.all_eq_true];intro i c;exact f_ (b i (P_.1 c))
theorem Cz.seq(h:Cz n an ev kn)(a:k<an):(ev k).seq=gY ev k (aO (ev k))+1:=(Gl (h.rd k a)).2.1
theorem Cz.Ni(h:Cz n an ev kn)(a:k<an):(ev k).seq<=gY ev an (aO (ev k)):=by rw[h.seq a]; exact Ed a
theorem Cz.uniq(h:Cz n an ev kn)(c:j<an)(d:k<an)(b:aO (ev j)=aO (ev k))(a:(ev j).seq=(ev k).seq):j=k:=by
 rw[h.seq c,h.seq d]at a
 rcases Nat.lt_trichotomy j k with h1|h1|h1
 ·have:=Ed (ev:=ev) h1; rw[b]at this a; omega
 ·exact h1
 have:=Ed (ev:=ev) h1; rw[<- b]at this a; omega
theorem Cz.step(h:Cz n an ev kn)(c:OW ev an K)(d:j<an)(hr:dD K (ev j)=true):OW ev an (aI K (aO (ev j)) (K (aO (ev j))+1)):=by
 obtain⟨_,l,m⟩:=Gl hr;have g : ∀ i,K i<=aI K (aO (ev j)) (K (aO (ev j))+1) i:=fun i=>by unfold aI; split <;> (try subst_vars) <;> omega
 refine⟨fun i a => ?_,fun k f b i a => ?_⟩
 ·unfold aI; split
  ·rename_i e; rw[e,<- l]; exact h.Ni d
  exact c.le i a
 by_cases e:(ev k).seq<=K (aO (ev k))
 ·exact S_ (c.cl k f e i a) (g i)
 unfold aI at b;split at b
 ·rename_i e2;rw[e2]at e;have:k=j:=h.uniq f d e2 (by omega);subst this;exact S_ (m i a) (g i)
 exact N_ b e
theorem jO(h:bK L v=0):dD L.known v=true:=by
 unfold bK at h;split at h; · cases h
 split at h; · cases h
 split at h; · cases h
 rename_i h3
 cases e:dD L.known v with
 | true=>rfl
 | false=>exact N_ e h3
theorem rO(L:fZ)(v:EvM):(bK L v=0/\(dN L v).known=aI L.known (aO v) (L.known (aO v)+1))\/(bK L v≠0/\dN L v=L):=by
 by_cases h:bK L v=0
 ·refine .inl ⟨h,?_⟩;unfold dN; rw[d_ h];show aI (iN L v).known _ _=_;rw[qc]
 refine .inr ⟨h,?_⟩;unfold dN; rw[b_ h]
def KnO(ev:Nat->EvM)(an o:Nat)(K:Nat->Int):Prop:=OW ev an K/\K o=gY ev an o
theorem Cz.apply(h:Cz n an ev kn){o:Nat}(a:KnO ev an o L.known)(c:j<an):KnO ev an o (dN L (ev j)).known:=by
 rcases rO L (ev j)with ⟨f,b⟩|⟨_,b⟩
 ·have d:=jO f;rw[b];refine⟨h.step a.1 c d,?_⟩;unfold aI;split
  ·rename_i e;have:=(Gl d).2.1;have g:=h.Ni c;rw[<- e]at this g;have:=a.2;omega
  exact a.2
 rw[b]; exact a
theorem Cz.pass(h:Cz n an ev kn){o:Nat}{b:Nat->Int}(a:KnO ev an o L.known) : ∀ j,j<=an->KnO ev an o (oH ev b L j).known
 | 0,_=>a
 | j+1,hj=>by
   unfold oH;split
   ·exact h.apply (h.pass a j (by omega)) (by omega)
   ·exact h.pass a j (by omega)
theorem Cz.iX(h:Cz n an ev kn){o:Nat}{a:Nat->Int} : ∀ f L,KnO ev an o L.known->KnO ev an o (iX ev an a f L).known
 | 0,L,hL=>by unfold Rt.iX; exact hL
 | f+1,L,hL=>by
   unfold Rt.iX;split
   ·exact h.pass hL an (A_ _)
   ·exact h.iX f _ (h.pass hL an (A_ _))
theorem Cz.learn(h:Cz n an ev kn){o:Nat}(g:o<n){b:Nat->Int}(i:L.known=kn o)(c : ∀ q,q≠o->kn' q=kn q)(d:kn' o=(Fu ev an b L).known):Cz n an ev kn':=by
 have f:KnO ev an o (Fu ev an b L).known:=h.iX (an+1) L (by rw[i]; exact⟨h.kc o g,h.own o g⟩);refine⟨h.rd,h.reg,fun q a => ?_,fun q a => ?_⟩
 ·by_cases e:q=o
  ·subst e; rw[d]; exact f.2
  rw[c q e]; exact h.own q a
 by_cases e:q=o
 ·subst e; rw[d]; exact f.1
 rw[c q e]; exact h.kc q a
theorem Bc : ∀ k,k<=an -> ∀ i,gY (aI ev an v) k i=gY ev k i
 | 0,_,_=>rfl
 | k+1,hk,i=>by
   have e:aI ev an v k=ev k:=(by unfold aI; rw[b_ (by omega)]);show gY (aI ev an v) k i+(if aO (aI ev an v k)=i then 1 else 0)=gY ev k i+if aO (ev k)=i then 1 else 0;rw[e,Bc k (by omega) i]
theorem OX(i:Nat):gY (aI ev an v) (an+1) i=gY ev an i+if aO v=i then 1 else 0:=by
 show gY (aI ev an v) an i+(if aO (aI ev an v an)=i then 1 else 0)=_;rw[Bc an (A_ _)];unfold aI; rw[d_ rfl]
theorem Cz.event(h:Cz n an ev kn){o:Nat}(m:o<n)(hr:dD (kn o) v=true)(d:aO v=o)(y:v.deps=kn o)(g : ∀ q,q≠o->kn' q=kn q)(j:kn' o=aI (kn o) o (kn o o+1)):Cz n (an+1) (aI ev an v) kn':=by
 obtain⟨u,t,z⟩:=Gl hr;rw[d]at t;have s : ∀ k,k<an->aI ev an v k=ev k:=fun k l=>by unfold aI; rw[b_ (by omega)]
 have r:aI ev an v an=v:=by unfold aI; rw[d_ rfl]
 have p:=h.own o m;refine⟨fun k l => ?_,fun k l => ?_,fun q c => ?_,fun q c=>⟨fun i b => ?_,fun k l a i b => ?_⟩⟩
 ·have e:gY (aI ev an v) k=gY ev k:=funext fun i=>Bc k (by omega) i;rw[e];by_cases f:k=an
  ·subst f; rw[r];refine Jm u (by rw[d,t,p]) fun i b => ?_;exact S_ (z i b) ((h.kc o m).le i b)
  rw[s k (by omega)]; exact h.rd k (by omega)
 ·by_cases f:k=an
  ·subst f; rw[r,d]; exact m
  rw[s k (by omega)]; exact h.reg k (by omega)
 ·rw[OX,d];by_cases e:q=o
  ·subst e; rw[j,d_ rfl]; unfold aI; rw[d_ rfl,p]
  rw[g q e,b_ (fun x=>e x.symm),h.own q c,E_]
 ·rw[OX,d];by_cases e:q=o
  ·subst e; rw[j]; unfold aI;split
   ·rename_i ei; subst ei; rw[d_ rfl,p]; exact O_ _
   have:=(h.kc q c).le i b; split <;> omega
  rw[g q e]; have:=(h.kc q c).le i b; split <;> omega
 by_cases f:k=an
 ·subst f;rw[r]at a ⊢;by_cases e:q=o
  ·subst e; rw[j,y]; unfold aI; split <;> (try subst_vars) <;> omega
  rw[g q e,d,t]at a;have:=(h.kc q c).le o;have w:o<6:=by have:=mR u; omega
  have:=this w;omega
 rw[s k (by omega)]at a ⊢;by_cases e:q=o
 ·subst e;rw[j]at a ⊢;have A : ∀ i,kn q i<=aI (kn q) q (kn q q+1) i:=fun i=>by unfold aI; split <;> (try subst_vars) <;> omega
  refine S_ ((h.kc q c).cl k (by omega) ?_ i b) (A i);unfold aI at a;split at a
  ·rename_i e3; have:=h.Ni (k:=k) (by omega); rw[e3]at this ⊢; omega
  exact a
 rw[g q e]at a ⊢; exact(h.kc q c).cl k (by omega) a i b
theorem Cz.zero(n:Nat)(h : ∀ o,o<n->kn o=fun _=>0):Cz n 0 ev kn:=⟨fun _ h=>N_ h (z_ _),fun _ h=>N_ h (z_ _),fun o a=>by rw[h o a]; rfl,fun o a=>⟨fun i _=>by rw[h o a]; exact O_ _,fun _ h=>N_ h (z_ _)⟩⟩
end
end Rt
end
end Go.Proofs.YtahbiajdgealnaaGreatDoor
namespace Go.Proofs.YtahbiajdgealnaaGreatDoor
open Go.RowKit
namespace Fx
section
variable {S S':Nat->Prop}
theorem jT.trans(w w' c:World)(h:jT S w w')(k:jT S w' c):jT S w c:=⟨k.os.trans h.os,k.tape.trans h.tape,k.output.trans h.output,m_ h.size k.size,fun i b a=>(k.block i (n_ b h.size) a).trans (h.block i b a)⟩
theorem jT.mono{w w':World}(h:jT S w w')(a : ∀ k,S k->S' k):jT S' w w':=⟨h.os,h.tape,h.output,h.size,fun i b c=>h.block i b fun d=>c (a i d)⟩
theorem jT.BH{g:Nat}{w w':World}(h:Stp g w w'):jT (fun k=>k=g) w w':=(uM _ w).then h (.inl rfl)
end
end Fx
end Go.Proofs.YtahbiajdgealnaaGreatDoor
namespace Go.Proofs.YtahbiajdgealnaaGreatDoor
open Go.RowKit Rt
open Fx (Sb rv aA aQ ev dB Mp iA jT iU)
section
structure dU where
 inn:Nat->Bool
 left:Nat->Bool
 known:Nat->Int
 own:Nat->Int
 T:dJ
 R:Nat->Nat->Int
 gn:Nat
 g:Nat->Nat->Int
 an:Nat
 ao:Nat->Int
 ar:Nat->Int
 tp:Nat
 mb:Nat
 pb:Nat
 rb:Nat
 gb:Nat
 ab:Nat
def vE(m:dU):Nat->Value:=fun p=>if p<6 then .bool (m.inn p)else if p<12 then .bool (m.left (p-6))else if p<18 then .int .u64 (m.known (p-12))else if p=18 then .pointer (some ⟨m.tp,0,none⟩)else if p=19 then .map (some m.pb)else if p=20 then .map (some m.rb)else if p<27 then .int .i64 (m.own (p-21))else if p=27 then .map (some m.gb)else .map (some m.ab)
section
variable {m:dU} {p q:Nat}
theorem Ce(h:p<6):vE m p = .bool (m.inn p):=by unfold vE; rw[d_ h]
theorem Bd(h:p<6)(e:q=p+6):vE m q = .bool (m.left p):=by subst e; unfold vE; rw[b_ (by omega),d_ (by omega),Nat.add_sub_cancel]
theorem vF(h:p<6)(e:q=p+12):vE m q = .int .u64 (m.known p):=by subst e; unfold vE; rw[b_ (by omega),b_ (by omega),d_ (by omega),Nat.add_sub_cancel]
theorem Jo(h:p<6)(e:q=p+21):vE m q = .int .i64 (m.own p):=by subst e; unfold vE; rw[b_ (by omega),b_ (by omega),b_ (by omega),b_ (by omega),b_ (by omega),b_ (by omega),d_ (by omega),Nat.add_sub_cancel]
theorem Ve{i:Nat}(hi:i<6)(b:Bool):dB (vE m) i (.bool b)=vE { m with inn:=aI m.inn i b }:=by
 funext p
 unfold dB;by_cases e:p=i
 ·subst e; rw[d_ rfl,Ce hi]; simp[aI]
 rw[b_ e]; unfold vE;by_cases h:p<6
 ·rw[d_ h,d_ h]; simp[aI,e]
 rw[b_ h,b_ h]
theorem Vf{i:Nat}(hi:i<6)(e0:q=i+6)(b:Bool):dB (vE m) q (.bool b)=vE { m with left:=aI m.left i b }:=by
 subst e0
 funext p
 unfold dB;by_cases e:p=i+6
 ·subst e; rw[d_ rfl,Bd hi rfl]; simp[aI]
 rw[b_ e]; unfold vE;by_cases h:p<6
 ·rw[d_ h,d_ h]
 rw[b_ h,b_ h];by_cases a:p<12
 ·rw[d_ a,d_ a]; simp[aI,show ¬ p-6=i by omega]
 rw[b_ a,b_ a]
theorem QT{i:Nat}(hi:i<6)(e0:q=i+12)(x:Int):dB (vE m) q (.int .u64 x)=vE { m with known:=aI m.known i x }:=by
 subst e0
 funext p
 unfold dB;by_cases e:p=i+12
 ·subst e; rw[d_ rfl,vF hi rfl]; simp[aI]
 rw[b_ e]; unfold vE;by_cases h:p<6
 ·rw[d_ h,d_ h]
 rw[b_ h,b_ h];by_cases a:p<12
 ·rw[d_ a,d_ a]
 rw[b_ a,b_ a];by_cases b:p<18
 ·rw[d_ b,d_ b]; simp[aI,show ¬ p-12=i by omega]
 rw[b_ b,b_ b]
theorem YH{i:Nat}(hi:i<6)(e0:q=i+21)(x:Int):dB (vE m) q (.int .i64 x)=vE { m with own:=aI m.own i x }:=by
 subst e0
 funext p
 unfold dB;by_cases e:p=i+21
 ·subst e; rw[d_ rfl,Jo hi rfl]; simp[aI]
 rw[b_ e]; unfold vE;by_cases h:p<6
 ·rw[d_ h,d_ h]
 rw[b_ h,b_ h];by_cases a:p<12
 ·rw[d_ a,d_ a]
 rw[b_ a,b_ a];by_cases b:p<18
 ·rw[d_ b,d_ b]
 rw[b_ b,b_ b];by_cases c:p=18
 ·rw[d_ c,d_ c]
 rw[b_ c,b_ c];by_cases d:p=19
 ·rw[d_ d,d_ d]
 rw[b_ d,b_ d];by_cases f:p=20
 ·rw[d_ f,d_ f]
 rw[b_ f,b_ f];by_cases g:p<27
 ·rw[d_ g,d_ g]; simp[aI,show ¬ p-21=i by omega]
 rw[b_ g,b_ g]
end
def wS(R:Nat->Nat->Int):Nat->Value:=fun i => .agg (aA 54 (rv .i64 (R i)))
def DC(T:dJ):Nat->Value:=fun j => .int .u64 (T.p j)
def uF(g:Nat->Nat->Int):Nat->Value:=fun i => .agg (aA 5 (iE (g i)))
def DF:Nat->Value:=fun _ => .bool true
structure QlN(m:dU):Prop where
 mp:m.mb≠m.pb
 mr:m.mb≠m.rb
 mg:m.mb≠m.gb
 ma:m.mb≠m.ab
 pr:m.pb≠m.rb
 pg:m.pb≠m.gb
 pa:m.pb≠m.ab
 rg:m.rb≠m.gb
 ra:m.rb≠m.ab
 ga:m.gb≠m.ab
structure mD(w:World)(B lp:Nat)(m:dU):Prop where
 c:aQ w lp 29 (vE m) 106
 t:sF w B m.tp m.mb m.T
 p:Mp w m.pb m.T.n m.T.x (DC m.T)
 r:Mp w m.rb m.T.n m.T.x (wS m.R)
 g:iA w m.gb m.gn (fun i=>m.g i 0) (fun i=>m.g i 1) (uF m.g)
 a:iA w m.ab m.an m.ao m.ar DF
 ne:QlN m
 lB:B<=lp
 pB:B<=m.pb
 rB:B<=m.rb
 gB:B<=m.gb
 aB:B<=m.ab
def Fv(m:dU)(lp:Nat)(k:Nat):Prop:=k=lp\/k=m.mb\/k=m.pb\/k=m.rb\/k=m.gb\/k=m.ab
section
variable {w w':World} {B lp:Nat} {m:dU}
theorem mD.up(h:mD w B lp m)(b:Below w.heap.size w w'):mD w' B lp m := { h with c:=h.c.cZ (Sb b) (u_ h.c.lt),t:=h.t.up b,p:=h.p.up b,r:=h.r.up b,g:=h.g.up b,a:=h.a.up b }
instance:Rt.Tr w w' (mD w B lp m) (mD w' B lp m):=⟨fun b h=>h.up b⟩
theorem mD.kM{d:List TypeId}(h:mD w B lp m)(b:iU d w w')(e:(d.contains 106 || d.contains 135)=false):mD w' B lp m:=by
 rw[Bool.or_eq_false_iff]at e;exact { h with c:=h.c.kM b e.1,t:=h.t.kM b e.2,p:=h.p.kM b trivial,r:=h.r.kM b trivial,g:=h.g.kM b trivial,a:=h.a.kM b trivial }
instance {a:List TypeId}:Rt.Tc a w w' (mD w B lp m) (mD w' B lp m) (!(a.contains 106 || a.contains 135)):=⟨fun b h e=>h.kM b (by simpa using e)⟩
theorem sF.keep{b a:Nat}{T:dJ}(h:sF w B b a T)(c:w'.heap[b]? = w.heap[b]?)(d:w'.heap[a]? = w.heap[a]?):sF w' B b a T:=⟨c.trans h.blk,h.map.keep d,h.inv,h.gt,h.gm⟩
theorem mD.keep(h:mD w B lp m)(b : ∀ k,k=lp\/k=m.tp\/k=m.mb\/k=m.pb\/k=m.rb\/k=m.gb\/k=m.ab->w'.heap[k]? = w.heap[k]?):mD w' B lp m := { h with
 c:=(b _ (.inl rfl)).trans h.c,t:=sF.keep h.t (b _ (.inr (.inl rfl))) (b _ (.inr (.inr (.inl rfl)))),p:=h.p.keep (b _ (.inr (.inr (.inr (.inl rfl))))),r:=h.r.keep (b _ (.inr (.inr (.inr (.inr (.inl rfl)))))),
 g:=h.g.keep (b _ (.inr (.inr (.inr (.inr (.inr (.inl rfl))))))),a:=h.a.keep (b _ (.inr (.inr (.inr (.inr (.inr (.inr rfl))))))) }
theorem mD.chg{S:Nat->Prop}(h:mD w B lp m)(f:jT S w w')(d : ∀ k,k=m.tp\/Fv m lp k -> ¬ S k):mD w' B lp m:=by
 have b : ∀ k,k<w.heap.size -> ¬ S k->w'.heap[k]? = w.heap[k]? := f.block;refine h.keep fun k e => ?_
 rcases e with rfl|rfl|rfl|rfl|rfl|rfl|rfl
 ·exact b _ h.c.lt (d _ (.inr (.inl rfl)))
 ·exact b _ h.t.blk.lt (d _ (.inl rfl))
 ·exact b _ h.t.lt (d _ (.inr (.inr (.inl rfl))))
 ·exact b _ h.p.lt (d _ (.inr (.inr (.inr (.inl rfl)))))
 ·exact b _ h.r.lt (d _ (.inr (.inr (.inr (.inr (.inl rfl))))))
 ·exact b _ h.g.lt (d _ (.inr (.inr (.inr (.inr (.inr (.inl rfl)))))))
 exact b _ h.a.lt (d _ (.inr (.inr (.inr (.inr (.inr (.inr rfl)))))))
theorem mD.weak{b:Nat}(h:mD w B lp m)(a:b<=B):mD w b lp m := { h with t:=h.t.weak a,lB:=m_ a h.lB,pB:=m_ a h.pB,rB:=m_ a h.rB,gB:=m_ a h.gB,aB:=m_ a h.aB }
theorem mD.lt(h:mD w B lp m):lp<w.heap.size:=h.c.lt
theorem mD.ltS(h:mD w B lp m){k:Nat}(b:Fv m lp k):B<=k/\k<w.heap.size:=by
 rcases b with rfl|rfl|rfl|rfl|rfl|rfl
 ·exact⟨h.lB,h.c.lt⟩
 ·exact⟨h.t.gm,h.t.lt⟩
 ·exact⟨h.pB,h.p.lt⟩
 ·exact⟨h.rB,h.r.lt⟩
 ·exact⟨h.gB,h.g.lt⟩
 exact⟨h.aB,h.a.lt⟩
end
namespace Rt
def zk(x:Nat->Int):Nat->Int->Nat
 | 0,_=>0
 | n+1,k=>if x n=k then n else zk x n k
theorem nY{x:Nat->Int}{j:Nat}{k:Int} : ∀ {n:Nat},(∀ a b,a<n->b<n->x a=x b->a=b)->j<n->x j=k->zk x n k=j
 | 0,_,h,_=>N_ h (z_ _)
 | n+1,hi,hj,e=>by
   unfold zk;by_cases c:x n=k
   ·rw[d_ c]; exact hi n j (by omega) hj (c.trans e.symm)
   ·rw[b_ c];refine nY (fun a b d f=>hi a b (by omega) (by omega)) ?_ e
    rcases Nat.lt_or_ge j n with h|h
    ·exact h
    ·obtain rfl:j=n:=(by omega);exact N_ e c
end Rt
def dU.idx(m:dU)(k:Int):Nat:=zk m.T.x m.T.n k
def Vg(m:dU)(lp a:Nat)(k:Nat):Prop:=Fv m lp k\/a<=k
structure Vh(w:World)(B lp:Nat)(m m':dU)(b0:Nat)(fv:Value)(fi:Nat)(cap:Array Value):Prop where
 e:fv = .func (.func fi) #[] cap
 f : ∃ fn c, Tryz.prog.funcs[fi]? = some fn ∧ (fn.name == "runtime.NumGoroutine") = false ∧ fn.body = some c
 s : ∀ w2,Below w.heap.size w w2->Calls Tryz.prog fi cap w2 fun e w3=>e = .returned (.tuple #[])/\mD w3 B lp m'/\jT (Vg m lp b0) w2 w3
def Ry(w:World)(B lp:Nat)(m f:dU)(b:Int)(e:Ending)(w':World):Prop :=
 (∃ a d c,e = .returned (.tuple #[a,.int .i64 b])/\a.oneCell'=true/\(b=0->Vh w' B lp m f w.heap.size a d c))/\Below w.heap.size w w'
theorem mD.Jp{w w':World}{B lp g n d:Nat}{m:dU}{x:Nat->Value}{T:TypeId}(h:mD w B lp m)(b:aQ w g n x T)(f:T≠106)(i:jT (Vg m lp d) w w')(j:g<d):aQ w' g n x T:=b.chg i fun e=>by
 rcases e with (rfl|rfl|rfl|rfl|rfl|rfl)|e
 ·exact f (Fx.Ty.only h.c.ty b.ty)
 ·exact h.t.map.su b.ty
 ·exact h.p.su b.ty
 ·exact h.r.su b.ty
 ·exact h.g.su b.ty
 ·exact h.a.su b.ty
 ·omega
theorem Fx.OY{P:Program}{f:Nat->Value}{w:World}{o:Oper}{g:Nat}{t:Operand}{b:List Operand}{args:List Value}{d:Array TypeId}{cap all:Array Value}(l:o.op = .call { callee := .value t,args:=b.toArray,argTypes:=d })(m:ev f t = .func (.func g) #[] cap)(hx:b.map (ev f)=args)(j:args.toArray++cap=all)
 (k : ∃ a c, P.funcs[g]? = some a ∧ (a.name == "runtime.NumGoroutine") = false ∧ a.body = some c) : (execOp (ev f) o).run P w = .ok (.enter g all) w := by
 obtain⟨a,c,e,h,i⟩:=k;exact Fx.CG l m hx (by rw[<- j]; simp) e h i
namespace Fx
theorem It.dQ{w w':World}{r b n g:Nat}{S:Nat->Bool}(h:It w r b n S)(a:P5 g w w')(c:b≠g)(d:r≠g):It w' r b n S:=h.keep (a.s.block b h.Ru c) (a.s.block r h.lt d)
theorem Ah.dQ{w w':World}{r b i g:Nat}(h:Ah w r b i)(a:P5 g w w')(c:b≠g)(d:r≠g):Ah w' r b i:=h.keep (a.s.block b h.Ru c) (a.s.block r h.lt d)
end Fx
end
end Go.Proofs.YtahbiajdgealnaaGreatDoor
namespace Go.Proofs.YtahbiajdgealnaaGreatDoor.Fx
open Go.RowKit
section
variable {P:Program} {n0:Nat} {Q:Post} {f:Nat->Value} {w:World} {ops:Array Oper} {rest:List Oper} {o:Oper}
theorem Nj{T E:TypeId}{x:Operand}{b off n s:Nat}(d:o.op = .slice T x none none none)(hx:ev f x = .pointer (some ⟨b,off,none⟩))(c:P.underlying T=some (.array n E))(e:(P.info? E).map (·.size)=some s) :
 Runs P f o w (.slice (some ⟨b,off,none⟩) n n):=by
 obtain⟨i,a,g⟩:=Option.map_eq_some_iff.1 e;unfold Runs execOp;simp only[d,hx,Option.map_none];by_cases h:n=0
 ·subst h; simp[Instr.sliceAt,Instr.sureAddr,underlying,c,Instr.sliceBounds,sizeOf,typeInfo,a]
 simp[Instr.sliceAt,Instr.sureAddr,underlying,c,Instr.sliceBounds,sizeOf,typeInfo,a,Addr.add,g]
end
end Go.Proofs.YtahbiajdgealnaaGreatDoor.Fx
namespace Go.Proofs.YtahbiajdgealnaaGreatDoor
open Go.RowKit Rt
open Fx (bF dA eU Lv sN Ln Ws Qv Wl Rp Wr Sb Wk rV sR Rs Rn Rd Rk Wb Wx Wo Qn F3 Ag xI Dl gZ nH uN uM Aw rv aA aQ bI aM Stp aU Mp aX iQ aZ iR jT bJ jN bO bQ cu cB gL gF)
namespace Rt
def lu(v:EvM)(l:Int):Bool:=decide (l<=v.aS)&&decide (v.aS<=1125899906842624)
def rP(v:EvM):EvM:=⟨v.o,v.seq,v.deps,v.kind,0,v.dst,0,v.req,v.of⟩
def yu(v:EvM):Bool:=decide (0<v.req)
def Nk(v:EvM):EvM:=⟨v.o,v.seq,v.deps,v.kind,v.node,v.dst,v.aS,0,v.of⟩
def adg(v:EvM):EvM:=⟨v.o,v.seq,v.deps,v.kind,v.node,v.dst,v.aS,0,0⟩
def toB(v:EvM):Bool:=nS v.dst && !decide (v.dst=v.o)
def KX(v:EvM):EvM:=⟨v.o,v.seq,v.deps,v.kind,v.node,0,v.aS,v.req,v.of⟩
end Rt
def Rt.DI(v:EvM):Bool:=decide (0<v.req)&&(decide (0<v.of) && !decide (v.of=v.req))
theorem Bf(n:Int)(w:World) :
 Calls Tryz.prog 88 #[au n] w fun e w'=>e = .returned (.bool (nS n))/\w'=w:=by
 refine Kent Tryz.func88 9 ?_;refine ay<|av aF<|aC<|ay<|av (au n) ?_;by_cases a:1<=n
 ·refine Lv aG (ku a)<|av aG<|av (au n) ?_;by_cases b:n<=6
  ·refine Lv aG (nE b)<|av aG<|av aG<|aC<|Wr<|aJ aG ?_;exact⟨iB (by simp only[nS]; first|(symm; simp; omega)|(symm; simp; done)),rfl⟩
  refine Lv aF (nM b)<|av aF<|av aF<|aC<|Wr<|aJ aF ?_;exact⟨iB (by simp only[nS]; first|(symm; simp; omega)|(symm; simp; done)),rfl⟩
 refine Lv aF (jU a)<|av aF<|bX<|bX<|av aF<|av aF<|aC<|Wr<|aJ aF ?_;exact⟨iB (by simp only[nS]; first|(symm; simp; omega)|(symm; simp; done)),rfl⟩
theorem Jq(l:Int)(v:EvM)(g:Nat)(w:World)(a:aQ w g 14 (bU v) 160) :
 Calls Tryz.prog 114 #[(pt g),au l] w fun e w'=>e = .returned (.bool (lu v l))/\aQ w' g 14 (bU (rP v)) 160/\Stp g w w':=by
 have P:=a.lt;refine Kent Tryz.func114 30 ?_;refine ay<|av aF<|aC<|ay<|av (pt g)<|av (pt g)<|av (pt g)<|av (pf g 11)<|Lv (au v.aS) (aL a.aH 11)<|av (au l) ?_;by_cases c:l<=v.aS
 ·refine Lv aG (ku c)<|av aG<|av (pt g)<|av (pt g)<|av (pt g)<|av (pf g 11)<|Lv (au v.aS) (aL a.aH 11) ?_;by_cases d:v.aS<=1125899906842624
  ·refine Lv aG (nE d)<|av aG<|av aG<|aC<|ay<|av (pt g)<|av (pt g)<|av (pt g)<|av (pt g)<|av (pf g 9)<|jd a 9 (aD 0) fun J p D Q => ?_;have t:aQ J g 14 (bU (⟨v.o,v.seq,v.deps,v.kind,0,v.dst,v.aS,v.req,v.of⟩:EvM)) 160:=p.congr (fun j b=>by rcases j with _|_|_|_|_|_|_|_|_|_|_|_|_|_|j <;> first|rfl|omega)
   have f:=(nH g w).then D (by omega);refine av (pt g)<|av (pt g)<|av (pf g 11)<|jd t 11 (au 0) fun K u E R => ?_;have x:aQ K g 14 (bU (⟨v.o,v.seq,v.deps,v.kind,0,v.dst,0,v.req,v.of⟩:EvM)) 160:=u.congr (fun j b=>by rcases j with _|_|_|_|_|_|_|_|_|_|_|_|_|_|j <;> first|rfl|omega)
   have h:=f.then E (by omega);refine aC<|ay<|av aG<|av aG<|aC<|Wr<|aJ aG ?_;exact⟨iB (by simp only[lu]; first|(symm; simp; omega)|(symm; simp; done)),x,h⟩
  refine Lv aF (nM d)<|av aF<|av aF<|aC<|ay<|av (pt g)<|av (pt g)<|av (pt g)<|av (pt g)<|av (pf g 9)<|jd a 9 (aD 0) fun L y F S => ?_;have z:aQ L g 14 (bU (⟨v.o,v.seq,v.deps,v.kind,0,v.dst,v.aS,v.req,v.of⟩:EvM)) 160:=y.congr (fun j b=>by rcases j with _|_|_|_|_|_|_|_|_|_|_|_|_|_|j <;> first|rfl|omega)
  have i:=(nH g w).then F (by omega);refine av (pt g)<|av (pt g)<|av (pf g 11)<|jd z 11 (au 0) fun M A G T => ?_;have B:aQ M g 14 (bU (⟨v.o,v.seq,v.deps,v.kind,0,v.dst,0,v.req,v.of⟩:EvM)) 160:=A.congr (fun j b=>by rcases j with _|_|_|_|_|_|_|_|_|_|_|_|_|_|j <;> first|rfl|omega)
  have k:=i.then G (by omega);refine aC<|ay<|av aF<|av aF<|aC<|Wr<|aJ aF ?_;exact⟨iB (by simp only[lu]; first|(symm; simp; omega)|(symm; simp; done)),B,k⟩
 refine Lv aF (jU c)<|av aF<|bX<|bX<|bX<|bX<|bX<|bX<|av aF<|av aF<|aC<|ay<|av (pt g)<|av (pt g)<|av (pt g)<|av (pt g)<|av (pf g 9)<|jd a 9 (aD 0) fun N C H U => ?_;have q:aQ N g 14 (bU (⟨v.o,v.seq,v.deps,v.kind,0,v.dst,v.aS,v.req,v.of⟩:EvM)) 160:=C.congr (fun j b=>by rcases j with _|_|_|_|_|_|_|_|_|_|_|_|_|_|j <;> first|rfl|omega)
 have m:=(nH g w).then H (by omega);refine av (pt g)<|av (pt g)<|av (pf g 11)<|jd q 11 (au 0) fun O r I V => ?_;have s:aQ O g 14 (bU (⟨v.o,v.seq,v.deps,v.kind,0,v.dst,0,v.req,v.of⟩:EvM)) 160:=r.congr (fun j b=>by rcases j with _|_|_|_|_|_|_|_|_|_|_|_|_|_|j <;> first|rfl|omega)
 have n:=m.then I (by omega);refine aC<|ay<|av aF<|av aF<|aC<|Wr<|aJ aF ?_;exact⟨iB (by simp only[lu]; first|(symm; simp; omega)|(symm; simp; done)),s,n⟩
theorem OZ(v:EvM)(g:Nat)(w:World)(a:aQ w g 14 (bU v) 160) :
 Calls Tryz.prog 115 #[(pt g)] w fun e w'=>e = .returned (.bool (yu v))/\aQ w' g 14 (bU (Nk v)) 160/\Stp g w w':=by
 have r:=a.lt;refine Kent Tryz.func115 15 ?_;refine ay<|av aF<|aC<|ay<|av (pt g)<|av (pt g)<|av (pt g)<|av (pf g 12)<|Lv (aD v.req) (aL a.aH 12) ?_;by_cases b:0<v.req
 ·refine Lv aG (mW b)<|av aG<|aC<|ay<|av (pt g)<|av (pt g)<|av (pt g)<|av (pf g 12)<|jd a 12 (aD 0) fun p h m s => ?_;have i:aQ p g 14 (bU (⟨v.o,v.seq,v.deps,v.kind,v.node,v.dst,v.aS,0,v.of⟩:EvM)) 160:=h.congr (fun j f=>by rcases j with _|_|_|_|_|_|_|_|_|_|_|_|_|_|j <;> first|rfl|omega)
  have c:=(nH g w).then m (by omega);refine aC<|ay<|av aG<|av aG<|aC<|Wr<|aJ aG ?_;exact⟨iB (by simp only[yu]; first|(symm; simp; omega)|(symm; simp; done)),i,c⟩
 refine Lv aF (mX b)<|av aF<|aC<|ay<|av (pt g)<|av (pt g)<|av (pt g)<|av (pf g 12)<|jd a 12 (aD 0) fun q k n t => ?_;have l:aQ q g 14 (bU (⟨v.o,v.seq,v.deps,v.kind,v.node,v.dst,v.aS,0,v.of⟩:EvM)) 160:=k.congr (fun j f=>by rcases j with _|_|_|_|_|_|_|_|_|_|_|_|_|_|j <;> first|rfl|omega)
 have d:=(nH g w).then n (by omega);refine aC<|ay<|av aF<|av aF<|aC<|Wr<|aJ aF ?_;exact⟨iB (by simp only[yu]; first|(symm; simp; omega)|(symm; simp; done)),l,d⟩
theorem aoi(v:EvM)(g:Nat)(w:World)(h:aQ w g 14 (bU v) 160) :
 Calls Tryz.prog 116 #[(pt g)] w fun e w'=>e = .returned (.bool (DI v))/\aQ w' g 14 (bU (adg v)) 160/\Stp g w w':=by
 have lg:=h.lt;refine Kent Tryz.func116 32 ?_;refine ay<|av aF<|aC<|Ws ?_;refine xR<|aW (pt g)<|aW (pt g)<|aW (pt g)<|aW (pf g 13)<|Qv (aD v.of) (fun b d=>aL (h.aH.dr d) 13) ?_;by_cases r:0<v.of
 ·refine Qv aG (fun b d=>mW r)<|aW aG<|aW (pt g)<|aW (pt g)<|aW (pt g)<|aW (pf g 13)<|Qv (aD v.of) (fun b d=>aL (h.aH.dr d) 13)<|aW (pt g)<|aW (pt g)<|aW (pt g)<|aW (pf g 12)<|Qv (aD v.req) (fun b d=>aL (h.aH.dr d) 12) ?_;by_cases q:v.of=v.req
  ·refine Qv aF (fun b d=>jP q)<|aW aF<|aW aF<|Qn ?_;rintro _ ⟨f,rfl⟩;obtain⟨Z,i⟩ : ∃ b,b=World.drewN w f:=⟨_,rfl⟩;rw[<- i];have y:Stp w.heap.size w Z:=(by rw[i]; exact Sb (jM w f));have H:=bH y.old h;have B:=(nH g w).then y (.inr (nH g w).size);clear i;refine sN<|ay<|av (pt g)<|av (pt g)<|av (pt g)<|av (pf g 13)<|jd H 13 (aD 0) fun W K Q z1 => ?_;have L:aQ W g 14 (bU (⟨v.o,v.seq,v.deps,v.kind,v.node,v.dst,v.aS,v.req,0⟩:EvM)) 160:=K.congr (fun j s=>by rcases j with _|_|_|_|_|_|_|_|_|_|_|_|_|_|j <;> first|rfl|omega)
   have C:=B.then Q (by omega);refine aC<|ay<|av (pt g)<|mE (OZ (⟨v.o,v.seq,v.deps,v.kind,v.node,v.dst,v.aS,v.req,0⟩:EvM) g _ L) ?_;rintro e w2 ⟨a,u,R⟩;have m:=C.then R (by omega);by_cases c:yu (⟨v.o,v.seq,v.deps,v.kind,v.node,v.dst,v.aS,v.req,0⟩:EvM)=true
   ·refine⟨.bool true,by rw[a,c],?_⟩;clear a;refine av aG<|av aF<|av aF<|av aF<|aC<|Wr<|aJ aF ?_;exact⟨iB (by simp only[DI,yu]at *; first|(symm; simp; omega)|(symm; simp at *; omega)|(symm; simp at *; done)),u,m⟩
   rw[U_]at c;refine⟨.bool false,by rw[a,c],?_⟩;clear a;refine av aF<|bX<|av aF<|av aF<|aC<|Wr<|aJ aF ?_;exact⟨iB (by simp only[DI,yu]at *; first|(symm; simp; omega)|(symm; simp at *; omega)|(symm; simp at *; done)),u,m⟩
  refine Qv aG (fun b d=>mY q)<|aW aG<|aW aG<|Qn ?_;rintro _ ⟨f,rfl⟩;obtain⟨aa,k⟩ : ∃ b,b=World.drewN w f:=⟨_,rfl⟩;rw[<- k];have z:Stp w.heap.size w aa:=by rw[k]; exact Sb (jM w f)
  have M:=bH z.old h;have D:=(nH g w).then z (.inr (nH g w).size);clear k;refine sN<|ay<|av (pt g)<|av (pt g)<|av (pt g)<|av (pf g 13)<|jd M 13 (aD 0) fun X N S z2 => ?_;have O:aQ X g 14 (bU (⟨v.o,v.seq,v.deps,v.kind,v.node,v.dst,v.aS,v.req,0⟩:EvM)) 160:=N.congr (fun j s=>by rcases j with _|_|_|_|_|_|_|_|_|_|_|_|_|_|j <;> first|rfl|omega)
  have E:=D.then S (by omega);refine aC<|ay<|av (pt g)<|mE (OZ (⟨v.o,v.seq,v.deps,v.kind,v.node,v.dst,v.aS,v.req,0⟩:EvM) g _ O) ?_;rintro e w4 ⟨a,x,T⟩;have n:=E.then T (by omega);by_cases c:yu (⟨v.o,v.seq,v.deps,v.kind,v.node,v.dst,v.aS,v.req,0⟩:EvM)=true
  ·refine⟨.bool true,by rw[a,c],?_⟩;clear a;refine av aG<|av aG<|av aG<|av aG<|aC<|Wr<|aJ aG ?_;exact⟨iB (by simp only[DI,yu]at *; first|(symm; simp; omega)|(symm; simp at *; omega)|(symm; simp at *; done)),x,n⟩
  rw[U_]at c;refine⟨.bool false,by rw[a,c],?_⟩;clear a;refine av aF<|bX<|av aF<|av aF<|aC<|Wr<|aJ aF ?_;exact⟨iB (by simp only[DI,yu]at *; first|(symm; simp; omega)|(symm; simp at *; omega)|(symm; simp at *; done)),x,n⟩
 refine Qv aF (fun b d=>mX r)<|aW aF<|aP<|aP<|aP<|aP<|aP<|aP<|aP<|aP<|aP<|aP<|aP<|aW aF<|aW aF<|Qn ?_;rintro _ ⟨f,rfl⟩;obtain⟨ab,l⟩ : ∃ b,b=World.drewN w f:=⟨_,rfl⟩;rw[<- l];have A:Stp w.heap.size w ab:=by rw[l]; exact Sb (jM w f)
 have P:=bH A.old h;have F:=(nH g w).then A (.inr (nH g w).size);clear l;refine sN<|ay<|av (pt g)<|av (pt g)<|av (pt g)<|av (pf g 13)<|jd P 13 (aD 0) fun Y I U z3 => ?_;have J:aQ Y g 14 (bU (⟨v.o,v.seq,v.deps,v.kind,v.node,v.dst,v.aS,v.req,0⟩:EvM)) 160:=I.congr (fun j s=>by rcases j with _|_|_|_|_|_|_|_|_|_|_|_|_|_|j <;> first|rfl|omega)
 have G:=F.then U (by omega);refine aC<|ay<|av (pt g)<|mE (OZ (⟨v.o,v.seq,v.deps,v.kind,v.node,v.dst,v.aS,v.req,0⟩:EvM) g _ J) ?_;rintro e w6 ⟨a,t,V⟩;have p:=G.then V (by omega);by_cases c:yu (⟨v.o,v.seq,v.deps,v.kind,v.node,v.dst,v.aS,v.req,0⟩:EvM)=true
 ·refine⟨.bool true,by rw[a,c],?_⟩;clear a;refine av aG<|av aF<|av aF<|av aF<|aC<|Wr<|aJ aF ?_;exact⟨iB (by simp only[DI,yu]at *; first|(symm; simp; omega)|(symm; simp at *; omega)|(symm; simp at *; done)),t,p⟩
 rw[U_]at c;refine⟨.bool false,by rw[a,c],?_⟩;clear a;refine av aF<|bX<|av aF<|av aF<|aC<|Wr<|aJ aF ?_;exact⟨iB (by simp only[DI,yu]at *; first|(symm; simp; omega)|(symm; simp at *; omega)|(symm; simp at *; done)),t,p⟩
theorem aho(v:EvM)(g:Nat)(w:World)(a:aQ w g 14 (bU v) 160) :
 Calls Tryz.prog 117 #[(pt g)] w fun e w'=>e = .returned (.bool (toB v))/\aQ w' g 14 (bU (KX v)) 160/\Stp g w w':=by
 have Q:=a.lt;refine Kent Tryz.func117 28 ?_;refine ay<|av aF<|aC<|Ws ?_;refine mZ<|aW (pt g)<|aW (pt g)<|aW (pt g)<|aW (pf g 10)<|Qv (au v.dst) (fun d b=>aL (a.cb b) 10) ?_;by_cases c:(nS v.dst)=true
 ·refine qo (fun _ _=>Bf v.dst _) aG (by rw[c])<|aW aG<|aW (pt g)<|aW (pt g)<|aW (pt g)<|aW (pf g 10)<|Qv (au v.dst) (fun d b=>aL (a.cb b) 10)<|aW (pt g)<|aW (pt g)<|aW (pt g)<|aW (pt g)<|Qv (au v.o) (fun d b=>aL (a.cb b) 0) ?_;by_cases f:v.dst=v.o
  ·refine Qv aF (fun d b=>jP f)<|aW aF<|aW aF<|Qn ?_;intro N h;have E:Stp w.heap.size w N:=Sb h;have t:=bH h a;have m:=(nH g w).then E (.inr (nH g w).size);refine sN<|ay<|av (pt g)<|av (pt g)<|av (pt g)<|av (pf g 10)<|jd t 10 (au 0) fun K u F R => ?_;have x:aQ K g 14 (bU (⟨v.o,v.seq,v.deps,v.kind,v.node,0,v.aS,v.req,v.of⟩:EvM)) 160:=u.congr (fun j l=>by rcases j with _|_|_|_|_|_|_|_|_|_|_|_|_|_|j <;> first|rfl|omega)
   have n:=m.then F (by omega);refine aC<|ay<|av aF<|av aF<|aC<|Wr<|aJ aF ?_;exact⟨iB (by unfold toB; rw[c]; first|(symm; simp; omega)|(symm; simp; done)),x,n⟩
  refine Qv aG (fun d b=>mY f)<|aW aG<|aW aG<|Qn ?_;intro O i;have G:Stp w.heap.size w O:=Sb i;have y:=bH i a;have p:=(nH g w).then G (.inr (nH g w).size);refine sN<|ay<|av (pt g)<|av (pt g)<|av (pt g)<|av (pf g 10)<|jd y 10 (au 0) fun L z H S => ?_;have A:aQ L g 14 (bU (⟨v.o,v.seq,v.deps,v.kind,v.node,0,v.aS,v.req,v.of⟩:EvM)) 160:=z.congr (fun j l=>by rcases j with _|_|_|_|_|_|_|_|_|_|_|_|_|_|j <;> first|rfl|omega)
  have q:=p.then H (by omega);refine aC<|ay<|av aG<|av aG<|aC<|Wr<|aJ aG ?_;exact⟨iB (by unfold toB; rw[c]; first|(symm; simp; omega)|(symm; simp; done)),A,q⟩
 rw[U_]at c;refine qo (fun _ _=>Bf v.dst _) aF (by rw[c])<|aW aF<|aP<|aP<|aP<|aP<|aP<|aP<|aP<|aP<|aP<|aP<|aP<|aW aF<|aW aF<|Qn ?_;intro P k;have I:Stp w.heap.size w P:=Sb k;have B:=bH k a;have r:=(nH g w).then I (.inr (nH g w).size);refine sN<|ay<|av (pt g)<|av (pt g)<|av (pt g)<|av (pf g 10)<|jd B 10 (au 0) fun M C J T => ?_;have D:aQ M g 14 (bU (⟨v.o,v.seq,v.deps,v.kind,v.node,0,v.aS,v.req,v.of⟩:EvM)) 160:=C.congr (fun j l=>by rcases j with _|_|_|_|_|_|_|_|_|_|_|_|_|_|j <;> first|rfl|omega)
 have s:=r.then J (by omega);refine aC<|ay<|av aF<|av aF<|aC<|Wr<|aJ aF ?_;exact⟨iB (by unfold toB; rw[c]; first|(symm; simp; omega)|(symm; simp; done)),D,s⟩
namespace Rt
def mK(v:EvM):Bool :=
 if v.kind=1 then lu v 0 else if v.kind=2 then lu v 1 else if v.kind=3 then lu v 1&&yu v else if v.kind=4 then DI v else if v.kind=5 then lu v 1&&toB v else if v.kind=6 then toB v else decide (v.kind=7)
def qX(v:EvM):EvM :=
 if v.kind=1 then rP v else if v.kind=2 then rP v else if v.kind=3 then Nk (rP v)else if v.kind=4 then adg v else if v.kind=5 then KX (rP v)else if v.kind=6 then KX v else v
def Vi(v:EvM):EvM:=⟨v.o,v.seq,v.deps,v.kind,0,0,0,0,0⟩
theorem adh(a b:EvM):(∀ i,i<14->bU a i=bU b i)<->a.o=b.o/\a.seq=b.seq/\(∀ i,i<6->a.deps i=b.deps i)/\a.kind=b.kind/\a.node=b.node/\a.dst=b.dst/\a.aS=b.aS/\a.req=b.req/\a.of=b.of:=by
 constructor
 ·intro h;have f:Value.int .i64 a.o=au b.o:=h 0 (by decide);have g:Value.int .u64 a.seq=aD b.seq:=h 1 (by decide);have p:Value.int .u8 a.kind = .int .u8 b.kind:=h 8 (by decide);have q:Value.int .u64 a.node=aD b.node:=h 9 (by decide);have j:Value.int .i64 a.dst=au b.dst:=h 10 (by decide);have k:Value.int .i64 a.aS=au b.aS:=h 11 (by decide);have l:Value.int .u64 a.req=aD b.req:=h 12 (by decide);have m:Value.int .u64 a.of=aD b.of:=h 13 (by decide);simp only[Value.int.injEq,true_and]at f g p q j k l m;refine⟨f,g,fun i r => ?_,p,q,j,k,l,m⟩;have n:=h (i+2) (by omega);rw[mH a rfl r,mH b rfl r]at n
  simpa using n
 rintro ⟨f,g,n,p,q,j,k,l,m⟩ i r;unfold bU;rw[f,g,p,q,j,k,l,m];by_cases c:i=0
 ·rw[d_ c,d_ c]
 by_cases d:i=1
 ·rw[b_ c,d_ d,b_ c,d_ d]
 by_cases e:i<8
 ·rw[b_ c,b_ d,d_ e,b_ c,b_ d,d_ e,n _ (by omega)]
 rw[b_ c,b_ d,b_ e,b_ c,b_ d,b_ e]
theorem Ht{v:EvM}(a:mK v=true):(∀ i,i<14->bU (qX v) i=bU (Vi v) i)<->pW v=true:=by
 have h:=a;rw[adh];unfold mK at h;unfold qX pW kN Vi;simp only[T_,decide_eq_true_eq];split at h
 ·rename_i k; simp[k,rP,and_assoc]
 split at h
 ·rename_i k1 k; simp[k,rP,and_assoc]
 split at h
 ·rename_i k1 k2 k; simp[k,rP,Nk,and_assoc]
 split at h
 ·rename_i k1 k2 k3 k; simp[k,adg,and_assoc]
 split at h
 ·rename_i k1 k2 k3 k4 k; simp[k,rP,KX,and_assoc]
 split at h
 ·rename_i k1 k2 k3 k4 k5 k; simp[k,KX,and_assoc]
 rename_i k1 k2 k3 k4 k5 k6; simp[k1,k2,k3,k4,k5,k6,and_assoc]
theorem CY{v:EvM}(h:pW v=true):dF v=mK v:=by
 unfold pW kN at h;unfold dF mK someE lu DI toB lY yu;simp only[T_,decide_eq_true_eq]at h;split <;> try rfl
 rename_i k1;split <;> try rfl
 rename_i k2;split
 ·congr 1
 rename_i k3;split
 ·rename_i k4; rw[Bool.eq_iff_iff]; simp only[T_,decide_eq_true_eq,Bool.not_eq_true',decide_eq_false_iff_not]; omega
 split <;> rfl
def Nl(x:Nat->Int):Nat->Int
 | 0=>x 0
 | k+1=>if x (k+1)>Nl x k then x (k+1)else Nl x k
theorem Vj(x:Nat->Int) : ∀ n i,i<=n->x i<=Nl x n
 | 0,i,h=>by rw[show i=0 by omega]; exact O_ _
 | n+1,i,h=>by
   unfold Nl;by_cases e:i=n+1
   ·subst e; split <;> omega
   ·have:=Vj x n i (by omega); split <;> omega
theorem Vk(x:Nat->Int) : ∀ n,∃ i,i<=n/\Nl x n=x i
 | 0=>⟨0,A_ _,rfl⟩
 | n+1=>by
   unfold Nl;split
   ·exact⟨n+1,A_ _,rfl⟩
   ·obtain⟨i,a,e⟩:=Vk x n; exact⟨i,by omega,e⟩
theorem adi{v:EvM}(h:1099511627776<=Nl v.deps 5):wG v=false:=by
 obtain⟨i,a,e⟩:=Vk v.deps 5;exact GQ (k:=i) (by omega) (by omega)
theorem Jr{v:EvM}(h : ¬ 1099511627776<=Nl v.deps 5):wG v=true :=
 wH (k:=6) (by omega) fun i a=>by have:=Vj v.deps 5 i (by omega); omega
def ahp(v:EvM)(b:Bool)(a:EvM):Prop:=b=mK v/\(b=true->a=qX v)
end Rt
set_option maxHeartbeats 1000000 in
theorem adj(v:EvM)(g:Nat)(w:World)(k:aQ w g 14 (bU v) 160) :
 Calls Tryz.prog 90 #[(pt g)] w fun e w' => ∃ b O,e = .returned (.bool b)/\aQ w' g 14 (bU O) 160/\Stp g w w'/\ahp v b O:=by
 have X:=k.lt;refine Kent Tryz.func90 46 ?_;refine ay<|av aF<|aC<|Ws<|ay<|av (pt g)<|av (pt g)<|av (pt g)<|av (pf g 8)<|Lv (.int .u8 (v.kind)) (aL k.aH 8)<|aC<|Wb<|ay ?_;by_cases c:v.kind=1
 ·refine Lv aG (fu c)<|av aG<|aC<|aN<|ay<|av (pt g)<|mE (Jq 0 v g _ k) ?_;rintro e Y ⟨a,G,P⟩;have y:=(nH g w).then P (by omega);by_cases p:lu v 0=true
  ·refine⟨.bool true,by rw[a,p],?_⟩;clear a;refine av aG (aC (Wr (bO (sR (aJ aG (⟨_,_,rfl,G,y,Eq.symm (by unfold mK; rw[d_ c,(show lu v 0=true from p)]; try rfl),fun d => ?_⟩))))))
   unfold qX; rw[d_ c]; try rfl
  rw[U_]at p;refine⟨.bool false,by rw[a,p],?_⟩;clear a;refine av aF (aC (Wr (bO (sR (aJ aF (⟨_,_,rfl,G,y,Eq.symm (by unfold mK; rw[d_ c,(show lu v 0=false from p)]; try rfl),fun d => ?_⟩))))))
  cases d
 refine Lv aF (fQ c)<|av aF<|aC<|aK<|ay ?_;by_cases f:v.kind=2
 ·refine Lv aG (fu f)<|av aG<|aC<|aN<|ay<|av (pt g)<|mE (Jq 1 v g _ k) ?_;rintro e Z ⟨a,H,Q⟩;have z:=(nH g w).then Q (by omega);by_cases q:lu v 1=true
  ·refine⟨.bool true,by rw[a,q],?_⟩;clear a;refine av aG (aC (Wr (bO (sR (aJ aG (⟨_,_,rfl,H,z,Eq.symm (by unfold mK; rw[b_ c,d_ f,(show lu v 1=true from q)]; try rfl),fun d => ?_⟩))))))
   unfold qX; rw[b_ c,d_ f]; try rfl
  rw[U_]at q;refine⟨.bool false,by rw[a,q],?_⟩;clear a;refine av aF (aC (Wr (bO (sR (aJ aF (⟨_,_,rfl,H,z,Eq.symm (by unfold mK; rw[b_ c,d_ f,(show lu v 1=false from q)]; try rfl),fun d => ?_⟩))))))
  cases d
 refine Lv aF (fQ f)<|av aF<|aC<|aK<|ay ?_;by_cases h:v.kind=3
 ·refine Lv aG (fu h)<|av aG<|aC<|aN<|ay<|av (pt g)<|mE (Jq 1 v g _ k) ?_;rintro e w3 ⟨a,I,R⟩;have A:=(nH g w).then R (by omega);by_cases m:lu v 1=true
  ·refine⟨.bool true,by rw[a,m],?_⟩;clear a;refine av aG<|av (pt g)<|mE (OZ (⟨v.o,v.seq,v.deps,v.kind,0,v.dst,0,v.req,v.of⟩:EvM) g _ I) ?_;rintro e w4 ⟨a,J,S⟩;have B:=A.then S (by omega);by_cases r:yu (⟨v.o,v.seq,v.deps,v.kind,0,v.dst,0,v.req,v.of⟩:EvM)=true
   ·refine⟨.bool true,by rw[a,r],?_⟩;clear a;refine av aG (av aG (aC (Wr (bO (sR (aJ aG (⟨_,_,rfl,J,B,Eq.symm (by unfold mK; rw[b_ c,b_ f,d_ h,(show lu v 1=true from m),(show yu v=true from r)]; try rfl),fun d => ?_⟩)))))))
    unfold qX; rw[b_ c,b_ f,d_ h]; try rfl
   rw[U_]at r;refine⟨.bool false,by rw[a,r],?_⟩;clear a;refine av aF (av aF (aC (Wr (bO (sR (aJ aF (⟨_,_,rfl,J,B,Eq.symm (by unfold mK; rw[b_ c,b_ f,d_ h,(show lu v 1=true from m),(show yu v=false from r)]; try rfl),fun d => ?_⟩)))))))
   cases d
  rw[U_]at m;refine⟨.bool false,by rw[a,m],?_⟩;clear a;refine av aF (bX (bX (av aF (av aF (aC (Wr (bO (sR (aJ aF (⟨_,_,rfl,I,A,Eq.symm (by unfold mK; rw[b_ c,b_ f,d_ h,(show lu v 1=false from m)]; try rfl),fun d => ?_⟩))))))))))
  cases d
 refine Lv aF (fQ h)<|av aF<|aC<|aK<|ay ?_;by_cases i:v.kind=4
 ·refine Lv aG (fu i)<|av aG<|aC<|aN<|ay<|av (pt g)<|mE (aoi v g _ k) ?_;rintro e w5 ⟨a,K,T⟩;have C:=(nH g w).then T (by omega);by_cases s:DI v=true
  ·refine⟨.bool true,by rw[a,s],?_⟩;clear a;refine av aG (aC (Wr (bO (sR (aJ aG (⟨_,_,rfl,K,C,Eq.symm (by unfold mK; rw[b_ c,b_ f,b_ h,d_ i,(show DI v=true from s)]; try rfl),fun d => ?_⟩))))))
   unfold qX; rw[b_ c,b_ f,b_ h,d_ i]; try rfl
  rw[U_]at s;refine⟨.bool false,by rw[a,s],?_⟩;clear a;refine av aF (aC (Wr (bO (sR (aJ aF (⟨_,_,rfl,K,C,Eq.symm (by unfold mK; rw[b_ c,b_ f,b_ h,d_ i,(show DI v=false from s)]; try rfl),fun d => ?_⟩))))))
  cases d
 refine Lv aF (fQ i)<|av aF<|aC<|aK<|ay ?_;by_cases j:v.kind=5
 ·refine Lv aG (fu j)<|av aG<|aC<|aN<|ay<|av (pt g)<|mE (Jq 1 v g _ k) ?_;rintro e w6 ⟨a,L,U⟩;have D:=(nH g w).then U (by omega);by_cases n:lu v 1=true
  ·refine⟨.bool true,by rw[a,n],?_⟩;clear a;refine av aG<|av (pt g)<|mE (aho (⟨v.o,v.seq,v.deps,v.kind,0,v.dst,0,v.req,v.of⟩:EvM) g _ L) ?_;rintro e w7 ⟨a,M,V⟩;have E:=D.then V (by omega);by_cases t:toB (⟨v.o,v.seq,v.deps,v.kind,0,v.dst,0,v.req,v.of⟩:EvM)=true
   ·refine⟨.bool true,by rw[a,t],?_⟩;clear a;refine av aG (av aG (aC (Wr (bO (sR (aJ aG (⟨_,_,rfl,M,E,Eq.symm (by unfold mK; rw[b_ c,b_ f,b_ h,b_ i,d_ j,(show lu v 1=true from n),(show toB v=true from t)]; try rfl),fun d => ?_⟩)))))))
    unfold qX; rw[b_ c,b_ f,b_ h,b_ i,d_ j]; try rfl
   rw[U_]at t;refine⟨.bool false,by rw[a,t],?_⟩;clear a;refine av aF (av aF (aC (Wr (bO (sR (aJ aF (⟨_,_,rfl,M,E,Eq.symm (by unfold mK; rw[b_ c,b_ f,b_ h,b_ i,d_ j,(show lu v 1=true from n),(show toB v=false from t)]; try rfl),fun d => ?_⟩)))))))
   cases d
  rw[U_]at n;refine⟨.bool false,by rw[a,n],?_⟩;clear a;refine av aF (bX (bX (av aF (av aF (aC (Wr (bO (sR (aJ aF (⟨_,_,rfl,L,D,Eq.symm (by unfold mK; rw[b_ c,b_ f,b_ h,b_ i,d_ j,(show lu v 1=false from n)]; try rfl),fun d => ?_⟩))))))))))
  cases d
 refine Lv aF (fQ j)<|av aF<|aC<|aK<|ay ?_;by_cases l:v.kind=6
 ·refine Lv aG (fu l)<|av aG<|aC<|aN<|ay<|av (pt g)<|mE (aho v g _ k) ?_;rintro e w8 ⟨a,N,W⟩;have F:=(nH g w).then W (by omega);by_cases u:toB v=true
  ·refine⟨.bool true,by rw[a,u],?_⟩;clear a;refine av aG (aC (Wr (bO (sR (aJ aG (⟨_,_,rfl,N,F,Eq.symm (by unfold mK; rw[b_ c,b_ f,b_ h,b_ i,b_ j,d_ l,(show toB v=true from u)]; try rfl),fun d => ?_⟩))))))
   unfold qX; rw[b_ c,b_ f,b_ h,b_ i,b_ j,d_ l]; try rfl
  rw[U_]at u;refine⟨.bool false,by rw[a,u],?_⟩;clear a;refine av aF (aC (Wr (bO (sR (aJ aF (⟨_,_,rfl,N,F,Eq.symm (by unfold mK; rw[b_ c,b_ f,b_ h,b_ i,b_ j,d_ l,(show toB v=false from u)]; try rfl),fun d => ?_⟩))))))
  cases d
 refine Lv aF (fQ l)<|av aF<|aC<|aK<|Wk<|bQ<|sN<|ay<|av (pt g)<|av (pt g)<|av (pt g)<|av (pf g 8)<|Lv (.int .u8 (v.kind)) (aL k.aH 8) ?_;by_cases x:v.kind=7
 ·refine Lv aG (fu x) (av aG (aC (Wr (aJ aG (⟨_,_,rfl,k,(nH g w),Eq.symm (by unfold mK; rw[b_ c,b_ f,b_ h,b_ i,b_ j,b_ l,f_ x]; try rfl),fun d => ?_⟩)))))
  unfold qX; rw[b_ c,b_ f,b_ h,b_ i,b_ j,b_ l]; try rfl
 refine Lv aF (fQ x) (av aF (aC (Wr (aJ aF (⟨_,_,rfl,k,(nH g w),Eq.symm (by unfold mK; rw[b_ c,b_ f,b_ h,b_ i,b_ j,b_ l,g_ x]; try rfl),fun d => ?_⟩)))))
 cases d
theorem ahq(x:Nat->Int)(b off:Nat)(w:World)(hx:iQ w b off 6 (rv .u64 x)) :
 Calls Tryz.prog 89 #[.slice (some ⟨b,off,none⟩) (6) (6)] w fun e w'=>e = .returned (aD (Nl x 5))/\Below w.heap.size w w':=by
 have o:=hx.lt (by omega);refine Kent Tryz.func89 25 ?_;refine ay<|av (aD 0)<|aC<|Ws<|ay<|av (.slice (some ⟨b,off,none⟩) (6) (6))<|av (au 6)<|Lv aF Gy<|aC<|aK<|Wk<|sN<|ay<|av (.slice (some ⟨b,off,none⟩) (6) (6))<|Lv (pf b off) (dh 1)<|Lv (aD (x 0)) (aL hx 0)<|av (aD (x 0))<|aC<|Ws<|ay<|av (au 1)<|aC<|Wb<|Wo (fun f j => ∃ k:Nat,k<=5/\f 0 = .slice (some ⟨b,off,none⟩) (6) (6)/\f 3=aD (Nl x k)/\f 4=au ((k:Int)+1)/\iQ j b off 6 (rv .u64 x)/\Below w.heap.size w j) (fun f _=>(6-(intOf (f 4)).toNat)) ⟨0,by omega,(by rfl),rfl,Fx.ic,hx,(Below.refl w.heap.size w)⟩ ?_;rintro m p ⟨k,n,c,h,a,i,d⟩;refine Ws<|ay<|aT a<|aT c<|av (au 6) ?_;by_cases g:((k:Int)+1)<6
 ·refine Lv aG (gu g)<|aC<|aN<|Wk<|sN<|Ws<|Wb<|Wl<|aT h<|aT c<|aT a<|Lv (pf b (k+off+1)) (dh 1)<|Lv (aD (x (k+1))) (aL i (k+1))<|Lv (aD (Nl x (k+1))) (Fx.ZL rfl rfl rfl)<|av (aD (Nl x (k+1)))<|Ln<|bQ<|sN<|Wl<|aT a<|Lv (au ((k:Int)+2)) eO<|av (au ((k:Int)+2))<|Ln<|gF ⟨k+1,by omega,c,rfl,Fx.ic,i,d⟩ ?_;show(6-(intOf (au ((k:Int)+2))).toNat)<_;simp only[a,intOf]; omega
 refine Lv aF (gy g)<|aC<|aK<|Wx<|cu<|gL<|cB<|sN<|ay<|aT h<|av (aD (Nl x k))<|aC<|Wr<|aJ (aD (Nl x k)) ?_;have l:k=5:=by omega
 exact⟨by rw[l],d⟩
theorem O1{ks:List (Option IntKind)}{x y:Nat->Value}(h:Fx.Kd ks y)(e : ∀ j,j<ks.length->x j=y j):Fx.Kd ks x:=fun i a=>by rw[e i a]; exact h i a
namespace Rt
theorem KY{v:EvM}(h:gU v):gU (Vi v):=by
 have z:kH 0:=⟨by decide,by decide⟩;have y:wF 0:=⟨by decide,by decide⟩;exact⟨h.o,h.seq,h.deps,h.kind,z,y,y,z,z⟩
theorem KZ{v:EvM}(h:gU v):gU (qX v):=by
 have z:kH 0:=⟨by decide,by decide⟩;have y:wF 0:=⟨by decide,by decide⟩;unfold qX;split
 ·exact⟨h.o,h.seq,h.deps,h.kind,z,h.dst,y,h.req,h.of⟩
 split
 ·exact⟨h.o,h.seq,h.deps,h.kind,z,h.dst,y,h.req,h.of⟩
 split
 ·exact⟨h.o,h.seq,h.deps,h.kind,z,h.dst,y,z,h.of⟩
 split
 ·exact⟨h.o,h.seq,h.deps,h.kind,h.node,h.dst,h.aS,z,z⟩
 split
 ·exact⟨h.o,h.seq,h.deps,h.kind,z,y,y,h.req,h.of⟩
 split
 ·exact⟨h.o,h.seq,h.deps,h.kind,h.node,y,h.aS,h.req,h.of⟩
 exact h
end Rt
set_option maxHeartbeats 2000000 in
theorem Hu(v:EvM)(w:World)(G:gU v) :
 Calls Tryz.prog 62 #[.agg (aA 14 (bU v))] w fun e w'=>e = .returned (.bool (bR v))/\Below w.heap.size w w':=by
 refine Kent Tryz.func62 55 ?_;refine ay<|qD fun g w1 lK t s1 z1 => ?_;have B:=bH s1.old (Below.refl w.heap.size w);have sU:=ig lK;have uq:=t.lt;refine av aF<|aC<|Ws<|Ws ?_;refine mZ<|aW (pt g)<|Qv (au v.o) (fun f d=>aL (t.cb d) 0) ?_;by_cases l:(nS v.o)=true
 ·obtain⟨a,ha,ea⟩:=fH l;refine qo (fun _ _=>Bf v.o _) aG (by rw[l])<|aW aF<|aW aF<|aW (pf g 1)<|Qv (aD v.seq) (fun f d=>aL (t.cb d) 1) ?_;by_cases N:v.seq<1
  ·refine Qv aG (fun f d=>gu N)<|aW aG<|aW aG<|aP<|aP<|aP<|aW aG<|aW aG<|aP<|aP<|aP<|aP<|aP<|aP<|aP<|aP<|aP<|aP<|aW aG<|Qn ?_;intro XO tT;have⟨k,U⟩:=fD tT t B;refine sN<|aN<|ay<|av aF<|aC<|Wr<|sR<|aJ aF ?_;have k:decide (1<=v.seq)=false:=g_ (by omega);exact⟨iB (Eq.symm (by unfold bR; rw[l,k]; try rfl)),U⟩
  refine Qv aF (fun f d=>gy N)<|aW aF<|aW aF<|aW (pf g 1)<|Qv (aD v.seq) (fun f d=>aL (t.cb d) 1) ?_;by_cases O:1099511627776<=v.seq
  ·refine Qv aG (fun f d=>ku O)<|aW aG<|aW aG<|aP<|aP<|aP<|aP<|aP<|aP<|aP<|aP<|aP<|aP<|aW aG<|Qn ?_;intro Z7 xg;have⟨m,V⟩:=fD xg t B;refine sN<|aN<|ay<|av aF<|aC<|Wr<|sR<|aJ aF ?_;have k:decide (1<=v.seq)=true:=f_ (by omega);have m:decide (v.seq<1099511627776)=false:=g_ (by omega);exact⟨iB (Eq.symm (by unfold bR; rw[l,k,m]; try rfl)),V⟩
  refine Qv aF (fun f d=>jU O)<|aW aF<|aW aF<|aW (pt g)<|Qv (au v.o) (fun f d=>aL (t.cb d) 0)<|Qv (au a) (fun f d=>gH)<|aW (pf g 2)<|Qv (pf g (a+2)) (fun f d=>jC 6 1)<|Qv (aD (v.deps a)) (fun f d=>aL (t.cb d) (a+2) (mH _ (by omega) (by omega)))<|aW (pf g 1)<|Qv (aD v.seq) (fun f d=>aL (t.cb d) 1)<|Qv (aD (v.seq-1)) (fun f d=>gH) ?_;by_cases y:(v.deps a)=(v.seq-1)
  ·refine Qv aF (fun f d=>jP y)<|aW aF<|Qn ?_;intro wb3 xk;have⟨q,W⟩:=fD xk t B;refine sN<|aK<|Wk<|sN<|Ws<|ay<|av (pf g 2)<|Lv (.slice (some ⟨g,2,none⟩) (6) (6)) (Fx.Nj rfl rfl Tryz.underlying30 (s:=1) (by kernel_rfl))<|dZ (ahq v.deps g 2 _ (fun j x=>by have Q:=q.aH (2+j) (by omega); rw[H_]at Q; rw[Q,mH v (p:=2+j) (j:=j) (by omega) x]; rfl)) _ rfl ?_;intro w2 hb1;have⟨r,I⟩:=fD hb1 q W;by_cases A:1099511627776<=(Nl v.deps 5)
   ·refine Lv aG (ku A)<|aC<|aN<|ay<|av aF<|aC<|Wr<|sR<|aJ aF ?_;have k:decide (1<=v.seq)=true:=f_ (by omega);have m:decide (v.seq<1099511627776)=true:=f_ (by omega);have q:decide (v.deps (v.o-1).toNat=v.seq-1)=true:=f_ (by rw[show(v.o-1).toNat=a by omega]; exact y);have r:=adi A;exact⟨iB (Eq.symm (by unfold bR; rw[l,k,m,q,r]; try rfl)),I⟩
   refine Lv aF (jU A)<|aC<|aK<|Wk<|sN<|ay<|Lv (.agg (aA 14 (bU v))) (fP r.aH 0)<|av (.agg (aA 14 (bI (fun c=>if c<1 then au 0 else if c<8 then aD 0 else if c<9 then .int .u8 (0)else if c<10 then aD 0 else if c<12 then au 0 else aD 0) 0 14 (bU v))))<|qD fun z w3 P u s6 z2 => ?_;have⟨C,Z⟩:=fD s6.old r I;have pV:=iV P I.size;have KH:=bZ P r.lt;have zy:=u.lt;refine av (pt z)<|aC<|Ws ?_;have L:aQ w3 z 14 (bU v) 160:=u.congr (fun j x=>by rcases j with _|_|_|_|_|_|_|_|_|_|_|_|_|_|j <;> first|rfl|omega)
   refine Aw [0,1,2,3,4,5,7,9,11,13,6,8,10,12,14,15,16,17,18] [0,3,0,0,0,0,4,0,4,0,4,0,4,0,4,0,0,0,0] (Fx.F4 [160]) Fx.F4.refl Fx.F4.trans (fM := [(2,1,[1]),(3,1,[2,1]),(4,1,[2,1]),(5,1,[2,1]),(7,1,[2,1]),(9,1,[2,1]),(11,1,[2,1]),(13,1,[2,1]),(6,1,[2,1]),(8,1,[2,1]),(10,1,[2,1]),(12,1,[2,1]),(14,1,[2,1]),(15,1,[2,1]),(16,1,[2,1]),(17,1,[2,1]),(18,1,[1])]) (by kernel_rfl) (by kernel_rfl) (by kernel_rfl) (by kernel_rfl) (by kernel_rfl) fun pQ dR iG => ?_;have⟨m9,m10,M⟩:=jw dR C L Z;refine bf (pt z)<|gQ<|mE (adj v z _ m10) ?_;rintro e w4 ⟨b,v',E,R,S,F,hkv⟩;have H:=m9.cZ S (by omega);have J:=S.below M M.size (by omega)
   cases b
   ·refine⟨.bool false,E,?_⟩;clear E;refine Ln<|bf aF<|Rk (by rfl)<|Rk (by rfl)<|Rk (by rfl)<|Rk (by rfl)<|Rk (by rfl)<|Rk (by rfl)<|Rk (by rfl)<|Rk (by rfl)<|Rk (by rfl)<|Rk (by rfl)<|Rk (by rfl)<|Rk (by rfl)<|Rk (by rfl)<|Rk (by rfl)<|bf aF<|bf aF<|bS<|Wr<|aJ aF ?_;have k:decide (1<=v.seq)=true:=f_ (by omega);have m:decide (v.seq<1099511627776)=true:=f_ (by omega);have q:decide (v.deps (v.o-1).toNat=v.seq-1)=true:=f_ (by rw[show(v.o-1).toNat=a by omega]; exact y);have r:=Jr A;have u:pW v=true->dF v=false:=fun h=>by rw[CY h,<- F]
    have C:(pW v&&dF v)=false:=by cases h:pW v with|false=>rfl|true=>exact u h
    have L:(true&&true&&true&&true&&true&&pW v&&dF v)=false:=C;exact⟨iB (Eq.symm (by unfold bR; rw[l,k,m,q,r,L]; try rfl)),J⟩
   refine⟨.bool true,E,?_⟩;clear E;rw[hkv rfl]at R;refine Ln<|bf aG<|bf (pt z)<|bf (pt z)<|bf (pt z)<|bf (pt g)<|bf (pf g 1)<|bf (pf g 2)<|bf (pf g 8)<|Rs (.agg (aA 14 (bU (qX v)))) (fP R.aH 0) ?_;refine Rs (au v.o) (aL H.aH 0) ?_;refine Rs (aD v.seq) (aL H.aH 1) ?_;refine Rs (.agg (aA 6 (rv .u64 v.deps))) (fP H.aH 2 (fun j x=>mH _ (by omega) x)) ?_;refine Rs (.int .u8 (v.kind)) (aL H.aH 8) ?_;refine bf (.agg (aA 14 (bI (bI (bI (bI (fun c=>if c<1 then au 0 else if c<8 then aD 0 else if c<9 then .int .u8 (0)else if c<10 then aD 0 else if c<12 then au 0 else aD 0) 0 1 (fun _=>au v.o)) 1 1 (fun _=>aD v.seq)) 2 6 (rv .u64 v.deps)) 8 1 (fun _ => .int .u8 (v.kind))))) ?_;by_cases D : ∀ i,i<14->(bU (qX v)) i=(bI (bI (bI (bI (fun c=>if c<1 then au 0 else if c<8 then aD 0 else if c<9 then .int .u8 (0)else if c<10 then aD 0 else if c<12 then au 0 else aD 0) 0 1 (fun _=>au v.o)) 1 1 (fun _=>aD v.seq)) 2 6 (rv .u64 v.deps)) 8 1 (fun _ => .int .u8 (v.kind))) i
   ·refine Rp aG (fun f=>Fx.xL (n:=14) (ks := [(some .i64),(some .u64),(some .u64),(some .u64),(some .u64),(some .u64),(some .u64),(some .u64),(some .u8),(some .u64),(some .i64),(some .i64),(some .u64),(some .u64)]) (X:=bU (qX v)) (Y:=bI (bI (bI (bI (fun c=>if c<1 then au 0 else if c<8 then aD 0 else if c<9 then .int .u8 (0)else if c<10 then aD 0 else if c<12 then au 0 else aD 0) 0 1 (fun _=>au v.o)) 1 1 (fun _=>aD v.seq)) 2 6 (rv .u64 v.deps)) 8 1 (fun _ => .int .u8 (v.kind))) 12 true rfl rfl rfl (Fx.Xy D) (CQ (KZ G)) (O1 (CQ (KY G)) (fun j x=>by rcases j with _|_|_|_|_|_|_|_|_|_|_|_|_|_|j <;> first|rfl|exact N_ x (by simp))) rfl (by kernel_rfl) (by kernel_rfl) (by kernel_rfl) (by kernel_rfl) (by kernel_rfl))<|bf aG<|bf aG<|bS<|Wr<|aJ aG ?_
    have k:decide (1<=v.seq)=true:=f_ (by omega);have m:decide (v.seq<1099511627776)=true:=f_ (by omega);have q:decide (v.deps (v.o-1).toNat=v.seq-1)=true:=f_ (by rw[show(v.o-1).toNat=a by omega]; exact y);have r:=Jr A;have u:=(Ht F.symm).1 (fun i K=>(D i K).trans (by rcases i with _|_|_|_|_|_|_|_|_|_|_|_|_|_|i <;> first|rfl|omega))
    have C:=(CY u).trans F.symm;exact⟨iB (Eq.symm (by unfold bR; rw[l,k,m,q,r,u,C]; try rfl)),J⟩
   refine Rp aF (fun f=>Fx.xL (n:=14) (ks := [(some .i64),(some .u64),(some .u64),(some .u64),(some .u64),(some .u64),(some .u64),(some .u64),(some .u8),(some .u64),(some .i64),(some .i64),(some .u64),(some .u64)]) (X:=bU (qX v)) (Y:=bI (bI (bI (bI (fun c=>if c<1 then au 0 else if c<8 then aD 0 else if c<9 then .int .u8 (0)else if c<10 then aD 0 else if c<12 then au 0 else aD 0) 0 1 (fun _=>au v.o)) 1 1 (fun _=>aD v.seq)) 2 6 (rv .u64 v.deps)) 8 1 (fun _ => .int .u8 (v.kind))) 12 false rfl rfl rfl (Fx.nob D) (CQ (KZ G)) (O1 (CQ (KY G)) (fun j x=>by rcases j with _|_|_|_|_|_|_|_|_|_|_|_|_|_|j <;> first|rfl|exact N_ x (by simp))) rfl (by kernel_rfl) (by kernel_rfl) (by kernel_rfl) (by kernel_rfl) (by kernel_rfl))<|bf aF<|bf aF<|bS<|Wr<|aJ aF ?_
   have k:decide (1<=v.seq)=true:=f_ (by omega);have m:decide (v.seq<1099511627776)=true:=f_ (by omega);have q:decide (v.deps (v.o-1).toNat=v.seq-1)=true:=f_ (by rw[show(v.o-1).toNat=a by omega]; exact y);have r:=Jr A;have u:pW v=false:=Bool.eq_false_iff.2 (fun h=>D (fun i K=>((Ht F.symm).2 h i K).trans (by rcases i with _|_|_|_|_|_|_|_|_|_|_|_|_|_|i <;> first|rfl|omega)))
   exact⟨iB (Eq.symm (by unfold bR; rw[l,k,m,q,r,u]; try rfl)),J⟩
  refine Qv aG (fun f d=>mY y)<|aW aG<|Qn ?_;intro wb4 AL;have b9:=bH AL B;refine sN<|aN<|ay<|av aF<|aC<|Wr<|sR<|aJ aF ?_;have k:decide (1<=v.seq)=true:=f_ (by omega);have m:decide (v.seq<1099511627776)=true:=f_ (by omega);have q:decide (v.deps (v.o-1).toNat=v.seq-1)=false:=g_ (by rw[show(v.o-1).toNat=a by omega]; exact y);exact⟨iB (Eq.symm (by unfold bR; rw[l,k,m,q]; try rfl)),b9⟩
 rw[U_]at l;refine qo (fun _ _=>Bf v.o _) aF (by rw[l])<|aW aG<|aW aG<|aP<|aP<|aP<|aW aG<|aW aG<|aP<|aP<|aP<|aW aG<|aW aG<|aP<|aP<|aP<|aP<|aP<|aP<|aP<|aP<|aP<|aP<|aW aG<|Qn ?_;intro wb5 EB;have T:=bH EB B;refine sN<|aN<|ay<|av aF<|aC<|Wr<|sR<|aJ aF ?_;exact⟨iB (Eq.symm (by unfold bR; rw[l]; try rfl)),T⟩
namespace Rt
def uG(a b:Int):Int:=if b>a then b else a
def vx(X:Nat->Nat->Int):Nat->Value:=fun p=>aD (X (p / 6) (p % 6))
theorem Vl(X:Nat->Nat->Int){i p j:Nat}(a:p=6*i)(b:j<6):vx X (p+j)=rv .u64 (X i) j:=by
 subst a;show Value.int .u64 (X ((6*i+j) / 6) ((6*i+j) % 6))=aD (X i j);rw[show(6*i+j) / 6=i by omega,show(6*i+j) % 6=j by omega]
def zC(c:Int->Int->Int)(X:Nat->Nat->Int):Nat->Nat->Int
 | 0=>X 0
 | k+1=>fun p=>c (zC c X k p) (X (k+1) p)
def O4(c:Int->Int->Int)(X:Nat->Nat->Int):Nat->Nat->Int
 | 0=>fun _=>0
 | k+1=>zC c X k
def Vcs(w:World)(a:Option Addr)(n cap:Nat)(X:Nat->Nat->Int):Prop:=0<n->n<=cap /\ ∃ b c,a=some ⟨b,c,none⟩/\iQ w b c (6*n) (vx X)
def yw(x:Nat->Int)(k:Nat):Nat->Int:=fun p=>if p<k then x p else 0
theorem Nn(x:Nat->Int)(k:Nat):upd (yw x k) k (x k)=yw x (k+1):=by
 funext p; unfold upd yw
 by_cases h:p=k
 ·subst h; rw[d_ rfl,d_ (by omega)]
 rw[b_ h];by_cases a:p<k
 ·rw[d_ a,d_ (by omega)]
 rw[b_ a,b_ (by omega)]
theorem QU(x:Nat->Int):aA 6 (rv .u64 (yw x 6))=aA 6 (rv .u64 x):=Fx.eX fun p a=>M_ (Value.int .u64) (by unfold yw; rw[d_ a])
end Rt
theorem ahr(a b:Int)(w:World) :
 Calls Tryz.prog 128 #[aD a,aD b] w fun e w'=>e = .returned (aD (uG a b))/\w'=w:=by
 refine Kent Tryz.func128 8 ?_;refine ay<|av (aD 0)<|aC<|ay<|av (aD a)<|av (aD b)<|Lv (aD (uG a b)) (Fx.ZL rfl rfl rfl)<|av (aD (uG a b))<|aC<|Wr<|aJ (aD (uG a b)) ?_;exact⟨rfl,rfl⟩
theorem Vm(x y:Nat->Int)(d go c q:Nat)(w:World)(l:q<6)(j:aQ w d 1 (fun _ => .func (.func 128) #[] #[]) 193)(f:aQ w go 6 (rv .u64 x) 30)(k:aQ w c 6 (rv .u64 y) 30) :
 Calls Tryz.prog 140 #[au (q:Int),(pt d),(pt go),(pt c)] w fun e w'=>e = .returned (aD (uG (x q) (y q)))/\Below w.heap.size w w':=by
 refine Kent Tryz.func140 14 ?_;refine ay<|av (aD 0)<|aC<|Ws ?_;refine mZ<|Qv (.func (.func 128) #[] #[]) (fun b a=>aL (j.cb a) 0)<|aW (au q)<|Qv (pf go q) (fun b a=>jC 6 1)<|Qv (aD (x q)) (fun b a=>aL (f.cb a) q)<|aW (au q)<|Qv (pf c q) (fun b a=>jC 6 1)<|Qv (aD (y q)) (fun b a=>aL (k.cb a) q)<|F3 (v:=aD (uG (x q) (y q))) (by rfl) (fun b a=>Fx.CG (args := [aD (x q),aD (y q)]) rfl rfl rfl (all := #[aD (x q),aD (y q)]) rfl Tryz.func128 rfl rfl) rfl (fun b a=>(ahr (x q) (y q) _).mono fun e v2 h=>⟨h.1,by rw[h.2]; exact a⟩) ?_;refine aW (aD (uG (x q) (y q)))<|Qn ?_;intro n i;have⟨m,g⟩:=fD i f (Below.refl w.heap.size w);refine sN<|Wr<|aJ (aD (uG (x q) (y q))) ?_;exact⟨rfl,g⟩
theorem Nq(x y:Nat->Int)(b go c:Nat)(w:World)(z:aQ w b 1 (fun _ => .func (.func 128) #[] #[]) 193)(B:aQ w go 6 (rv .u64 x) 30)(C:aQ w c 6 (rv .u64 y) 30) :
 Calls Tryz.prog 139 #[.func (.func 140) #[] #[(pt b),(pt go),(pt c)]] w fun e w'=>e = .returned (.agg (aA 6 (rv .u64 (fun p=>uG (x p) (y p)))))/\Below w.heap.size w w':=by
 refine Kent Tryz.func139 14 ?_;refine ay<|Dl (m:=6) (y:=rv .u64 (fun _=>0)) (by rfl) rfl (by kernel_rfl) rfl fun a w1 u D Z z1 => ?_;have⟨T,W,X,E⟩:=kR Z.old z B C (Below.refl w.heap.size w);have sU:=ig u;have⟨nP,aam,zD⟩:=IQ u z.lt B.lt C.lt;have uq:=D.lt;refine aC<|Ws<|ay<|av (au 0)<|aC<|Wb ?_;have Y:aQ w1 a 6 (rv .u64 (yw (fun p=>uG (x p) (y p)) 0)) 30:=D;refine Wo (fun f h => ∃ k:Nat,k<=6/\f 0 = .func (.func 140) #[] #[(pt b),(pt go),(pt c)]/\f 2=(pt a)/\f 4=au (k:Int)/\aQ h b 1 (fun _ => .func (.func 128) #[] #[]) 193/\aQ h go 6 (rv .u64 x) 30/\aQ h c 6 (rv .u64 y) 30/\aQ h a 6 (rv .u64 (yw (fun p=>uG (x p) (y p)) k)) 30/\Below w.heap.size w h) (fun f _=>(6-(intOf (f 4)).toNat)) ⟨0,by omega,(by rfl),(by rfl),Fx.ic,T,W,X,Y,E⟩ ?_;rintro f1 w2 ⟨k,hk,v,d,g,n,o,q,r,l⟩;refine ay ?_;by_cases t:(k:Int)<6
 ·refine Lv aG (gu t (hx:=g))<|aC<|Ws<|aN<|Wk<|sN<|Ws<|Wb<|ay<|aT g<|av (au k)<|aC<|Wl<|av (au k)<|aT v<|av (au k)<|Ag (by rfl) (Fx.CG (args := [au (k:Int)]) rfl rfl rfl (all := #[au (k:Int),(pt b),(pt go),(pt c)]) rfl Tryz.func140 rfl rfl) rfl<|(Vm x y b go c k _ (by omega) n o q).mono ?_;rintro e w3 ⟨A,I⟩;refine⟨aD (uG (x k) (y k)),by rw[A],?_⟩;clear A;have⟨J,K,L,M,s⟩:=uj I n o q r l;refine Lv (pf a k) (jC 6 1 (hx:=d))<|jd M k (aD (uG (x k) (y k))) fun w4 N i z2 => ?_;have O:aQ w4 a 6 (rv .u64 (upd (yw (fun p=>uG (x p) (y p)) k) k (uG (x k) (y k)))) 30:=N.to (Fx.tK _ _ _ _);have P:=J.cZ i (by omega);have Q:=K.cZ i (by omega);have R:=L.cZ i (by omega);have F:=i.below s s.size (by omega);refine Ln<|bQ<|sN<|Wl<|Lv (au ((k:Int)+1)) (eO (hx:=g))<|av (au ((k:Int)+1))<|Ln ?_;have S:=O.to (M_ (rv .u64) (Nn (fun p=>uG (x p) (y p)) k));refine gF ⟨k+1,by omega,v,d,Fx.ic,P,Q,R,S,F⟩ ?_;show(6-(intOf (au ((k:Int)+1))).toNat)<_;simp only[g,intOf]; omega
 refine Lv aF (gy t (hx:=g))<|aC<|Ws<|aK<|Wx<|cu<|gL<|cB<|sN<|ay<|Lv (.agg (aA 6 (rv .u64 (yw (fun p=>uG (x p) (y p)) k)))) (fP r.aH 0 (ha:=d))<|fA r 0 (ha:=d) fun w5 U j z3 => ?_;have V:aQ w5 a 6 (rv .u64 (yw (fun p=>uG (x p) (y p)) k)) 30:=aU U;have m22:=n.cZ j (by omega);have m23:=o.cZ j (by omega);have m24:=q.cZ j (by omega);have G:=j.below l l.size (by omega);refine aC (Wr (⟨.agg (aA 6 (rv .u64 (yw (fun p=>uG (x p) (y p)) k))),rV Tryz.results139 ⟨_,d,aX V.aH (by kernel_rfl) (by kernel_rfl)⟩,?_⟩));have H:k=6:=by omega
 exact⟨by rw[H,QU],G⟩
namespace Rt
def V2(x y:Nat->Int):Nat->Nat->Int
 | 0=>x
 | 1=>y
 | _=>fun _=>0
end Rt
theorem K3(a:Option Addr)(cap:Nat)(w:World) :
 Calls Tryz.prog 127 #[.slice a (0) (cap),.func (.func 128) #[] #[]] w fun e w'=>e = .returned (.agg (aA 6 (rv .u64 (fun _=>0))))/\Below w.heap.size w w':=by
 refine Kent Tryz.func127 26 ?_;refine ay<|yZ (.func (.func 128) #[] #[]) fun t C j b p E => ?_;have c:=bH p.old (Below.refl w.heap.size w);have u:=ig j;have A:=b.lt;refine uh 6 (rv .u64 (fun _=>0)) fun k D f g q F => ?_;have⟨l,d⟩:=fD q.old b c;have v:=iV f c.size;have z:=bZ f b.lt;have B:=g.lt;refine aC<|Ws<|ay<|av (.slice a (0) (cap))<|av (au 0)<|Lv aG (fu rfl)<|aC<|aN<|ay<|Lv (.agg (aA 6 (rv .u64 (fun _=>0)))) (Fx.Mv (vs := []) (s:=1) (m:=6) (x:=rv .u64 (fun _=>0)) rfl rfl Tryz.underlying30 (by kernel_rfl) (by kernel_rfl) (by rfl))<|fA g 0 fun r n h G => ?_;have o:aQ r k 6 (rv .u64 (fun _=>0)) 30:=aU n;have y:=l.cZ h (by omega);have i:=h.below d d.size (by omega);refine aC (Wr (sR (⟨.agg (aA 6 (rv .u64 (fun _=>0))),rV Tryz.results127 ⟨_,rfl,aX o.aH (by kernel_rfl) (by kernel_rfl)⟩,?_⟩)));exact⟨rfl,i⟩
theorem K4(b off m cap:Nat)(X:Nat->Nat->Int)(w:World)(hcap:m+1<=cap)(hm:m<=1000000)(hx:iQ w b off (6*(m+1)) (vx X)) :
 Calls Tryz.prog 127 #[.slice (some ⟨b,off,none⟩) (m+1) (cap),.func (.func 128) #[] #[]] w fun e w'=>e = .returned (.agg (aA 6 (rv .u64 (zC uG X m))))/\Below w.heap.size w w':=by
 have lb:=hx.lt (by omega);refine Kent Tryz.func127 26 ?_;refine ay<|yZ (.func (.func 128) #[] #[]) fun c w1 Q F s1 z1 => ?_;have⟨T,K⟩:=fD s1.old hx (Below.refl w.heap.size w);have sU:=ig Q;have nP:b≠c:=by rw[Q]; exact u_ (hx.lt (by omega))
 have uq:=F.lt;refine uh 6 (rv .u64 (fun _=>0)) fun r w2 z I s2 z2 => ?_;have⟨J,Z,L⟩:=jw s2.old T F K;have pV:=iV z K.size;have ahs:b≠r:=by rw[z]; exact u_ (T.lt (by omega))
 have Um:=bZ z F.lt;have zy:=I.lt;refine aC<|Ws<|ay<|av (.slice (some ⟨b,off,none⟩) (m+1) (cap))<|av (au ((m+1:Nat):Int))<|Lv aF ZQ<|aC<|aK<|Wk<|sN<|ay<|av (.slice (some ⟨b,off,none⟩) (m+1) (cap))<|Lv (pf b off) (dh 6)<|Lv (.agg (aA 6 (rv .u64 (X 0)))) (fP J 0 (fun j E=>Vl _ (i:=0) (p:=0) (by omega) E))<|uh 6 (rv .u64 (fun _=>0)) fun a w3 A m6 s3 z3 => ?_;have⟨m7,m8,m9,M⟩:=kR s3.old J Z I L;have za:=iV A L.size;have atf:b≠a:=by rw[A]; exact u_ (J.lt (by omega))
 have⟨aht,ahu⟩:=vY A Z.lt I.lt;have I4:=m6.lt;refine fA m6 0 fun w4 m10 x z4 => ?_;have m11:aQ w4 a 6 (rv .u64 (X 0)) 30:=aU m10;have m12:=m7.cZ x (by omega);have m13:=m8.cZ x (by omega);have m14:=m9.cZ x (by omega);have b4:=x.below M M.size (by omega);refine aC<|Ws<|ay<|av (.slice (some ⟨b,off,none⟩) (m+1) (cap))<|Lv (.slice (if cap=1 then some ⟨b,off,none⟩else some ⟨b,off+6,none⟩) (m) (cap-1)) (Fx.zH (j:=1) (b:=b) (off:=off) (len:=m+1) (cap:=cap) (s:=6) rfl rfl rfl Tryz.underlying191 (by kernel_rfl) (by omega) rfl rfl rfl)<|av (au m)<|av (au 0)<|aC<|Wb ?_;have m15:aQ w4 a 6 (rv .u64 (zC uG X 0)) 30:=m11;refine Wo (fun f n => ∃ k:Nat,k<=m/\f 3=(pt c)/\f 4=(pt r)/\f 5=(pt a)/\f 16 = .slice (if cap=1 then some ⟨b,off,none⟩else some ⟨b,off+6,none⟩) (m) (cap-1)/\f 17=au (m:Int)/\f 18=au (k:Int)/\iQ n b off (6*(m+1)) (vx X)/\aQ n c 1 (fun _ => .func (.func 128) #[] #[]) 193/\aQ n r 6 (rv .u64 (fun _=>0)) 30/\aQ n a 6 (rv .u64 (zC uG X k)) 30/\Below w.heap.size w n) (fun f _=>(m-(intOf (f 18)).toNat)) ⟨0,by omega,(by rfl),(by rfl),(by rfl),(by rfl),Fx.ic,Fx.ic,m12,m13,m14,m15,b4⟩ ?_;rintro f1 w5 ⟨k,hk,R,C,t,S,D,g,u,G,H,v,o⟩;refine ay ?_;by_cases P:(k:Int)<(m:Int)
 ·refine Lv aG (gu P (hx:=g) (hy:=D))<|aC<|Ws<|aN<|Wk<|sN<|Ws<|Wb<|ay<|Lv (pf b (6*k+off+6)) (dh 6 (hx:=(S.trans (M_ (fun q=>Value.slice q (m) (cap-1)) (b_ (by omega))))) (hi:=g))<|Lv (.agg (aA 6 (rv .u64 (X (k+1))))) (fP u (6*k+6) (fun j E=>Vl _ (i:=k+1) (p:=6*k+6) (by omega) E))<|uh 6 (rv .u64 (fun _=>0)) fun d w6 B U s5 z5 => ?_;have⟨m21,m22,m23,m24,N⟩:=uj s5.old u G H v o;have UU:=iV B o.size;have adk:b≠d:=by rw[B]; exact u_ (u.lt (by omega))
  have⟨aoj,aok,aol⟩:=IQ B G.lt H.lt v.lt;have Rx:=U.lt;refine fA U 0 fun w7 nk h z6 => ?_;have V:aQ w7 d 6 (rv .u64 (X (k+1))) 30:=aU nk;have oh:=m21.cZ h (by omega);have W:=m22.cZ h (by omega);have nI:=m23.cZ h (by omega);have Y:=m24.cZ h (by omega);have b7:=h.below N N.size (by omega);refine aC<|Wl<|Lv (.func (.func 140) #[] #[(pt c),(pt a),(pt d)]) (Fx.mV (us := []) (vs := [(pt c),(pt a),(pt d)]) rfl rfl (Fx.Ob R t rfl))<|dZ (Nq (zC uG X k) (X (k+1)) c a d _ W Y V) _ rfl ?_;intro w8 hb1;have⟨lX,m32,pR,nQ,oq,O⟩:=um hb1 oh W nI Y V b7;refine fA nQ 0 (ha:=t) fun w9 pU l z7 => ?_;have qQ:aQ w9 a 6 (rv .u64 (fun p=>uG ((zC uG X k) p) ((X (k+1)) p))) 30:=aU pU;have qR:=lX.cZ l (by omega);have oP:=m32.cZ l (by omega);have rQ:=pR.cZ l (by omega);have nJ:=oq.cZ l (by omega);have b9:=l.below O O.size (by omega);refine Ln<|bQ<|sN<|Wl<|Lv (au ((k:Int)+1)) (eO (hx:=g))<|av (au ((k:Int)+1))<|Ln<|gF ⟨k+1,by omega,R,C,t,S,(D.trans Fx.ic),Fx.ic,qR,oP,rQ,qQ,b9⟩ ?_;show(m-(intOf (au ((k:Int)+1))).toNat)<_;simp only[g,intOf]; omega
 refine Lv aF (gy P (hx:=g) (hy:=D))<|aC<|Ws<|aK<|Wx<|cu<|gL<|cB<|sN<|ay<|Lv (.agg (aA 6 (rv .u64 (zC uG X k)))) (fP v.aH 0 (ha:=t))<|fA H 0 (ha:=C) fun sV mO y z8 => ?_;have nK:aQ sV r 6 (rv .u64 (zC uG X k)) 30:=aU mO;have sZ:=u.cZ y (by omega);have rR:=G.cZ y (by omega);have nR:=v.cZ y (by omega);have b10:=y.below o o.size (by omega);refine aC (Wr (⟨.agg (aA 6 (rv .u64 (zC uG X k))),rV Tryz.results127 ⟨_,C,aX nK.aH (by kernel_rfl) (by kernel_rfl)⟩,?_⟩));have ek:k=m:=by omega
 exact⟨by rw[ek],b10⟩
theorem Nr(a:Option Addr)(n cap:Nat)(X:Nat->Nat->Int)(w:World)(g:n<=1000000)(h:Vcs w a n cap X) :
 Calls Tryz.prog 127 #[.slice a n cap,.func (.func 128) #[] #[]] w fun e w'=>e = .returned (.agg (aA 6 (rv .u64 (O4 uG X n))))/\Below w.heap.size w w':=by
 cases n with
 | zero=>exact K3 a cap w
 | succ m=>obtain⟨c,b,f,rfl,d⟩:=h (by omega); exact K4 b f m cap X w c (by omega) d
theorem adl{w w':World}{a:Option Addr}{n cap:Nat}{X:Nat->Nat->Int}(h:Vcs w a n cap X)(f:Below w.heap.size w w'):Vcs w' a n cap X:=fun d=>by
 obtain⟨g,b,i,e,c⟩:=h d;exact⟨g,b,i,e,c.below f (c.lt (by omega))⟩
theorem adn(a:Option Addr)(n cap:Nat)(X:Nat->Nat->Int)(w:World)(k:n<=1000000)(h:Vcs w a n cap X) :
 Calls Tryz.prog 119 #[.slice a (n) (cap)] w fun e w'=>e = .returned (.agg (aA 6 (rv .u64 (O4 uG X n))))/\Below w.heap.size w w':=by
 refine Kent Tryz.func119 5 ?_;refine ay<|Dl (m:=6) (y:=rv .u64 (fun _=>0)) (by rfl) rfl (by kernel_rfl) rfl fun i v g d q z => ?_;have b:=bH q.old (Below.refl w.heap.size w);have t:=ig g;have u:=d.lt;refine aC<|ay<|av (.slice a (n) (cap))<|dZ (Nr a n cap X _ k (adl h b)) _ rfl ?_;intro x j;have⟨l,c⟩:=fD j d b;refine fA l 0 fun s o r A => ?_;have p:aQ s i 6 (rv .u64 (O4 uG X n)) 30:=aU o;have f:=r.below c c.size (by omega);refine aC (Wr (⟨.agg (aA 6 (rv .u64 (O4 uG X n))),rV Tryz.results119 ⟨_,rfl,aX p.aH (by kernel_rfl) (by kernel_rfl)⟩,?_⟩));exact⟨rfl,f⟩
namespace Rt
theorem ahv(x y:Nat->Int):bI (bI (fun j=>rv .u64 (fun _=>0) (j % 6)) (0*6) 6 (rv .u64 x)) (1*6) 6 (rv .u64 y)=vx (V2 x y):=by
 funext p
 unfold bI;by_cases b:1*6<=p/\p<1*6+6
 ·rw[d_ b];show _=Value.int .u64 (V2 x y (p / 6) (p % 6));rw[show p / 6=1 by omega,show p-1*6=p % 6 by omega]; rfl
 rw[b_ b];by_cases a:0*6<=p/\p<0*6+6
 ·rw[d_ a];show _=Value.int .u64 (V2 x y (p / 6) (p % 6));rw[show p / 6=0 by omega,show p-0*6=p % 6 by omega]; rfl
 rw[b_ a];show _=Value.int .u64 (V2 x y (p / 6) (p % 6));obtain⟨q,c⟩ : ∃ q,p / 6=q+2:=⟨p / 6-2,by omega⟩;rw[c]; rfl
end Rt
namespace Rt
def hasB(K:Nat->Int)(o a:Int):Bool:=nS o&&decide (0<a)&&decide (a<=K (o-1).toNat)
theorem Hw{a b:Nat->Int}:yc a b=true <-> ∀ i,i<6->rv .u64 (fun p=>uG (a p) (b p)) i=rv .u64 b i:=by
 unfold yc;rw[List.all_eq_true];have e : ∀ i,rv .u64 (fun p=>uG (a p) (b p)) i=rv .u64 b i<->a i<=b i:=fun i=>by
  show Value.int .u64 (uG (a i) (b i))=aD (b i)<->_;simp only[Value.int.injEq,true_and]; unfold uG; split <;> omega
 constructor
 ·intro h i c; have:=h i (P_.2 c); rw[e]; exact h_ this
 intro h i c; have:=h i (P_.1 c); rw[e]at this; exact f_ this
def Kr(K:Nat->Int):Prop := ∀ i,i<6->kH (K i)
theorem Kr.kd{K:Nat->Int}(h:Kr K):Fx.Kd (List.replicate 6 (some .u64)) (rv .u64 K):=Fx.RV fun i a=>Fx.uL (h i a)
theorem Kr.mx{K L:Nat->Int}(h:Kr K)(b:Kr L):Kr (fun p=>uG (K p) (L p)):=fun i a=>by
 have c:=h i a; have d:=b i a; show kH (uG (K i) (L i)); unfold uG; split <;> assumption
end Rt
theorem YI{w:World}{g:Nat}{T:TypeId}{x:Nat->Value}(D K:Nat->Int)(h:aQ w g (2*6) x T)(e:x=vx (V2 D K)) :
 Calls Tryz.prog 119 #[bM g 2 2] w fun e w'=>e = .returned (.agg (aA 6 (rv .u64 fun p=>uG (D p) (K p))))/\Below w.heap.size w w' :=
 adn (some ⟨g,0,none⟩) 2 2 (V2 D K) w (by omega) (fun _=>⟨A_ _,g,0,rfl,(h.to e).aH⟩)
theorem Vn(n:Int)(w:World) :
 Calls Tryz.prog 118 #[au n] w fun e w'=>e = .returned (.bool (nS n))/\w'=w:=by
 refine Kent Tryz.func118 9 ?_;refine ay<|av aF<|aC<|ay<|av (au n) ?_;by_cases a:1<=n
 ·refine Lv aG (ku a)<|av aG<|av (au n) ?_;by_cases b:n<=6
  ·refine Lv aG (nE b)<|av aG<|av aG<|aC<|Wr<|aJ aG ?_;exact⟨iB (by simp only[nS]; first|(symm; simp; omega)|(symm; simp; done)),rfl⟩
  refine Lv aF (nM b)<|av aF<|av aF<|aC<|Wr<|aJ aF ?_;exact⟨iB (by simp only[nS]; first|(symm; simp; omega)|(symm; simp; done)),rfl⟩
 refine Lv aF (jU a)<|av aF<|bX<|bX<|av aF<|av aF<|aC<|Wr<|aJ aF ?_;exact⟨iB (by simp only[nS]; first|(symm; simp; omega)|(symm; simp; done)),rfl⟩
theorem aaq(K:Nat->Int)(o q:Int)(w:World) :
 Calls Tryz.prog 91 #[.agg (aA 6 (rv .u64 K)),au o,aD q] w fun e w'=>e = .returned (.bool (hasB K o q))/\Below w.heap.size w w':=by
 refine Kent Tryz.func91 21 ?_;refine ay<|qD fun k s j i l t => ?_;have f:=bH l.old (Below.refl w.heap.size w);have p:=ig j;have r:=i.lt;refine av aF<|aC<|ay<|av (au o) ?_;by_cases b:(nS o)=true
 ·obtain⟨a,n,m⟩:=fH b;refine mF (Vn o _) aG (by rw[b])<|av aG<|av (aD q) ?_;by_cases c:0<q
  ·refine Lv aG (mW c)<|av aG<|av aG<|av (au o)<|Lv (au a) gH<|Lv (pf k a) (jC 6 1)<|Lv (aD (K a)) (aL i.aH a)<|av (aD q) ?_;by_cases g:q<=(K a)
   ·refine Lv aG (ku g)<|av aG<|av aG<|aC<|Wr<|aJ aG ?_;have d:decide (0<q)=true:=f_ c;have h:decide (q<=K (o-1).toNat)=true:=f_ (by rw[show(o-1).toNat=a by omega]; exact g);exact⟨iB (Eq.symm (by unfold hasB; rw[b,d,h]; try rfl)),f⟩
   refine Lv aF (jU g)<|av aF<|av aF<|aC<|Wr<|aJ aF ?_;have d:decide (0<q)=true:=f_ c;have h:decide (q<=K (o-1).toNat)=false:=g_ (by rw[show(o-1).toNat=a by omega]; exact g);exact⟨iB (Eq.symm (by unfold hasB; rw[b,d,h]; try rfl)),f⟩
  refine Lv aF (mX c)<|av aF<|av aF<|bX<|bX<|bX<|bX<|bX<|bX<|av aF<|av aF<|aC<|Wr<|aJ aF ?_;have d:decide (0<q)=false:=g_ c;exact⟨iB (Eq.symm (by unfold hasB; rw[b,d]; try rfl)),f⟩
 rw[U_]at b;refine mF (Vn o _) aF (by rw[b])<|av aF<|bX<|bX<|av aF<|av aF<|bX<|bX<|bX<|bX<|bX<|bX<|av aF<|av aF<|aC<|Wr<|aJ aF ?_;exact⟨iB (Eq.symm (by unfold hasB; rw[b]; try rfl)),f⟩
theorem Vo(D K:Nat->Int)(w:World)(o:Kr D)(b:Kr K) :
 Calls Tryz.prog 92 #[.agg (aA 6 (rv .u64 D)),.agg (aA 6 (rv .u64 K))] w fun e w'=>e = .returned (.bool (yc D K))/\Below w.heap.size w w':=by
 refine Kent Tryz.func92 11 ?_;refine ay<|qD fun M w1 E d I z1 => ?_;have f:=bH I.old (Below.refl w.heap.size w);have Q:=ig E;have W:=d.lt;refine qD fun N w2 l r J z2 => ?_;have⟨H,B⟩:=fD J.old d f;have R:=iV l f.size;have T:=bZ l d.lt;have Z:=r.lt;refine av aF<|aC<|Ws ?_;refine jV [0,1,4,2,3,5,6] [4,4,2,2,1,0,0] [(2,0,[0]),(3,0,[2,0]),(2,1,[1]),(3,1,[2,1]),(3,2,[2]),(5,2,[3,2]),(6,2,[2]),(5,3,[3]),(6,3,[3])] fun pQ F P => ?_;have⟨t,c,g⟩:=jw F H r B;refine Rs (.agg (aA 6 (rv .u64 D))) (fP t.aH 0) ?_;refine Rs (.agg (aA 6 (rv .u64 K))) (fP c.aH 0) ?_;refine Rd (v := .agg (aA 6 (rv .u64 K))) (by rfl) (by rfl) (uN _) (fun A G=>eU (x:=rv .u64 K) (y:=rv .u64 K) rfl rfl (by kernel_rfl) (by kernel_rfl) (c.aH.below G (by have:=c.lt; omega)) (i:=0) (by omega) (by omega) (fun j _=>by rw[H_])) ?_;refine BA<|xI (vs := [(0,.agg (aA 6 (rv .u64 D))),(1,.agg (aA 6 (rv .u64 K)))]) (s:=6) (zc:=rv .u64 (fun _=>0)) (y:=bI (bI (fun j=>(rv .u64 (fun _=>0)) (j % 6)) (0*6) 6 (rv .u64 D)) (1*6) 6 (rv .u64 K)) (by rfl) rfl rfl Tryz.underlying191 (by kernel_rfl) (by rfl) (by rfl) (by kernel_rfl) (by rw[aZ (off:=0*6) (s:=6) (y:=rv .u64 D) rfl (bJ _ _) (by rfl)]; rw[aZ (off:=1*6) (s:=6) (y:=rv .u64 K) rfl (bJ _ _) (by rfl)]; rfl) rfl fun O w3 m u z z3 => ?_;have C:=bH z.old g;have S:=iV m g.size;have⟨U,V⟩:=vY m t.lt c.lt;have aa:=u.lt;refine Ln ⟨z.old,?_⟩;refine BA<|dZ (YI D K u (ahv D K)) _ rfl ?_;intro w4 q;have L:=Sb q;have k:=bH q C;refine Ln ⟨L.old,?_⟩;by_cases a : ∀ i,i<6->(rv .u64 (fun p=>uG (D p) (K p))) i=(rv .u64 K) i
 ·refine Rp aG (fun A=>Fx.xL (n:=6) (ks:=List.replicate 6 (some .u64)) (X:=rv .u64 (fun p=>uG (D p) (K p))) (Y:=rv .u64 K) 12 true rfl rfl rfl (Fx.Xy a) (o.mx b).kd b.kd rfl (by kernel_rfl) (by kernel_rfl) (by kernel_rfl) (by kernel_rfl) (by kernel_rfl))<|bf aG<|bS<|Wr<|aJ aG ?_;exact⟨iB (Eq.symm (Hw.2 a)),k⟩
 refine Rp aF (fun A=>Fx.xL (n:=6) (ks:=List.replicate 6 (some .u64)) (X:=rv .u64 (fun p=>uG (D p) (K p))) (Y:=rv .u64 K) 12 false rfl rfl rfl (Fx.nob a) (o.mx b).kd b.kd rfl (by kernel_rfl) (by kernel_rfl) (by kernel_rfl) (by kernel_rfl) (by kernel_rfl))<|bf aF<|bS<|Wr<|aJ aF ?_;exact⟨iB (Eq.symm (Bool.eq_false_iff.2 (fun h=>a (Hw.1 h)))),k⟩
theorem Rt.K5{K:Nat->Int}{v:EvM}(h:bR v=true):mI K v=hasB K v.o v.seq:=by
 have a:=iP h; have b:=(DW h).1;unfold mI hasB; rw[h,a,show decide (0<v.seq)=true from f_ (by omega)]; rfl
theorem Vp(K:Nat->Int)(v:EvM)(w:World)(k:gU v) :
 Calls Tryz.prog 63 #[.agg (aA 6 (rv .u64 K)),.agg (aA 14 (bU v))] w fun e w'=>e = .returned (.bool (mI K v))/\Below w.heap.size w w':=by
 refine Kent Tryz.func63 15 ?_;refine ay<|qD fun B H q c z O => ?_;have f:=bH z.old (Below.refl w.heap.size w);have C:=ig q;have F:=c.lt;refine qD fun j I i d A P => ?_;have⟨x,g⟩:=fD A.old c f;have D:=iV i f.size;have E:=bZ i c.lt;have G:=d.lt;refine av aF<|aC<|ay<|Lv (.agg (aA 14 (bU v))) (fP d.aH 0) ?_;by_cases a:(bR v)=true
 ·refine dZ (Hu v _ k) aG (by rw[a]) ?_;intro J r;have⟨y,l,h⟩:=jw r x d g;refine av aG<|Lv (.agg (aA 6 (rv .u64 K))) (fP y.aH 0)<|av (pt j)<|Lv (au v.o) (aL l.aH 0)<|av (pf j 1)<|Lv (aD v.seq) (aL l.aH 1) ?_;by_cases b:(hasB K v.o v.seq)=true
  ·refine dZ (aaq K v.o v.seq _) aG (by rw[b]) ?_;intro L s;have m:=bH s h;refine av aG<|av aG<|aC<|Wr<|aJ aG ?_;exact⟨iB (Eq.symm ((K5 a).trans b)),m⟩
  rw[U_]at b;refine dZ (aaq K v.o v.seq _) aF (by rw[b]) ?_;intro M t;have n:=bH t h;refine av aF<|av aF<|aC<|Wr<|aJ aF ?_;exact⟨iB (Eq.symm ((K5 a).trans b)),n⟩
 rw[U_]at a;refine dZ (Hu v _ k) aF (by rw[a]) ?_;intro N u;have p:=bH u g;refine av aF<|bX<|bX<|bX<|bX<|bX<|bX<|av aF<|av aF<|aC<|Wr<|aJ aF ?_;exact⟨iB (Eq.symm (by unfold mI; rw[a]; rfl)),p⟩
theorem O5(K:Nat->Int)(v:EvM)(w:World)(i:gU v)(q:Kr K) :
 Calls Tryz.prog 64 #[.agg (aA 6 (rv .u64 K)),.agg (aA 14 (bU v))] w fun e w'=>e = .returned (.bool (dD K v))/\Below w.heap.size w w':=by
 refine Kent Tryz.func64 24 ?_;refine ay<|qD fun z Q y l F W => ?_;have m:=bH F.old (Below.refl w.heap.size w);have L:=ig y;have O:=l.lt;refine qD fun k R p c G X => ?_;have⟨r,h⟩:=fD G.old l m;have M:=iV p m.size;have N:=bZ p l.lt;have P:=c.lt;refine av aF<|aC<|Ws ?_;refine mZ<|Qv (.agg (aA 14 (bU v))) (fun d b=>fP (c.cb b) 0) ?_;by_cases f:(bR v)=true
 ·obtain⟨a,I,H⟩:=fH (iP f);have J:=DW f;refine yY (fun _ _=>Hu v _ i) aG (by rw[f])<|aW aG<|aW (pt k)<|Qv (au v.o) (fun d b=>aL (c.cb b) 0)<|Qv (au a) (fun d b=>gH)<|Qv (pf z a) (fun d b=>jC 6 1)<|Qv (aD (K a)) (fun d b=>aL (r.cb b) a)<|aW (pf k 1)<|Qv (aD v.seq) (fun d b=>aL (c.cb b) 1)<|Qv (aD (v.seq-1)) (fun d b=>gH) ?_;by_cases n:(K a)=(v.seq-1)
  ·refine Qv aG (fun d b=>fu n)<|aW aG<|aW aG<|aW (pf k 2)<|Qv (.agg (aA 6 (rv .u64 v.deps))) (fun d b=>fP (c.cb b) 2 (fun j E=>mH _ (by omega) E))<|Qv (.agg (aA 6 (rv .u64 K))) (fun d b=>fP (r.cb b) 0) ?_;by_cases g:(yc v.deps K)=true
   ·refine yY (fun _ _=>Vo v.deps K _ i.deps q) aG (by rw[g])<|aW aG<|aW aG<|Qn ?_;intro S A;have s:=bH A h;refine sN<|Wr<|aJ aG ?_;have c:decide (v.seq=K (v.o-1).toNat+1)=true:=f_ (by rw[show(v.o-1).toNat=a by omega]; omega);exact⟨iB (Eq.symm (by unfold dD; rw[f,c,g]; try rfl)),s⟩
   rw[U_]at g;refine yY (fun _ _=>Vo v.deps K _ i.deps q) aF (by rw[g])<|aW aF<|aW aF<|Qn ?_;intro T B;have t:=bH B h;refine sN<|Wr<|aJ aF ?_;have c:decide (v.seq=K (v.o-1).toNat+1)=true:=f_ (by rw[show(v.o-1).toNat=a by omega]; omega);exact⟨iB (Eq.symm (by unfold dD; rw[f,c,g]; try rfl)),t⟩
  refine Qv aF (fun d b=>fQ n)<|aW aF<|aW aF<|aP<|aP<|aP<|aP<|aW aF<|aW aF<|Qn ?_;intro U C;have u:=bH C h;refine sN<|Wr<|aJ aF ?_;have c:decide (v.seq=K (v.o-1).toNat+1)=false:=g_ (by rw[show(v.o-1).toNat=a by omega]; omega);exact⟨iB (Eq.symm (by unfold dD; rw[f,c]; try rfl)),u⟩
 rw[U_]at f;refine yY (fun _ _=>Hu v _ i) aF (by rw[f])<|aW aF<|aP<|aP<|aP<|aP<|aP<|aP<|aP<|aP<|aP<|aW aF<|aW aF<|aP<|aP<|aP<|aP<|aW aF<|aW aF<|Qn ?_;intro V D;have x:=bH D h;refine sN<|Wr<|aJ aF ?_;exact⟨iB (Eq.symm (by unfold dD; rw[f]; try rfl)),x⟩
namespace Rt
def jE(m:dU)(v:EvM):Int:=if m.T.has v.node=false then 9 else if 140737488355328<m.R (m.idx v.node) (aO v)+v.aS then 6 else 0
def Cg(m:dU)(k:Int)(r:Nat->Int):dU := { m with R:=aM m.R (m.idx k) r }
def uH(m:dU)(v:EvM):dU:=Cg m v.node (upd (m.R (m.idx v.node)) (aO v) (m.R (m.idx v.node) (aO v)+v.aS))
def sO(m:dU)(v:EvM):(Nat->Int) × Int:=dn (m.R (m.idx v.node)) v.o v.dst v.aS
def kK(m:dU)(v:EvM):Int:=if m.T.has v.node=false then 9 else if m.inn (v.dst-1).toNat=false then 10 else(sO m v).2
def CZ(m:dU)(v:EvM):dU:=Cg m v.node (sO m v).1
def Hy(m:dU)(v:EvM):dU := { m with inn:=aI m.inn (v.dst-1).toNat true }
def Ch(m:dU)(v:EvM):dU := { m with left:=aI m.left (aO v) true }
theorem Ee{R:Nat->Nat->Int}{j:Nat}{r:Nat->Int} : ∀ n x w b,Mp w b n x (aM (wS R) j (.agg (aA 54 (rv .i64 r))))->Mp w b n x (wS (aM R j r)):=fun n x w b h=>h.uR fun i _=>⟨rfl,by unfold wS aM; split <;> rfl⟩
end Rt
theorem Gm:Fx.wm Tryz.prog 113:=⟨by kernel_rfl,by kernel_rfl,by kernel_rfl⟩
theorem Vq(m:dU)(lp B:Nat)(w:World)(h:mD w B lp m)(v:EvM)(Y:bR v=true)(b:Nat)(D:b<6)(X:v.dst=(b:Int)+1)(i:Nat)(f:Nat)(l:aQ w i 1 (fun _=>(pt lp)) 37)(k:aQ w f 14 (bU v) 32) :
 Calls Tryz.prog 183 #[(pt i),(pt f)] w fun e w'=>e = .returned (.tuple #[])/\mD w' B lp (Hy m v)/\jT (Fv m lp) w w':=by
 have x:=h.c;have C:=h.t;have z:=h.p;have A:=h.r;have y:=h.g;have u:=h.a;have d:=h.ne;have lC:=h.c.lt;have lT:=h.t.lt;have lP:=h.p.lt;have lR:=h.r.lt;have lG:=h.g.lt;have lA:=h.a.lt;have ZX:=l.lt;have lge:=k.lt;have E:(v.dst-1).toNat=b:=by omega
 refine Kent Tryz.func183 9 ?_;refine jV [1,0,4,5,2,3,6,7] [4,0,4,0,0,0,0,3] [(7,0,[0]),(7,2,[2])] fun W j Z => ?_;have U:Stp w.heap.size w W:=Sb j;have⟨n,M,N,O,P,Q,R,S⟩:=ng j x C z A y u l k;have q:=(uM (Fv m lp) w).then U (.inr (uM (Fv m lp) w).size);refine bf (pf f 10)<|Rs (pt lp) (aL R.aH 0) ?_;refine bf (pt lp)<|bf (pt lp)<|Rs (au v.dst) (aL S.aH 10) ?_;refine Rp (au b) (fun _=>gH)<|Rp (pf lp b) (fun _=>jC 6 1)<|gQ<|jd n b aG fun V T o z1 => ?_;have G:aQ V lp 29 (vE { m with inn:=aI m.inn b true }) 106:=T.to (Ve D _);have F:=gZ o n.ty;have⟨H,I,J,K,L⟩:=sj F M N O P Q;have s:=q.then o (.inl (.inl rfl));refine Ln (Rn (⟨.tuple #[],iR Tryz.results183,?_⟩));unfold Hy; rw[E];exact⟨rfl,{ c:=G,t:=H,p:=I,r:=J,g:=K,a:=L,ne:=⟨d.mp,d.mr,d.mg,d.ma,d.pr,d.pg,d.pa,d.rg,d.ra,d.ga⟩,lB:=h.lB,pB:=h.pB,rB:=h.rB,gB:=h.gB,aB:=h.aB },s⟩
theorem QV(m:dU)(lp B:Nat)(w:World)(h:mD w B lp m)(v:EvM)(H:bR v=true)(f:Nat)(d:Nat)(l:aQ w f 1 (fun _=>(pt lp)) 37)(k:aQ w d 14 (bU v) 32) :
 Calls Tryz.prog 184 #[(pt f),(pt d)] w fun e w'=>e = .returned (.tuple #[])/\mD w' B lp (Ch m v)/\jT (Fv m lp) w w':=by
 have y:=h.c;have D:=h.t;have A:=h.p;have C:=h.r;have z:=h.g;have x:=h.a;have b:=h.ne;have lC:=h.c.lt;have lT:=h.t.lt;have lP:=h.p.lt;have lR:=h.r.lt;have lG:=h.g.lt;have lA:=h.a.lt;have ZX:=l.lt;have lge:=k.lt;obtain⟨a,E,Z⟩ : ∃ a:Nat,a<6/\v.o=(a:Int)+1:=fH (iP H);have G:aO v=a:=by unfold aO; omega
 refine Kent Tryz.func184 9 ?_;refine jV [1,0,4,5,2,3,6,7] [4,0,4,0,0,0,0,3] [(7,0,[0]),(7,2,[2])] fun Y j aa => ?_;have W:Stp w.heap.size w Y:=Sb j;have⟨n,O,P,Q,R,S,T,U⟩:=ng j y D A C z x l k;have s:=(uM (Fv m lp) w).then W (.inr (uM (Fv m lp) w).size);refine bf (pt d)<|Rs (pt lp) (aL T.aH 0) ?_;refine bf (pt lp)<|bf (pf lp 6)<|Rs (au v.o) (aL U.aH 0) ?_;refine Rp (au a) (fun _=>gH)<|Rp (pf lp (a+6)) (fun _=>jC 6 1)<|gQ<|jd n (a+6) aG fun X V q z1 => ?_;have I:aQ X lp 29 (vE { m with left:=aI m.left a true }) 106:=V.to (Vf (i:=a) E (by omega) _);have F:=gZ q n.ty;have⟨J,K,L,M,N⟩:=sj F O P Q R S;have u:=s.then q (.inl (.inl rfl));refine Ln (Rn (⟨.tuple #[],iR Tryz.results184,?_⟩));unfold Ch; rw[G];exact⟨rfl,{ c:=I,t:=J,p:=K,r:=L,g:=M,a:=N,ne:=⟨b.mp,b.mr,b.mg,b.ma,b.pr,b.pg,b.pa,b.rg,b.ra,b.ga⟩,lB:=h.lB,pB:=h.pB,rB:=h.rB,gB:=h.gB,aB:=h.aB },u⟩
theorem QW(m:dU)(lp B:Nat)(w:World)(h:mD w B lp m)(v:EvM)(hv:bR v=true)(P:m.T.has v.node=true)(r:Nat->Int)(k:Nat)(j:Nat)(f:Nat)(hr:aQ w k 54 (rv .i64 (r)) 59)(s:aQ w j 1 (fun _=>(pt lp)) 37)(o:aQ w f 14 (bU v) 32) :
 Calls Tryz.prog 173 #[(pt k),(pt j),(pt f)] w fun e w'=>e = .returned (.tuple #[])/\mD w' B lp (Cg m v.node r)/\jT (Fv m lp) w w':=by
 have J:=h.c;have O:=h.t;have M:=h.p;have N:=h.r;have K:=h.g;have I:=h.a;have b:=h.ne;have lC:=h.c.lt;have lT:=h.t.lt;have lP:=h.p.lt;have lR:=h.r.lt;have lG:=h.g.lt;have lA:=h.a.lt;have lgr:=hr.lt;have ZX:=s.lt;have lge:=o.lt;obtain⟨u,q,i⟩:=gT P;have H:m.idx v.node=u:=nY h.t.inv.inj q i;refine Kent Tryz.func173 10 ?_;refine jV [4,0,1,2,3,5,6,7] [4,0,0,4,0,4,4,3] [(7,0,[0]),(7,3,[3]),(7,5,[5]),(7,6,[6])] fun pQ l iG => ?_;have s1:Stp w.heap.size w pQ:=Sb l;have⟨y,Z,m3,z,m5,m6,A,C,D⟩:=BD l J O M N K I hr s o;have F:=(uM (Fv m lp) w).then s1 (.inr (uM (Fv m lp) w).size);refine bf (pf f 9)<|Rs (pt lp) (aL C.aH 0) ?_;refine bf (pt lp)<|bf (pf lp 20)<|Rs (.map (some m.rb)) (aL y.aH 20) ?_;refine Rs (aD v.node) (aL D.aH 9) ?_;refine Rs (.agg (aA 54 (rv .i64 (r)))) (fP A.aH 0) ?_;refine gQ<|Fx.L.abl (by rfl) rfl rfl rfl rfl rfl z Tryz.underlying101 Tryz.underlying28 q i fun w1 Q E z1 => ?_;have d:=z.BF E;have S:=y.dQ d;have U:=Z.dQ d (b.mr);have V:=m3.dQ d (b.pr);have W:=m5.dQ d (Ne.symm b.rg);have X:=m6.dQ d (Ne.symm b.ra);have m16:=A.dQ d;have m17:=C.dQ d;have m18:=D.dQ d;have G:=F.then E (.inl (.inr (.inr (.inr (.inl rfl)))));have Y:Mp w1 m.rb m.T.n m.T.x (wS (aM m.R u (r))):=Ee _ _ _ _ Q;refine Ln (Rn (⟨.tuple #[],iR Tryz.results173,?_⟩));unfold Cg; rw[H];exact⟨rfl,{ c:=S,t:=U,p:=V,r:=Y,g:=W,a:=X,ne:=⟨b.mp,b.mr,b.mg,b.ma,b.pr,b.pg,b.pa,b.rg,b.ra,b.ga⟩,lB:=h.lB,pB:=h.pB,rB:=h.rB,gB:=h.gB,aB:=h.aB },G⟩
theorem Vr(m:dU)(lp B:Nat)(w:World)(h:mD w B lp m)(v:EvM)(hv:bR v=true)(P:m.T.has v.node=true)(r:Nat->Int)(k:Nat)(j:Nat)(f:Nat)(hr:aQ w k 54 (rv .i64 (r)) 59)(s:aQ w j 1 (fun _=>(pt lp)) 37)(o:aQ w f 14 (bU v) 32) :
 Calls Tryz.prog 182 #[(pt k),(pt j),(pt f)] w fun e w'=>e = .returned (.tuple #[])/\mD w' B lp (Cg m v.node r)/\jT (Fv m lp) w w':=by
 have J:=h.c;have O:=h.t;have M:=h.p;have N:=h.r;have K:=h.g;have I:=h.a;have b:=h.ne;have lC:=h.c.lt;have lT:=h.t.lt;have lP:=h.p.lt;have lR:=h.r.lt;have lG:=h.g.lt;have lA:=h.a.lt;have lgr:=hr.lt;have ZX:=s.lt;have lge:=o.lt;obtain⟨u,q,i⟩:=gT P;have H:m.idx v.node=u:=nY h.t.inv.inj q i;refine Kent Tryz.func182 10 ?_;refine jV [4,0,1,2,3,5,6,7] [4,0,0,4,0,4,4,3] [(7,0,[0]),(7,3,[3]),(7,5,[5]),(7,6,[6])] fun pQ l iG => ?_;have s1:Stp w.heap.size w pQ:=Sb l;have⟨y,Z,m3,z,m5,m6,A,C,D⟩:=BD l J O M N K I hr s o;have F:=(uM (Fv m lp) w).then s1 (.inr (uM (Fv m lp) w).size);refine bf (pf f 9)<|Rs (pt lp) (aL C.aH 0) ?_;refine bf (pt lp)<|bf (pf lp 20)<|Rs (.map (some m.rb)) (aL y.aH 20) ?_;refine Rs (aD v.node) (aL D.aH 9) ?_;refine Rs (.agg (aA 54 (rv .i64 (r)))) (fP A.aH 0) ?_;refine gQ<|Fx.L.abl (by rfl) rfl rfl rfl rfl rfl z Tryz.underlying101 Tryz.underlying28 q i fun w1 Q E z1 => ?_;have d:=z.BF E;have S:=y.dQ d;have U:=Z.dQ d (b.mr);have V:=m3.dQ d (b.pr);have W:=m5.dQ d (Ne.symm b.rg);have X:=m6.dQ d (Ne.symm b.ra);have m16:=A.dQ d;have m17:=C.dQ d;have m18:=D.dQ d;have G:=F.then E (.inl (.inr (.inr (.inr (.inl rfl)))));have Y:Mp w1 m.rb m.T.n m.T.x (wS (aM m.R u (r))):=Ee _ _ _ _ Q;refine Ln (Rn (⟨.tuple #[],iR Tryz.results182,?_⟩));unfold Cg; rw[H];exact⟨rfl,{ c:=S,t:=U,p:=V,r:=Y,g:=W,a:=X,ne:=⟨b.mp,b.mr,b.mg,b.ma,b.pr,b.pg,b.pa,b.rg,b.ra,b.ga⟩,lB:=h.lB,pB:=h.pB,rB:=h.rB,gB:=h.gB,aB:=h.aB },G⟩
namespace Rt
theorem O6{v:EvM}(h:bR v=true)(c:v.kind=5) : ∃ b:Nat,b<6/\v.dst=(b:Int)+1:=by
 unfold bR at h;simp only[T_]at h;have a:=h.2;unfold dF at a;rw[b_ (by omega),b_ (by omega),b_ (by omega),b_ (by omega),d_ c]at a;unfold lY at a;simp only[T_]at a;exact fH a.2.1
end Rt
theorem ado(x:Nat->Int)(i j n:Int)(w:World)(hi:1<=i/\i<=6)(a:1<=j/\j<=6) :
 Calls Tryz.prog 181 #[.agg (aA 54 (rv .i64 x)),au i,au j,au n] w fun e w'=>e = .returned (.tuple #[.agg (aA 54 (rv .i64 (dn x i j n).1)),au (dn x i j n).2])/\Below w.heap.size w w' :=
 Uf x i j n w (by omega) (by omega)
theorem adp(x:Nat->Int)(i n:Int)(w:World)(hi:1<=i/\i<=6) :
 Calls Tryz.prog 176 #[.agg (aA 54 (rv .i64 x)),au i,au n] w fun e w'=>e = .returned (.tuple #[.agg (aA 54 (rv .i64 (bC x i n).1)),au (bC x i n).2])/\Below w.heap.size w w' :=
 Ub x i n w (by omega)
theorem adq(x:Nat->Int)(i n:Int)(w:World)(hi:1<=i/\i<=6) :
 Calls Tryz.prog 179 #[.agg (aA 54 (rv .i64 x)),au i,au n] w fun e w'=>e = .returned (.tuple #[.agg (aA 54 (rv .i64 (bG x i n).1)),au (bG x i n).2])/\Below w.heap.size w w' :=
 Ue x i n w (by omega)
theorem Vs(m:dU)(lp B:Nat)(w:World)(h:mD w B lp m)(v:EvM)(N:bR v=true)(hkd:v.kind=2)(hRb : ∀ i,i<m.T.n -> ∀ p,p<54->0<=m.R i p/\m.R i p<=1125899906842624) :
 Calls Tryz.prog 163 #[(pt lp),.agg (aA 14 (bU v))] w fun e w'=>Ry w B lp m (uH m v) (jE m v) e w':=by
 have hC:=h.c;have hT:=h.t;have hP:=h.p;have hR:=h.r;have hG:=h.g;have hA:=h.a;have hN:=h.ne;have lC:=h.c.lt;have lT:=h.t.lt;have lP:=h.p.lt;have lR:=h.r.lt;have lG:=h.g.lt;have lA:=h.a.lt;obtain⟨a,ha,ho⟩ : ∃ a:Nat,a<6/\v.o=(a:Int)+1:=fH (iP N);have M:aO v=a:=by unfold aO; omega
 refine Kent Tryz.func163 39 ?_;refine ay<|yZ (pt lp) fun l w1 aa O s1 z1 => ?_;have⟨m2,m4,m5,m6,m7,W⟩:=um s1.old hC hP hR hG hA (Below.refl w.heap.size w);have sU:=ig aa;have⟨nP,zD,xB,Bg,zA⟩:=Dq aa hC.lt hP.lt hR.lt hG.lt hA.lt;have uq:=O.lt;refine qD fun f w2 ab m8 s2 z2 => ?_;have⟨m9,m11,m12,m13,m14,m15,b2⟩:=jQ s2.old m2 m4 m5 m6 m7 O W;have pV:=iV ab W.size;have⟨K6,Fw,Fy,Aa,Fz,BK⟩:=IU ab m2.lt m4.lt m5.lt m6.lt m7.lt O.lt;have zy:=m8.lt;refine av (.nilFunc)<|av (au 0)<|aC<|Ws ?_;refine jV [4,0,1,2,3,5,6,7,8,9,10,11,12] [1,0,0,1,0,1,1,0,0,0,2,3,0] [(11,0,[0]),(11,3,[3]),(11,5,[5]),(11,6,[6]),(11,10,[10]),(12,10,[10]),(12,11,[11])] fun pQ dR iG => ?_;have⟨E,m18,F,m20,m21,s,u,y⟩:=ng dR m9 m11 m12 m13 m14 m15 m8 b2;refine bf (pf f 9)<|Rd (v:=(pt lp)) (by rfl) (by rfl) (uN _) (fun G j=>bF (x:=fun _=>(pt lp)) rfl rfl (by kernel_rfl) (s.aH.below j (by have:=s.lt; omega)) (i:=0) (by omega) (by omega) rfl) ?_;refine bf (pt lp)<|bf (pf lp 20)<|Rd (v := .map (some m.rb)) (by rfl) (by rfl) (uN _) (fun G j=>bF (x:=vE m) rfl rfl (by kernel_rfl) (E.aH.below j (by have:=E.lt; omega)) (i:=20) (by omega) (by omega) rfl) ?_;refine Rd (v:=aD v.node) (by rfl) (by rfl) (uN _) (fun G j=>bF (x:=bU v) rfl rfl (by kernel_rfl) (u.aH.below j (by have:=u.lt; omega)) (i:=9) (by omega) (by omega) rfl) ?_
 rcases Fx.vZ m.T.x m.T.n v.node with ⟨b,D,J⟩|jY
 ·refine Rd (v := .tuple #[.agg (aA 54 (rv .i64 (m.R b))),.bool true]) (by rfl) (by rfl) (uN _) (fun G j=>Fx.Ev (z := .agg (aA 54 (rv .i64 (fun _=>0)))) rfl rfl rfl (F.up j) Tryz.underlying101 Tryz.underlying28 (by kernel_rfl) D J rfl) ?_;refine bf (.tuple #[.agg (aA 54 (rv .i64 (m.R b))),.bool true])<|bf (.agg (aA 54 (rv .i64 (m.R b))))<|bf aG<|BA<|uh 54 (rv .i64 (fun _=>0)) fun d w3 ac P s4 z3 => ?_;have⟨lX,m32,X⟩:=jw s4.old s u y;have za:=iV ac y.size;have⟨Ns,Nt,Vt,Vu,Vv,adr,ads⟩:=ME ac E.lt m18.lt F.lt m20.lt m21.lt s.lt u.lt;have I4:=P.lt;refine Ln ⟨s4.old,?_⟩;refine gQ<|fA P 0 fun w4 pR s5 z4 => ?_;have nQ:aQ w4 d 54 (rv .i64 (m.R b)) 59:=aU pR;have fV:=gZ s5 P.ty;have⟨nJ,mO⟩:=xS fV lX m32;have b5:=s5.below X X.size (by omega);refine Ln<|bf aG<|bS<|Ws<|ay<|av aG<|av aF<|aC<|aK<|Wk<|sN<|Ws<|Ws ?_;have K:m.idx v.node=b:=nY h.t.inv.inj D J;have q:m.T.has v.node=true:=jX D J;have q1:=hRb b D a (by omega);have q2:=kZ N (.inl hkd);refine jV [0,3,6,9,1,2,4,5,7,8,10,11] [0,4,0,0,0,4,0,4,0,0,0,3] [(11,1,[1]),(11,5,[5]),(11,7,[7])] fun CP gJ nO => ?_;have⟨rA,Q,S,Y⟩:=kR gJ nJ mO nQ b5;refine bf (pt f)<|bf (pt d)<|bf (pf f 11)<|bf (pt d)<|Rs (au v.o) (aL Q.aH 0) ?_;refine Rp (au a) (fun _=>gH)<|Rp (pf d a) (fun _=>jC 6 1)<|Rs (au ((m.R b) a)) (aL S.aH a) ?_;refine Rs (au v.aS) (aL Q.aH 11) ?_;refine Rp (au (((m.R b) a)+v.aS)) (fun _=>eO)<|Rp (pf d a) (fun _=>jC 6 1)<|gQ<|jd S a (au (((m.R b) a)+v.aS)) fun w5 tV s7 z5 => ?_;have U:aQ w5 d 54 (rv .i64 (upd (m.R b) a (((m.R b) a)+v.aS))) 59:=tV.to (Fx.tK _ _ _ _);have jJ:=gZ s7 S.ty;have⟨qF,V⟩:=xS jJ rA Q;have H:=s7.below Y Y.size (by omega);refine Ln<|bS<|ay<|av (pt f)<|Lv (au v.o) (aL V.aH 0)<|Lv (au a) gH<|av (pt d)<|Lv (pf d a) (jC 6 1)<|Lv (au ((upd (m.R b) a (((m.R b) a)+v.aS)) a)) (aL U.aH a) ?_;by_cases A:140737488355328<((upd (m.R b) a (((m.R b) a)+v.aS)) a)
  ·refine Lv aG (mW A)<|aC<|aN<|ay<|av (.nilFunc)<|av (au 6)<|aC<|Wr<|sR<|aJ (.tuple #[.nilFunc,au 6]) ?_;have k:jE m v=6:=(by unfold jE; rw[b_ (by rw[q]; decide)]; exact d_ (by rw[K,M]; simpa [upd] using A));exact⟨⟨.nilFunc,0,#[],by rw[k],rfl,fun I=>N_ (k.symm.trans I) (by first|decide|omega|assumption)⟩,H⟩
  refine Lv aF (mX A)<|aC<|aK<|Wk<|sN<|ay<|Lv (.func (.func 173) #[] #[(pt d),(pt l),(pt f)]) (Fx.mV (us := []) (vs := [(pt d),(pt l),(pt f)]) rfl rfl rfl)<|av (.func (.func 173) #[] #[(pt d),(pt l),(pt f)])<|av (au 0)<|aC<|Wr<|aJ (.tuple #[.func (.func 173) #[] #[(pt d),(pt l),(pt f)],au 0]) ?_;have em:uH m v=Cg m v.node (upd (m.R b) a (m.R b a+v.aS)):=by unfold uH; rw[K,M]
  rw[em];have k:jE m v=0:=by unfold jE; rw[b_ (by rw[q]; decide)]; exact b_ (by rw[K,M]; simpa [upd] using A)
  exact⟨⟨_,173,#[(pt d),(pt l),(pt f)],by rw[k],rfl,fun _=>⟨rfl,⟨_,_,Tryz.func173,rfl,rfl⟩,fun w2 C=>(QW m lp B w2 ((h.up H).up C) v N q _ _ _ _ (U.cZ (Sb C) (u_ U.lt)) (qF.cZ (Sb C) (u_ qF.lt)) (V.cZ (Sb C) (u_ V.lt))).mono fun _ _ L=>⟨L.1,L.2.1,L.2.2.mono fun _ q => .inl q⟩⟩⟩,H⟩
 refine Rd (v := .tuple #[.agg (aA 54 (rv .i64 (fun _=>0))),.bool false]) (by rfl) (by rfl) (uN _) (fun G j=>Fx.Eu (z := .agg (aA 54 (rv .i64 (fun _=>0)))) rfl rfl rfl (F.up j) Tryz.underlying101 Tryz.underlying28 (by kernel_rfl) jY) ?_;refine bf (.tuple #[.agg (aA 54 (rv .i64 (fun _=>0))),.bool false])<|bf (.agg (aA 54 (rv .i64 (fun _=>0))))<|bf aF<|BA<|uh 54 (rv .i64 (fun _=>0)) fun g4 w6 ad oo s8 z6 => ?_;have Z:=bH s8.old y;have UU:=iV ad y.size;have⟨aom,aon,adt,adu,adv,adw,adx⟩:=ME ad E.lt m18.lt F.lt m20.lt m21.lt s.lt u.lt;have Rx:=oo.lt;refine Ln ⟨s8.old,?_⟩;refine gQ<|fA oo 0 fun w7 uV s9 z7 => ?_;have xq:aQ w7 g4 54 (rv .i64 (fun _=>0)) 59:=aU uV;have b9:=s9.below Z Z.size (by omega);refine Ln<|bf aF<|bS<|Ws<|ay<|av aF<|av aG<|aC<|aN<|ay<|av (.nilFunc)<|av (au 9)<|aC<|Wr<|sR<|aJ (.tuple #[.nilFunc,au 9]) ?_;have k:jE m v=9:=by unfold jE; exact d_ (Ay jY)
 exact⟨⟨.nilFunc,0,#[],by rw[k],rfl,fun I=>N_ (k.symm.trans I) (by first|decide|omega|assumption)⟩,b9⟩
theorem YJ(m:dU)(lp B:Nat)(w:World)(h:mD w B lp m)(v:EvM)(Q:bR v=true)(hkd:v.kind=5) :
 Calls Tryz.prog 166 #[(pt lp),.agg (aA 14 (bU v))] w fun e w'=>Ry w B lp m (CZ m v) (kK m v) e w':=by
 have hC:=h.c;have hT:=h.t;have hP:=h.p;have hR:=h.r;have hG:=h.g;have hA:=h.a;have hN:=h.ne;have lC:=h.c.lt;have lT:=h.t.lt;have lP:=h.p.lt;have lR:=h.r.lt;have lG:=h.g.lt;have lA:=h.a.lt;obtain⟨a,ha,ho⟩ : ∃ a:Nat,a<6/\v.o=(a:Int)+1:=fH (iP Q);have hra:aO v=a:=by unfold aO; omega
 obtain⟨b,hb,hd⟩:=O6 Q hkd;have N:(v.dst-1).toNat=b:=by omega
 refine Kent Tryz.func166 47 ?_;refine ay<|yZ (pt lp) fun y w1 aa S s1 z1 => ?_;have⟨m2,m4,m5,m6,m7,V⟩:=um s1.old hC hP hR hG hA (Below.refl w.heap.size w);have sU:=ig aa;have⟨nP,zD,xB,Bg,zA⟩:=Dq aa hC.lt hP.lt hR.lt hG.lt hA.lt;have uq:=S.lt;refine qD fun f w2 ab m8 s2 z2 => ?_;have⟨m9,m11,m12,m13,m14,m15,b2⟩:=jQ s2.old m2 m4 m5 m6 m7 S V;have pV:=iV ab V.size;have⟨K6,Fw,Fy,Aa,Fz,BK⟩:=IU ab m2.lt m4.lt m5.lt m6.lt m7.lt S.lt;have zy:=m8.lt;refine av (.nilFunc)<|av (au 0)<|aC<|Ws ?_;refine jV [4,0,1,2,3,5,6,7,8,9,10,11,12] [1,0,0,1,0,1,1,0,0,0,2,3,0] [(11,0,[0]),(11,3,[3]),(11,5,[5]),(11,6,[6]),(11,10,[10]),(12,10,[10]),(12,11,[11])] fun pQ dR iG => ?_;have⟨A,m18,I,m20,m21,C,D,F⟩:=ng dR m9 m11 m12 m13 m14 m15 m8 b2;refine bf (pf f 9)<|Rd (v:=(pt lp)) (by rfl) (by rfl) (uN _) (fun J k=>bF (x:=fun _=>(pt lp)) rfl rfl (by kernel_rfl) (C.aH.below k (by have:=C.lt; omega)) (i:=0) (by omega) (by omega) rfl) ?_;refine bf (pt lp)<|bf (pf lp 20)<|Rd (v := .map (some m.rb)) (by rfl) (by rfl) (uN _) (fun J k=>bF (x:=vE m) rfl rfl (by kernel_rfl) (A.aH.below k (by have:=A.lt; omega)) (i:=20) (by omega) (by omega) rfl) ?_;refine Rd (v:=aD v.node) (by rfl) (by rfl) (uN _) (fun J k=>bF (x:=bU v) rfl rfl (by kernel_rfl) (D.aH.below k (by have:=D.lt; omega)) (i:=9) (by omega) (by omega) rfl) ?_
 rcases Fx.vZ m.T.x m.T.n v.node with ⟨d,P,M⟩|jY
 ·refine Rd (v := .tuple #[.agg (aA 54 (rv .i64 (m.R d))),.bool true]) (by rfl) (by rfl) (uN _) (fun J k=>Fx.Ev (z := .agg (aA 54 (rv .i64 (fun _=>0)))) rfl rfl rfl (I.up k) Tryz.underlying101 Tryz.underlying28 (by kernel_rfl) P M rfl) ?_;refine bf (.tuple #[.agg (aA 54 (rv .i64 (m.R d))),.bool true])<|bf (.agg (aA 54 (rv .i64 (m.R d))))<|bf aG<|BA<|uh 54 (rv .i64 (fun _=>0)) fun l w3 ac U s4 z3 => ?_;have⟨nk,lX,m32,W⟩:=kR s4.old A C D F;have za:=iV ac F.size;have⟨Ns,Nt,Vt,Vu,Vv,adr,ads⟩:=ME ac A.lt m18.lt I.lt m20.lt m21.lt C.lt D.lt;have I4:=U.lt;refine Ln ⟨s4.old,?_⟩;refine gQ<|fA U 0 fun w4 pR s5 z4 => ?_;have nQ:aQ w4 l 54 (rv .i64 (m.R d)) 59:=aU pR;have fV:=gZ s5 U.ty;have⟨oq,nJ,mO⟩:=Dp fV nk lX m32;have b5:=s5.below W W.size (by omega);refine Ln<|bf aG<|bS<|Ws<|Wb<|ay<|av aG<|av aF<|av aF<|aC<|aK<|Ws ?_;have ex:m.idx v.node=d:=nY h.t.inv.inj P M;have s:m.T.has v.node=true:=jX P M;refine jV [1,0,4,5,2,3,6,7,8,9] [4,0,4,0,0,0,0,4,0,0] [] fun CP gJ nO => ?_;have⟨nK,rA,E,uU,X⟩:=uj gJ oq nJ mO nQ b5;refine bf (pf f 10)<|Rs (pt lp) (aL rA.aH 0) ?_;refine bf (pt lp)<|bf (pt lp)<|Rs (au v.dst) (aL E.aH 10) ?_;refine Rp (au b) (fun _=>gH)<|Rp (pf lp b) (fun _=>jC 6 1) ?_;by_cases q:(m.inn b)=true
  ·refine Rs aG (aL nK.aH b ((Ce (by omega)).trans (M_ Value.bool q))) ?_;refine bf aF<|bf aF<|bS<|aK<|Wk<|bQ<|sN<|ay<|Lv (.agg (aA 54 (rv .i64 (m.R d)))) (fP uU.aH 0)<|av (pt f)<|Lv (au v.o) (aL E.aH 0)<|av (pf f 10)<|Lv (au v.dst) (aL E.aH 10)<|av (pf f 11)<|Lv (au v.aS) (aL E.aH 11)<|dZ (ado (m.R d) v.o v.dst v.aS _ (by omega) (by omega)) _ rfl ?_;intro w5 hb1;have⟨qx,xD,qF,Y⟩:=kR hb1 rA E uU X;refine av (.tuple #[.agg (aA 54 (rv .i64 ((dn (m.R d) v.o v.dst v.aS).1))),au ((dn (m.R d) v.o v.dst v.aS).2)])<|av (.agg (aA 54 (rv .i64 ((dn (m.R d) v.o v.dst v.aS).1))))<|av (au ((dn (m.R d) v.o v.dst v.aS).2))<|fA qF 0 fun w6 vM s8 z5 => ?_;have oo:aQ w6 l 54 (rv .i64 ((dn (m.R d) v.o v.dst v.aS).1)) 59:=aU vM;have jJ:=gZ s8 qF.ty;have⟨tF,uI⟩:=xS jJ qx xD;have K:=s8.below Y Y.size (by omega);refine av (au ((dn (m.R d) v.o v.dst v.aS).2))<|aC<|Ws<|ay<|av (au ((dn (m.R d) v.o v.dst v.aS).2)) ?_;by_cases L:((dn (m.R d) v.o v.dst v.aS).2)=0
   ·refine Lv aF (jP L)<|aC<|aK<|Wk<|sN<|ay<|Lv (.func (.func 182) #[] #[(pt l),(pt y),(pt f)]) (Fx.mV (us := []) (vs := [(pt l),(pt y),(pt f)]) rfl rfl rfl)<|av (.func (.func 182) #[] #[(pt l),(pt y),(pt f)])<|av (au 0)<|aC<|Wr<|aJ (.tuple #[.func (.func 182) #[] #[(pt l),(pt y),(pt f)],au 0]) ?_;have G:sO m v=dn (m.R d) v.o v.dst v.aS:=(by unfold sO; rw[ex]);show Ry w B lp m (Cg m v.node (sO m v).1) _ _ _;rw[G];have j:kK m v=0:=(by unfold kK; rw[b_ (by rw[s]; decide),b_ (by rw[N,q]; decide),G]; exact L);exact⟨⟨_,182,#[(pt l),(pt y),(pt f)],by rw[j],rfl,fun _=>⟨rfl,⟨_,_,Tryz.func182,rfl,rfl⟩,fun w2 H=>(Vr m lp B w2 ((h.up K).up H) v Q s _ _ _ _ (oo.cZ (Sb H) (u_ oo.lt)) (tF.cZ (Sb H) (u_ tF.lt)) (uI.cZ (Sb H) (u_ uI.lt))).mono fun _ _ O=>⟨O.1,O.2.1,O.2.2.mono fun _ s => .inl s⟩⟩⟩,K⟩
   refine Lv aG (mY L)<|aC<|aN<|ay<|av (au ((dn (m.R d) v.o v.dst v.aS).2))<|av (.nilFunc)<|av (au ((dn (m.R d) v.o v.dst v.aS).2))<|aC<|Wr<|sR<|aJ (.tuple #[.nilFunc,au ((dn (m.R d) v.o v.dst v.aS).2)]) ?_;have G:sO m v=dn (m.R d) v.o v.dst v.aS:=(by unfold sO; rw[ex]);have j:kK m v=(dn (m.R d) v.o v.dst v.aS).2:=(by unfold kK; rw[b_ (by rw[s]; decide),b_ (by rw[N,q]; decide),G]);exact⟨⟨.nilFunc,0,#[],by rw[j],rfl,fun u=>N_ (j.symm.trans u) (by first|decide|omega|assumption)⟩,K⟩
  rw[U_]at q;refine Rs aF (aL nK.aH b ((Ce (by omega)).trans (M_ Value.bool q))) ?_;refine bf aG<|bf aG<|bS<|aN<|ay<|av (.nilFunc)<|av (au 10)<|aC<|Wr<|bO<|sR<|aJ (.tuple #[.nilFunc,au 10]) ?_;have j:kK m v=10:=by unfold kK; rw[b_ (by rw[s]; decide)]; exact d_ (by rw[N]; exact q)
  exact⟨⟨.nilFunc,0,#[],by rw[j],rfl,fun u=>N_ (j.symm.trans u) (by first|decide|omega|assumption)⟩,X⟩
 refine Rd (v := .tuple #[.agg (aA 54 (rv .i64 (fun _=>0))),.bool false]) (by rfl) (by rfl) (uN _) (fun J k=>Fx.Eu (z := .agg (aA 54 (rv .i64 (fun _=>0)))) rfl rfl rfl (I.up k) Tryz.underlying101 Tryz.underlying28 (by kernel_rfl) jY) ?_;refine bf (.tuple #[.agg (aA 54 (rv .i64 (fun _=>0))),.bool false])<|bf (.agg (aA 54 (rv .i64 (fun _=>0))))<|bf aF<|BA<|uh 54 (rv .i64 (fun _=>0)) fun g4 w7 ad uV s9 z6 => ?_;have Z:=bH s9.old F;have UU:=iV ad F.size;have⟨ady,aoo,adz,aop,adA,adB,adC⟩:=ME ad A.lt m18.lt I.lt m20.lt m21.lt C.lt D.lt;have Rx:=uV.lt;refine Ln ⟨s9.old,?_⟩;refine gQ<|fA uV 0 fun w8 xG s10 z7 => ?_;have wE:aQ w8 g4 54 (rv .i64 (fun _=>0)) 59:=aU xG;have b10:=s10.below Z Z.size (by omega);refine Ln<|bf aF<|bS<|Ws<|Wb<|ay<|av aF<|av aG<|av aG<|aC<|aN<|ay<|av (.nilFunc)<|av (au 9)<|aC<|Wr<|bO<|sR<|aJ (.tuple #[.nilFunc,au 9]) ?_;have j:kK m v=9:=by unfold kK; exact d_ (Ay jY)
 exact⟨⟨.nilFunc,0,#[],by rw[j],rfl,fun u=>N_ (j.symm.trans u) (by first|decide|omega|assumption)⟩,b10⟩
theorem YK(m:dU)(lp B:Nat)(w:World)(h:mD w B lp m)(v:EvM)(I:bR v=true)(b:Nat)(F:b<6)(G:v.dst=(b:Int)+1) :
 Calls Tryz.prog 167 #[(pt lp),.agg (aA 14 (bU v))] w fun e w'=>Ry w B lp m (Hy m v) (0) e w':=by
 have x:=h.c;have R:=h.t;have z:=h.p;have A:=h.r;have y:=h.g;have u:=h.a;have Q:=h.ne;have T:=h.c.lt;have X:=h.t.lt;have V:=h.p.lt;have W:=h.r.lt;have U:=h.g.lt;have S:=h.a.lt;refine Kent Tryz.func167 7 ?_;refine ay<|yZ (pt lp) fun d w1 q k O z1 => ?_;have⟨J,K,L,M,N,n⟩:=um O.old x z A y u (Below.refl w.heap.size w);have Y:=ig q;have⟨aa,ab,ac,ad,ae⟩:=Dq q x.lt z.lt A.lt y.lt u.lt;have al:=k.lt;refine qD fun f D s l P z2 => ?_;have⟨C,o⟩:=fD P.old k n;have Z:=iV s n.size;have⟨ak,af,ag,ah,ai,aj⟩:=IU s J.lt K.lt L.lt M.lt N.lt k.lt;have am:=l.lt;refine av (.nilFunc)<|av (au 0)<|aC<|ay<|Lv (.func (.func 183) #[] #[(pt d),(pt f)]) (Fx.mV (us := []) (vs := [(pt d),(pt f)]) rfl rfl rfl)<|av (.func (.func 183) #[] #[(pt d),(pt f)])<|av (au 0)<|aC<|Wr<|aJ (.tuple #[.func (.func 183) #[] #[(pt d),(pt f)],au 0]) ?_;have E:(0:Int)=0:=rfl;exact⟨⟨_,183,#[(pt d),(pt f)],by rw[E],rfl,fun _=>⟨rfl,⟨_,_,Tryz.func183,rfl,rfl⟩,fun D i=>(Vq m lp B D ((h.up o).up i) v I b F G _ _ (C.cZ (Sb i) (u_ C.lt)) (l.cZ (Sb i) (u_ l.lt))).mono fun _ _ j=>⟨j.1,j.2.1,j.2.2.mono fun _ H => .inl H⟩⟩⟩,o⟩
theorem Vw(m:dU)(lp B:Nat)(w:World)(h:mD w B lp m)(v:EvM)(F:bR v=true) :
 Calls Tryz.prog 168 #[(pt lp),.agg (aA 14 (bU v))] w fun e w'=>Ry w B lp m (Ch m v) (0) e w':=by
 have u:=h.c;have O:=h.t;have y:=h.p;have z:=h.r;have x:=h.g;have s:=h.a;have N:=h.ne;have Q:=h.c.lt;have U:=h.t.lt;have S:=h.p.lt;have T:=h.r.lt;have R:=h.g.lt;have P:=h.a.lt;refine Kent Tryz.func168 7 ?_;refine ay<|yZ (pt lp) fun b w1 o j L z1 => ?_;have⟨G,H,I,J,K,l⟩:=um L.old u y z x s (Below.refl w.heap.size w);have V:=ig o;have⟨X,Y,Z,aa,ab⟩:=Dq o u.lt y.lt z.lt x.lt s.lt;have ai:=j.lt;refine qD fun d C q k M z2 => ?_;have⟨A,n⟩:=fD M.old j l;have W:=iV q l.size;have⟨ah,ac,ad,ae,af,ag⟩:=IU q G.lt H.lt I.lt J.lt K.lt j.lt;have aj:=k.lt;refine av (.nilFunc)<|av (au 0)<|aC<|ay<|Lv (.func (.func 184) #[] #[(pt b),(pt d)]) (Fx.mV (us := []) (vs := [(pt b),(pt d)]) rfl rfl rfl)<|av (.func (.func 184) #[] #[(pt b),(pt d)])<|av (au 0)<|aC<|Wr<|aJ (.tuple #[.func (.func 184) #[] #[(pt b),(pt d)],au 0]) ?_;have D:(0:Int)=0:=rfl;exact⟨⟨_,184,#[(pt b),(pt d)],by rw[D],rfl,fun _=>⟨rfl,⟨_,_,Tryz.func184,rfl,rfl⟩,fun C f=>(QV m lp B C ((h.up n).up f) v F _ _ (A.cZ (Sb f) (u_ A.lt)) (k.cZ (Sb f) (u_ k.lt))).mono fun _ _ i=>⟨i.1,i.2.1,i.2.2.mono fun _ E => .inl E⟩⟩⟩,n⟩
section
open Rt
theorem aoq(o q:Nat)(w:World)(a:1<=o/\o<=6)(c:1<=q/\q<1099511627776) :
 Calls Tryz.prog 169 #[au (o:Int),aD (q:Int)] w fun e w'=>e = .returned (aD (1099511627776*(o:Int)+(q:Int)))/\w'=w:=by
 refine Kent Tryz.func169 24 ?_;refine ay<|av (aD 0)<|aC<|Ws<|ay<|av (au o)<|Lv aF Gy<|av aF<|av (au o)<|Lv aF xQ<|av aF<|av aF<|av (aD q)<|Lv aF Gy<|av aF<|av aF<|av (aD q)<|Lv aF J4<|av aF<|aC<|aK<|Wk<|sN<|ay<|av (au o)<|Lv (aD o) (dA rfl rfl (by kernel_rfl) Tryz.underlying28 (jN (by omega) rfl))<|Lv (aD (1099511627776*(o:Int))) (Fx.JZ (b:=40) rfl rfl rfl (by decide) (jN (by omega) (by omega)))<|av (aD q)<|Lv (aD (1099511627776*(o:Int)+(q:Int))) (Fx.ace rfl rfl rfl (by omega) (by omega))<|av (aD (1099511627776*(o:Int)+(q:Int)))<|aC<|Wr<|aJ (aD (1099511627776*(o:Int)+(q:Int))) ?_;exact⟨rfl,rfl⟩
end
end Go.Proofs.YtahbiajdgealnaaGreatDoor
namespace Go.Proofs.YtahbiajdgealnaaGreatDoor
open Go.RowKit Go
namespace Rt
theorem Ci : ∀(n m:Nat) (f:Nat->Nat),(∀ i,i<m->f i<n)->(∀ i j,i<m->j<m->f i=f j->i=j)->m<=n
 | 0,m,f,h1,_=>by
   rcases Nat.eq_zero_or_pos m with h|h
   ·omega
   ·have:=h1 0 h; omega
 | n+1,m,f,h1,h2=>by
   rcases Nat.eq_zero_or_pos m with h|h
   ·omega
   by_cases d : ∃ a,a<m/\f a=n
   ·obtain⟨a,b,e⟩:=d;have:=Ci n (m-1) (fun j=>f (if j=a then m-1 else j)) (fun j o=>by
     have g:=h1 (if j=a then m-1 else j) (by split <;> omega)
     have k:f (if j=a then m-1 else j)≠n:=fun c=>by
      have:=h2 _ a (by split <;> omega) b (c.trans e.symm)
      split at this <;> omega
     show f _<n;omega) (fun i j l p c=>by
     have:=h2 _ _ (by split <;> omega) (by split <;> omega) c
     split at this <;> split at this <;> omega)
    omega
   ·have:=Ci n m f (fun i b=>by
     have:=h1 i b;have:f i≠n:=fun e=>d ⟨i,b,e⟩;omega) h2
    omega
section
variable {T U:dJ} {id pa k:Int} {i:Nat}
theorem dJ.Ef(h:T.err id pa=0):T.add id pa=T.put id pa:=d_ h
theorem dJ.adD(h : ¬ T.err id pa=0):T.add id pa=T:=b_ h
theorem dJ.zF(hi:i<T.n):T.has (T.x i)=true:=jX hi rfl
theorem dJ.K7(h:T.ok)(hi:i<T.n):T.par (T.x i)=T.p i:=Az h.inj hi rfl
theorem dJ.step(h:T.ok)(a:T.has k=true):T.path k=k::T.path (T.par k):=by
 have b:jv T.x T.p T.n 3 (T.par k):=h.stop k a;show(if dP T.x T.n k=true then k::jy T.x T.p T.n 3 (T.par k)else [])=_;rw[d_ (show dP T.x T.n k=true from a),<- (IW b (show 3<=4 by omega)).1]; rfl
theorem dJ.adE(h:T.ok)(hi:i<T.n):T.path (T.x i)=T.x i::T.path (T.p i):=by rw[dJ.step h (dJ.zF hi),dJ.K7 h hi]
theorem dJ.uf:(T.path k).length<=4:=yM
theorem dJ.adF(h:T.ok):T.path 0 = []:=Br.afQ h 4
theorem uX.zero(T:dJ):uX dJ.zero T:=⟨fun _ h=>(nomatch h),fun _ h=>(nomatch h)⟩
theorem uX.path(b:T.ok)(a:U.ok)(h:uX U T) : ∀(d:Nat) (k:Int),(k=0\/U.has k=true)->jy U.x U.p U.n d k=jy T.x T.p T.n d k
 | 0,_,_=>rfl
 | d+1,k,hk=>by
   rcases hk with rfl|hk
   ·rw[kU (Br.XL a),kU (Br.XL b)]
   ·unfold jy;have c:dP U.x U.n k=true:=hk;have e:dP T.x T.n k=true:=h.has k hk;have f:iC U.x U.p U.n k=iC T.x T.p T.n k:=h.par k hk;rw[d_ c,d_ e,<- f,uX.path b a h d];exact Br.up a hk
theorem uX.lt(s:U.ok)(h:uX U T)(hi:i<T.n)(m:U.has (T.x i)=false):U.n<T.n:=by
 have p : ∀ j,∃ q,j<U.n->q<T.n/\T.x q=U.x j:=fun j=>by
  by_cases g:j<U.n
  ·obtain⟨q,c,d⟩:=gT (h.has _ (dJ.zF g));exact⟨q,fun _=>⟨c,d⟩⟩
  ·exact⟨0,fun h=>N_ h g⟩
 obtain⟨f,k⟩:=Classical.axiomOfChoice p;have:=Ci T.n (U.n+1) (fun j=>if j=U.n then i else f j) (fun j g=>by
  show(if j=U.n then i else f j)<T.n;split
  ·exact hi
  ·exact(k j (by omega)).1) (fun a b t u e=>by
  have o : ∀ j,j<U.n->f j≠i:=fun j g e=>by
   have c:=(k j g).2;rw[e]at c;rw[c,dJ.zF g]at m; cases m
  have e:(if a=U.n then i else f a)=(if b=U.n then i else f b):=e;by_cases c:a=U.n
  ·by_cases d:b=U.n
   ·omega
   ·rw[d_ c,b_ d]at e; exact N_ e.symm (o b (by omega))
  ·by_cases d:b=U.n
   ·rw[b_ c,d_ d]at e; exact N_ e (o a (by omega))
   ·rw[b_ c,b_ d]at e;have l:=(k a (by omega)).2;have r:=(k b (by omega)).2;rw[e]at l;exact s.inj a b (by omega) (by omega) (l.symm.trans r))
 omega
theorem uX.add(d:T.ok)(g:U.ok)(h:uX U T)(hi:i<T.n)(j:T.p i=0\/U.has (T.p i)=true) :
 uX (U.add (T.x i) (T.p i)) T/\(U.add (T.x i) (T.p i)).has (T.x i)=true /\ ∀ k,U.has k=true->(U.add (T.x i) (T.p i)).has k=true:=by
 cases hh:U.has (T.x i)with
 | true =>
   have e:U.add (T.x i) (T.p i)=U:=by
    refine dJ.adD fun m => ?_;have:=(Ey m).2.1;rw[show dP U.x U.n (T.x i)=U.has (T.x i)from rfl,hh]at this; cases this
   rw[e]; exact⟨h,hh,fun _ h=>h⟩
 | false =>
   have s:=(d.pos i hi).1;have q:=uX.lt g h hi hh;have r:=d.small;have l:U.err (T.x i) (T.p i)=0:=by
    unfold dJ.err rz;rw[b_ (by omega),b_ (by rw[show dP U.x U.n (T.x i)=U.has (T.x i)from rfl,hh]; decide),b_,b_]
    ·rintro (b|b)
     ·omega
     ·have f:=uX.path d g h 4 (T.p i) j;rw[f]at b;have c:=dJ.adE d hi;have o:(T.path (T.x i)).length<=4:=dJ.uf;rw[c,List.length_cons]at o;have b:4<=(T.path (T.p i)).length:=b;omega
    ·rintro ⟨b,f⟩
     rcases j with c|c
     ·exact b c
     ·rw[show dP U.x U.n (T.p i)=U.has (T.p i)from rfl,c]at f; cases f
   rw[dJ.Ef l];refine⟨⟨fun k a => ?_,fun k a => ?_⟩,?_,fun k a => ?_⟩
   ·rw[dJ.jD,Bool.or_eq_true]at a
    rcases a with a|a
    ·exact h.has k a
    ·rw[<- h_ a]; exact dJ.zF hi
   ·rw[dJ.jD,Bool.or_eq_true]at a;rw[dJ.tO];split
    ·rename_i e; subst e; exact(dJ.K7 d hi).symm
    ·rename_i e
     rcases a with a|a
     ·exact h.par k a
     ·exact N_ (h_ a) e
   ·rw[dJ.jD,f_ rfl,Bool.or_true]
   ·rw[dJ.jD,a,Bool.true_or]
structure K8(T U:dJ)(r k:Nat):Prop where
 sub:uX U T
 fst : ∀ j,j<r->j<T.n->U.has (T.x j)=true
 nxt:k<=r->r<T.n->U.has (T.x r)=true
theorem K8.start(T:dJ) : ∀ {r:Nat},r=0->K8 T dJ.zero r T.n:=fun e=>⟨uX.zero T,fun j h=>by omega,fun a b=>by omega⟩
theorem K8.add{r k:Nat}(f:T.ok)(g:U.ok)(h:K8 T U r k)(m:0<k)(o:k<=T.n)(l:T.p (k-1)=0\/U.has (T.p (k-1))=true):K8 T (U.add (T.x (k-1)) (T.p (k-1))) r (k-1):=by
 obtain⟨c,d,b⟩:=uX.add f g h.sub (show k-1<T.n by omega) l;refine⟨c,fun j i a=>b _ (h.fst j i a),fun q a => ?_⟩;by_cases e:k<=r
 ·exact b _ (h.nxt e a)
 obtain rfl:r=k-1:=by omega
 exact d
theorem K8.skip{r k:Nat}(b:T.ok)(h:K8 T U r k)(f:0<k)(g:k<=T.n)(d : ¬ T.p (k-1)=0)(a:U.has (T.p (k-1))=false):K8 T U r (k-1):=by
 refine⟨h.sub,h.fst,fun j c => ?_⟩;by_cases e:k<=r
 ·exact h.nxt e c
 obtain rfl:r=k-1:=by omega
 rcases b.par (k-1) (by omega)with h1|⟨i,hi,h1⟩
 ·exact N_ h1 d
 rw[<- h1,h.fst i hi (by omega)]at a; cases a
theorem K8.next{r:Nat}(h:K8 T U r 0):K8 T U (r+1) T.n :=
 ⟨h.sub,fun j d a=>by
  by_cases e:j=r
  ·subst e; exact h.nxt (L_ _) a
  ·exact h.fst j (by omega) a,fun b c=>by omega⟩
theorem K8.all{r k:Nat}(h:K8 T U r k)(hr:T.n<=r) : ∀ k,T.has k=true->U.has k=true:=fun k b=>by
 obtain⟨j,a,rfl⟩:=gT b;exact h.fst j (by omega) a
theorem K8.path{r k:Nat}(h:K8 T U r k)(hr:T.n<=r)(q:Int):U.path q=T.path q:=h.sub.same (h.all hr) q
theorem K8.list{r k:Nat}(h:K8 T U r k)(hr:T.n<=r){l m:List Int}(a:l.Pairwise (· < ·) /\ ∀ k,k∈l<->T.has k=true)(b:m.Pairwise (· < ·) /\ ∀ k,k∈m<->U.has k=true):m=l :=
 uS b.1 a.1 fun k=>(b.2 k).trans (Iff.trans ⟨h.sub.has k,h.all hr k⟩ (a.2 k).symm)
end
def Rz(l:List Int)(v:Int)(n:Nat)(b:Bool):Prop:=b=true <-> ∃ j,j<n/\j<l.length/\l.getD j 0=v
theorem Rz.zero(l:List Int)(v:Int):Rz l v 0 false:=⟨fun h=>(nomatch h),fun⟨j,h,_⟩=>N_ h (z_ _)⟩
theorem Rz.keep{l:List Int}{v:Int}{n:Nat}(h:Rz l v n true):Rz l v (n+1) true:=⟨fun _=>by obtain⟨j,b,a⟩:=h.1 rfl; exact⟨j,by omega,a⟩,fun _=>rfl⟩
theorem Rz.yes{l:List Int}{v:Int}{n:Nat}(a:n<l.length)(e:l.getD n 0=v):Rz l v (n+1) true:=⟨fun _=>⟨n,by omega,a,e⟩,fun _=>rfl⟩
theorem Rz.no{l:List Int}{v:Int}{n:Nat}(h:Rz l v n false)(e : ¬ l.getD n 0=v):Rz l v (n+1) false:=⟨fun h=>(nomatch h),fun⟨j,d,c,a⟩=>by
 by_cases b:j=n
 ·subst b; exact N_ a e
 ·exact h.2 ⟨j,by omega,c,a⟩⟩
theorem Rz.mem{l:List Int}{v:Int}{n:Nat}{b:Bool}(h:Rz l v n b)(i:l.length<=n):b=true<->v∈l:=by
 constructor
 ·intro f;obtain⟨j,_,c,d⟩:=h.1 f;exact uT c d
 intro g;obtain⟨j,a,e⟩:=List.getElem_of_mem g;refine h.2 ⟨j,by omega,a,?_⟩;rw[r_,o_ a]; exact e
end Rt
namespace Rt
def YL(x:Nat->Int)(v:Int)(j aq:Nat):Prop:=(aq=0 /\ ∀ q,q<j->x q≠v)\/(0<aq/\aq<=j/\x (aq-1)=v)
section
variable {x:Nat->Int} {v:Int} {j aq:Nat}
theorem YL.zero:YL x v 0 0 := .inl ⟨rfl,fun _ h=>N_ h (z_ _)⟩
theorem YL.yes(e:x j=v):YL x v (j+1) (j+1) := .inr ⟨by omega,by omega,e⟩
theorem YL.no(h:YL x v j aq)(e : ¬ x j=v):YL x v (j+1) aq:=by
 rcases h with ⟨a,b⟩|⟨a,b,h3⟩
 ·refine .inl ⟨a,fun q d => ?_⟩;by_cases c:q=j
  ·subst c; exact e
  exact b q (by omega)
 exact .inr ⟨a,by omega,h3⟩
end
section
variable {x p:Nat->Int} {n:Nat}
theorem rW : ∀ {d:Nat} {v:Int},jv x p n d v -> ∀ k,k<(jy x p n d v).length->dP x n ((jy x p n d v).getD k 0)=true /\
 (k+1<(jy x p n d v).length->(jy x p n d v).getD (k+1) 0=iC x p n ((jy x p n d v).getD k 0))/\(k+1=(jy x p n d v).length->dP x n (iC x p n ((jy x p n d v).getD k 0))=false)
 | 0,v,h,k,hk=>N_ hk (z_ _)
 | d+1,v,h,k,hk=>by
   cases hv:dP x n v with
   | false=>rw[kU hv]at hk; exact N_ hk (z_ _)
   | true =>
     have e:jy x p n (d+1) v=v::jy x p n d (iC x p n v):=(by show(if _ then _ else _)=_; rw[d_ hv]);have c:jv x p n d (iC x p n v):=h hv;have i := @rW d (iC x p n v) c;have g:0<(jy x p n d (iC x p n v)).length->(jy x p n d (iC x p n v)).getD 0 0=iC x p n v:=fun a=>by
      cases d with
      | zero=>exact N_ a (z_ _)
      | succ d =>
        unfold jy at a ⊢;split at a
        ·rename_i hq; rw[d_ hq]; rfl
        ·exact N_ a (z_ _)
     rw[e]at hk ⊢;rw[List.length_cons]at hk ⊢
     cases k with
     | zero =>
       rw[List.getD_cons_zero,List.getD_cons_succ];refine⟨hv,fun b=>g (by omega),fun b => ?_⟩
       cases hq:dP x n (iC x p n v)with
       | false=>rfl
       | true =>
         obtain⟨j,_,_,f⟩:=GD c hq;rw[f,List.length_cons]at b; omega
     | succ k =>
       rw[List.getD_cons_succ,List.getD_cons_succ];have:=i k (by omega);exact⟨this.1,fun b=>this.2.1 (by omega),fun b=>this.2.2 (by omega)⟩
end
section
variable {T:dJ} {id pa k v:Int} {i j aq:Nat} {pl:List Int}
theorem YL.get(h:YL T.x v T.n aq)(d:T.has v=true):0<aq/\aq-1<T.n/\T.x (aq-1)=v:=by
 rcases h with ⟨a,b⟩|⟨a,b,h3⟩
 ·obtain⟨q,c,e⟩:=gT d;exact N_ e (b q c)
 exact⟨a,by omega,h3⟩
theorem dJ.Nu(h:T.ok)(e:pl=T.path v){q:Nat}(a:q<pl.length):T.has (pl.getD q 0)=true:=by
 subst e; exact(rW (h.stop v) q a).1
theorem dJ.YM(h:T.ok)(e:pl=T.path v){q:Nat}(b:q+1<pl.length)(ha:aq-1<T.n)(hx:T.x (aq-1)=pl.getD q 0):T.p (aq-1)=pl.getD (q+1) 0:=by
 subst e;have:=(rW (h.stop v) q (Nat.lt_of_succ_lt b)).2.1 b;have a:=dJ.K7 h ha;rw[hx]at a;exact a.symm.trans this.symm
theorem dJ.YN(h:T.ok)(e:pl=T.path v){q:Nat}(c:q+1=pl.length)(ha:aq-1<T.n)(hx:T.x (aq-1)=pl.getD q 0):T.p (aq-1)=0:=by
 subst e;have a:=(rW (h.stop v) q (Nat.lt_of_succ_le (Nat.le_of_eq c))).2.2 c;have b:=dJ.K7 h ha;rw[hx]at b;rw[show iC T.x T.p T.n ((jy T.x T.p T.n 4 v).getD q 0)=T.p (aq-1)from b]at a
 rcases h.par _ ha with h4|⟨i,hi,h4⟩
 ·exact h4
 rw[<- h4,jX (by omega) rfl]at a; cases a
theorem dJ.adG(d : ¬ id=0)(e:pa=0\/T.has pa=true):T.err id pa=if T.has id=true then 14 else if 32<=T.n\/4<=(T.path pa).length then 6 else 0:=by
 show rz T.x T.p T.n id pa=_;unfold rz;rw[b_ d];have c : ¬ (¬ pa=0/\dP T.x T.n pa=false):=by
  rintro ⟨b,a⟩
  rcases e with h3|h3
  ·exact b h3
  ·rw[show dP T.x T.n pa=T.has pa from rfl,h3]at a; cases a
 rw[b_ c]; rfl
end
def Apt(v1 v2:Value):Prop := ∀ g,v1.ownBlock=some g->v2.ownBlock≠some g
section
variable {w w':World} {v v2:Value} {B s n g m c:Nat} {E:TypeId} {x:Nat->Value}
theorem Apt.symm(h:Apt v v2):Apt v2 v:=fun g a b=>h g b a
theorem Apt.nil:Apt (.slice none 0 0) v:=fun g h=>nomatch h
theorem Apt.app(h:Apt v v2)(b:Fx.Own w B E s v n x)(d:v2.ownBlock=some g\/g=w.heap.size):Apt v (bM g m c):=fun q a e=>by
 have e:some g=some q:=e;obtain rfl:=C_ e
 rcases d with h1|h1
 ·exact h _ a h1
 ·have:=(b.ge a).2; omega
end
end Rt
namespace Rt
def F7(n:Nat):Nat->List Nat
 | 0 => []
 | j+1=>F7 n j ++ [n-1-j]
theorem O7(n:Nat) : ∀ j,(F7 n j).length=j
 | 0=>rfl
 | j+1=>by unfold F7; rw[G_,O7 n j]; rfl
def Me(T:dJ)(l:List Int)(a:List Nat):dJ:=a.foldl (fun U x=>U.add (l.getD x 0) (T.par (l.getD x 0))) dJ.zero
theorem FB(T:dJ)(l:List Int)(a:List Nat)(x:Nat):Me T l (a ++ [x])=(Me T l a).add (l.getD x 0) (T.par (l.getD x 0)):=by unfold Me; rw[List.foldl_append]; rfl
def lD(l ll:List Int)(U:dJ):Nat->dJ
 | 0=>U
 | i+1=>if ll.getD i 0∈l then lD l ll U i else(lD l ll U i).add (ll.getD i 0) 0
section
variable {T U:dJ} {l ll:List Int} {id pa k v:Int} {i j n:Nat}
theorem has_lt(t:U.ok)(h : ∀ k,U.has k=true->T.has k=true)(hx:T.has v=true)(o:U.has v=false):U.n<T.n:=by
 obtain⟨i,u,rfl⟩:=gT hx;have r : ∀ j,∃ q,j<U.n->q<T.n/\T.x q=U.x j:=fun j=>by
  by_cases g:j<U.n
  ·obtain⟨q,c,d⟩:=gT (h _ (dJ.zF g));exact⟨q,fun _=>⟨c,d⟩⟩
  ·exact⟨0,fun h=>N_ h g⟩
 obtain⟨f,l⟩:=Classical.axiomOfChoice r;have:=Ci T.n (U.n+1) (fun j=>if j=U.n then i else f j) (fun j g=>by
  show(if j=U.n then i else f j)<T.n;split
  ·exact u
  ·exact(l j (by omega)).1) (fun a b w y e=>by
  have p : ∀ j,j<U.n->f j≠i:=fun j g e=>by
   have c:=(l j g).2;rw[e]at c;rw[c,dJ.zF g]at o; cases o
  have e:(if a=U.n then i else f a)=(if b=U.n then i else f b):=e;by_cases c:a=U.n
  ·by_cases d:b=U.n
   ·omega
   ·rw[d_ c,b_ d]at e; exact N_ e.symm (p b (by omega))
  ·by_cases d:b=U.n
   ·rw[b_ c,d_ d]at e; exact N_ e (p a (by omega))
   ·rw[b_ c,b_ d]at e;have m:=(l a (by omega)).2;have s:=(l b (by omega)).2;rw[e]at m;exact t.inj a b (by omega) (by omega) (m.symm.trans s))
 omega
theorem Vx(p:U.ok)(h : ∀ k,U.has k=true->T.has k=true):U.n<=T.n:=by
 have l : ∀ j,∃ q,j<U.n->q<T.n/\T.x q=U.x j:=fun j=>by
  by_cases i:j<U.n
  ·obtain⟨q,m,o⟩:=gT (h _ (dJ.zF i));exact⟨q,fun _=>⟨m,o⟩⟩
  ·exact⟨0,fun h=>N_ h i⟩
 obtain⟨f,c⟩:=Classical.axiomOfChoice l;exact Ci T.n U.n f (fun q r=>(c q r).1) fun a b d g e=>p.inj a b d g (by rw[<- (c a d).2,<- (c b g).2,e])
structure BwI(T U:dJ)(l:List Int)(j:Nat):Prop where
 ok:U.ok
 sub:uX U T
 has : ∀ x,l.length-j<=x->x<l.length->U.has (l.getD x 0)=true
 only : ∀ k,U.has k=true->k∈l
theorem Vy(a:T.ok)(hi:i<T.n):0<=T.x i/\T.x i<=18446744073709551615:=by have:=a.pos i hi; omega
theorem YO(U:dJ)(id pa k:Int)(h:(U.add id pa).has k=true):U.has k=true\/k=id:=by
 unfold dJ.add at h;split at h
 ·rw[dJ.jD,Bool.or_eq_true]at h
  rcases h with h|h
  ·exact .inl h
  exact .inr (h_ h).symm
 exact .inl h
theorem Vz(a:T.ok)(e:l=T.path pa) : ∀ j,j<=l.length->BwI T (Me T l (F7 l.length j)) l j
 | 0,_=>⟨Br.zero _ _,uX.zero T,fun x g c=>by omega,fun k h=>nomatch h⟩
 | j+1,hj=>by
   have d:=Vz a e j (by omega);have m:l.length-1-j<l.length:=(by omega);have t:T.has (l.getD (l.length-1-j) 0)=true:=dJ.Nu a e m;obtain⟨i,f,b⟩:=gT t;have n:T.par (l.getD (l.length-1-j) 0)=T.p i:=(by rw[<- b]; exact dJ.K7 a f);show BwI T (Me T l (F7 l.length j ++ [l.length-1-j])) l (j+1);rw[FB,n,<- b];have s:T.p i=0\/(Me T l (F7 l.length j)).has (T.p i)=true:=by
    by_cases r:l.length-1-j+1=l.length
    ·exact .inl (dJ.YN (aq:=i+1) a e r f b)
    ·have c:=dJ.YM (aq:=i+1) a e (show l.length-1-j+1<l.length by omega) f b;have c:T.p i=l.getD (l.length-1-j+1) 0:=c;right;rw[c];exact d.has _ (by omega) (by omega)
   obtain⟨u,v,w⟩:=uX.add a d.ok d.sub f s;refine⟨dJ.IZ d.ok (Vy a f),u,fun x g c => ?_,fun k q => ?_⟩
   ·by_cases o:x=l.length-1-j
    ·rw[o,<- b]; exact v
    ·exact w _ (d.has x (by omega) c)
   ·rcases YO _ _ _ _ q with g|rfl
    ·exact d.only k g
    ·rw[b];rw[r_,o_ m]; exact R_ m
structure RtI(T U:dJ)(l ll:List Int)(i:Nat):Prop where
 ok:U.ok
 sub : ∀ k,U.has k=true->T.has k=true
 par : ∀ k,k∈l->U.has k=true/\U.par k=T.par k
 has : ∀ q,q<i->q<ll.length->U.has (ll.getD q 0)=true
 only : ∀ k,U.has k=true->k∈l \/ ∃ q,q<i/\q<ll.length/\ll.getD q 0=k
theorem adH(d:ll.Pairwise (· < ·)){a b:Nat}(ha:a<ll.length)(c:b<ll.length)(e:ll.getD a 0=ll.getD b 0):a=b:=by
 rw[r_,r_,o_ ha,o_ c]at e;have e:ll[a]=ll[b]:=e
 rcases Nat.lt_trichotomy a b with h1|h1|h1
 ·have:=List.pairwise_iff_getElem.1 d a b ha c h1; omega
 ·exact h1
 have:=List.pairwise_iff_getElem.1 d b a c ha h1; omega
theorem VA(d:T.ok)(g:ll.Pairwise (· < ·) /\ ∀ k,k∈ll<->T.has k=true)(n:RtI T U l ll 0) : ∀ i,i<=ll.length->RtI T (lD l ll U i) l ll i
 | 0,_=>n
 | i+1,hi=>by
   have b:=VA d g n i (by omega);unfold lD;have s:ll.getD i 0∈ll:=(by rw[r_,o_ (by omega)]; exact R_ _);have f:=(g.2 _).1 s;by_cases c:ll.getD i 0∈l
   ·rw[d_ c];refine⟨b.ok,b.sub,b.par,fun q v h => ?_,fun k a => ?_⟩
    ·by_cases e:q=i
     ·rw[e]; exact(b.par _ c).1
     ·exact b.has q (by omega) h
    ·rcases b.only k a with h1|⟨q,h1,h2,h3⟩
     ·exact .inl h1
     ·exact .inr ⟨q,by omega,h2,h3⟩
   ·rw[b_ c];obtain⟨z,r,m⟩:=gT f;have o:=Vy d r;rw[m]at o;have u:=d.pos z r;rw[m]at u;have p:(lD l ll U i).has (ll.getD i 0)=false:=by
     cases hh:(lD l ll U i).has (ll.getD i 0)with
     | false=>rfl
     | true =>
       rcases b.only _ hh with h1|⟨q,h1,h2,h3⟩
       ·exact N_ h1 c
       ·have:=adH g.1 h2 (by omega) h3; omega
    have w:=has_lt b.ok b.sub f p;have x:=d.small;have j:(lD l ll U i).err (ll.getD i 0) 0=0:=by
     rw[dJ.adG (by omega) (.inl rfl),b_ (by rw[p]; decide),b_];rw[dJ.adF b.ok];rintro (h1|h1)
     ·omega
     ·simp at h1
    rw[dJ.Ef j];have t : ∀ k,k∈l -> ¬ ll.getD i 0=k:=fun k a e=>c (e ▸ a);refine⟨by have:=dJ.IZ (pa:=0) b.ok o; rwa [dJ.Ef j]at this,fun k a => ?_,fun k a => ?_,fun q v h => ?_,fun k a => ?_⟩
    ·rw[dJ.jD,Bool.or_eq_true]at a
     rcases a with a|a
     ·exact b.sub k a
     ·rw[<- h_ a]; exact f
    ·rw[dJ.jD,dJ.tO,b_ (t k a),(b.par k a).1,Bool.true_or];exact⟨rfl,(b.par k a).2⟩
    ·rw[dJ.jD];by_cases e:q=i
     ·rw[e,f_ rfl,Bool.or_true]
     ·rw[b.has q (by omega) h,Bool.true_or]
    ·rw[dJ.jD,Bool.or_eq_true]at a
     rcases a with a|a
     ·rcases b.only k a with h1|⟨q,h1,h2,h3⟩
      ·exact .inl h1
      ·exact .inr ⟨q,by omega,h2,h3⟩
     ·exact .inr ⟨i,by omega,by omega,h_ a⟩
theorem HY(c : ∀ k,U.has k=T.has k) : ∀(d:Nat) (k:Int),(∀ q,q∈jy T.x T.p T.n d k->U.par q=T.par q)->jy U.x U.p U.n d k=jy T.x T.p T.n d k
 | 0,_,_=>rfl
 | d+1,k,h=>by
   have a:dP U.x U.n k=dP T.x T.n k:=c k
   cases hk:dP T.x T.n k with
   | false=>rw[kU hk,kU (a.trans hk)]
   | true =>
     have b:jy T.x T.p T.n (d+1) k=k::jy T.x T.p T.n d (iC T.x T.p T.n k):=(by show(if _ then _ else _)=_; rw[d_ hk]);have e:jy U.x U.p U.n (d+1) k=k::jy U.x U.p U.n d (iC U.x U.p U.n k):=(by show(if _ then _ else _)=_; rw[d_ (a.trans hk)]);rw[b]at h;have f:iC U.x U.p U.n k=iC T.x T.p T.n k:=h k (List.mem_cons_self ..);rw[b,e,f,HY c d _ fun q g=>h q (List.mem_cons_of_mem _ g)]
theorem YP(i:T.ok)(e:l=T.path pa)(m:ll.Pairwise (· < ·) /\ ∀ k,k∈ll<->T.has k=true):(lD l ll (Me T l (F7 l.length l.length)) ll.length).err id pa=T.err id pa:=by
 have d:=Vz i e l.length (A_ _);have t : ∀ k,k∈l -> ∃ x,x<l.length/\l.getD x 0=k:=fun k a=>by
  obtain⟨x,h,r⟩:=List.getElem_of_mem a;exact⟨x,h,by rw[r_,o_ h]; exact r⟩
 have s:RtI T (Me T l (F7 l.length l.length)) l ll 0:=⟨d.ok,d.sub.has,fun k a=>by
  obtain⟨x,h,rfl⟩:=t k a;have:=d.has x (by omega) h;exact⟨this,d.sub.par _ this⟩,fun q b=>by omega,fun k a => .inl (d.only k a)⟩
 have c:=VA i m s ll.length (A_ _);generalize lD l ll (Me T l (F7 l.length l.length)) ll.length=V at c;have g : ∀ k,V.has k=T.has k:=fun k=>by
  cases f:T.has k with
  | false =>
    cases j:V.has k with
    | false=>rfl
    | true=>rw[c.sub k j]at f; cases f
  | true =>
    obtain⟨q,b,o⟩:=List.getElem_of_mem ((m.2 k).2 f);have:=c.has q b b;rw[r_,o_ b]at this;rw[<- o]; exact this
 have u:V.n=T.n:=by
  have f:=Vx c.ok c.sub;have j:=Vx i (fun k a=>by rw[g]; exact a : ∀ k,T.has k=true->V.has k=true);omega
 have v:V.path pa=T.path pa:=HY g 4 pa fun q b=>(c.par q (by rw[e]; exact b)).2;show rz V.x V.p V.n id pa=rz T.x T.p T.n id pa;unfold rz;have w:jy V.x V.p V.n 4 pa=jy T.x T.p T.n 4 pa:=v;rw[show dP V.x V.n id=dP T.x T.n id from g id,show dP V.x V.n pa=dP T.x T.n pa from g pa,w,u]
end
end Rt
namespace Fx
abbrev yx:=Exit->(Nat->Value)->List Deferred->World->Prop
def VB(n:Nat)(Q:yx):Exit->Act->World->Prop:=fun e a w => ∃ f,Ai a n f/\Q e f a.defers w
def W0(ro:Option Nat)(m:Nat)(P:Program)(n:Nat)(c:Code)(Q:yx)(f:Nat->Value)(ds:List Deferred)(w:World):Prop := ∀ a,Ai a n f->a.defers=ds->c.wpIn (FR ro) m P (VB n Q) a w
def VD(ro:Option Nat)(m:Nat)(P:Program)(n:Nat)(y:Code)(Q:yx):yx:=fun e f ds w=>match e with | .normal=>W0 ro m P n y Q f ds w|e=>Q e f ds w
def Bh(id:Nat)(Q:yx):yx:=fun e f ds w=>match e with | .exit id'=>if id'=id then Q .normal f ds w else Q (.exit id') f ds w|e=>Q e f ds w
def Nv(I:(Nat->Value)->World->Prop)(b:(Nat->Value)->World->Nat)(k:Nat)(ds:List Deferred)(Q:yx):yx:=fun e f a w=>match e with | .normal=>a=ds/\I f w/\b f w<k|e=>Q e f a w
section
variable {ro:Option Nat} {m:Nat} {ds:List Deferred} {P:Program} {n:Nat} {Q:yx} {f:Nat->Value} {w:World}
theorem W0.seq{x y:Code}(h:W0 ro m P n x (VD ro m P n y Q) f ds w):W0 ro m P n (.seq x y) Q f ds w:=fun a i j =>
 wpIn_seq (wpIn_mono (h a i j) fun e d w' b=>by
  obtain⟨g,c,b⟩:=b
  cases e <;> first|exact b d c rfl|exact⟨g,c,b⟩)
theorem W0.skip(h:Q .normal f ds w):W0 ro m P n .skip Q f ds w:=fun _ a b=>wpIn_skip ⟨f,a,b ▸ h⟩
theorem W0.ret(h:Q .ret f ds w):W0 ro m P n .ret Q f ds w:=fun _ a b=>wpIn_ret ⟨f,a,b ▸ h⟩
theorem W0.exit{id:Nat}(h:Q (.exit id) f ds w):W0 ro m P n (.exit id) Q f ds w:=fun _ a b=>wpIn_exit ⟨f,a,b ▸ h⟩
theorem W0.block{id:Nat}{c:Code}(h:W0 ro m P n c (Bh id Q) f ds w):W0 ro m P n (.block id c) Q f ds w:=fun a i j =>
 wpIn_block (wpIn_mono (h a i j) fun e k w' b=>by
  obtain⟨d,g,b⟩:=b
  cases e <;> first
   | exact⟨d,g,b⟩
   | (simp only[Bh]at b; simp only[Exit.inBlock]; split at b <;> rename_i hid <;> simp only[hid,if_true,if_false] <;> exact⟨d,g,b⟩))
theorem W0.cond{c:Operand}{x y:Code}{b:Bool}(h:ev f c = .bool b)(j:b=true->W0 ro m P n x Q f ds w)(i:b=false->W0 ro m P n y Q f ds w):W0 ro m P n (.cond c x y) Q f ds w:=fun a d g =>
 wpIn_cond_split (t:=b) (by rw[d.ev]; exact h) (fun e=>j e a d g) (fun e=>i e a d g)
theorem W0.loop{c:Code}(I:(Nat->Value)->World->Prop)(k:(Nat->Value)->World->Nat)(r:I f w)(hr : ∀ f w,I f w->W0 ro m P n c (Nv I k (k f w) ds Q) f ds w):W0 ro m P n (.loop c) Q f ds w:=fun a s h =>
 wpIn_loop (fun a w => ∃ f,Ai a n f/\a.defers=ds/\I f w) (fun a w=>k (fun i=>a.tmps.getD i undef) w) ⟨f,s,h,r⟩ (fun a w g=>by
  obtain⟨f,l,h,g⟩:=g;have e:(fun i=>a.tmps.getD i undef)=f:=funext l.get;refine wpIn_mono (hr f w g a l h)<|fun p o w' b => ?_;obtain⟨d,j,b⟩:=b
  cases p <;> first
   | exact⟨d,j,b⟩
   | (have q:(fun i=>o.tmps.getD i undef)=d:=funext j.get
      exact⟨⟨d,j,b.1,b.2.1⟩,by rw[e,q]; exact b.2.2⟩))
theorem W0.list{id:Nat}{ops:List Oper}(h:L P n ops.toArray (fun e f w=>Q e f ds w) ops f w)(k:ops.all jW=true:=by rfl):W0 ro m P n (.region id ops.toArray false) Q f ds w:=fun a i j =>
 GA i h k fun e l w' ⟨b,c,d,g⟩=>⟨b,c,by rw[d,j]; exact g⟩
theorem qY{y:Code}(h:W0 ro m P n y Q f ds w):VD ro m P n y Q .normal f ds w:=h
theorem ahx{id:Nat}{y:Code}(h:Q (.exit id) f ds w):VD ro m P n y Q (.exit id) f ds w:=h
theorem K9{id:Nat}(h:Q .normal f ds w):Bh id Q .normal f ds w:=h
theorem ahy{id:Nat}(h:Q .normal f ds w):Bh id Q (.exit id) f ds w:=by simp only[Bh,if_true]; exact h
theorem aot{I:(Nat->Value)->World->Prop}{a:(Nat->Value)->World->Nat}{k id:Nat}(h:Q (.exit id) f ds w):Nv I a k ds Q (.exit id) f ds w:=h
theorem ahz{I:(Nat->Value)->World->Prop}{a:(Nat->Value)->World->Nat}{k:Nat}(h:I f w)(b:a f w<k):Nv I a k ds Q .normal f ds w:=⟨rfl,h,b⟩
def aat(P:Program)(m:Nat)(b:Func)(R:Ending->World->Prop):yx:=fun e f ds w => ∀ a,Ai a b.ntmps f->a.defers=ds->bodyPostM (FR none) m P b R e a w
theorem adI{g:FuncId}{b:Func}{c:Code}{args:Array Value}{R:Ending->World->Prop}(m:Nat)(k:P.funcs[g]? = some b)(j:b.body=some c)(f:b.ntmps=n)(ha:Nat.ble args.size n=true)(h:W0 none m P n c (aat P m b R) (start args) [] w):Calls P g args w R:=by
 have q:args.size<=n:=Nat.le_of_ble_eq_true ha;refine(callsIn_wide (n:=m)).1 (callsIn_of_wp_marks (F:=FR none) k j trivial ?_ rfl);refine wpIn_mono (h _ ⟨?_,?_⟩ rfl) fun e a w' ⟨p,l,o⟩=>o a (by rw[f]; exact l) rfl
 ·simp[f]; omega
 intro i;simp only[start,Array.getD_eq_getD_getElem?,Array.getElem?_append,Array.getElem?_replicate];by_cases d:i<args.size
 ·simp[d]
 rw[b_ d];split
 ·rw[Array.getElem?_eq_none (by omega)]; rfl
 rw[Array.getElem?_eq_none (by omega)]
theorem leaveD{b:Func}{R:Ending->World->Prop}{D:Nat}{v:Value}(c:w.heap[D]? = some (.deferred (some [])))(h:(Aq b f).run P (w.putObj D (.deferred none)) = .ok v (w.putObj D (.deferred none)))(d:R (.returned v) (w.putObj D (.deferred none))) :
 aat P m b R .ret f [{ target := .collected D,args := #[] }] w:=fun a e g=>leave1 e g c h d
variable {ops:List Oper} {cs:List Nat} {S:World->World->Prop}
theorem R.ahA(T:lV n ops=true)(hsel:Region.noSelect ops.toArray=true)(aa:ops.all jW=true)(hS : ∀ w,S w w)(hT : ∀ a b c,S a b->S b c->S a c){fM:List (Nat × Nat × List Nat)} : ∀(k:Nat) (u:List Nat) (p:Array Bool) (a:Act) (f:Nat->Value) (w:World),u.length=k->p.size=ops.length->JJ ops.toArray .any p ->
 (∀ i,i∈u<->i<ops.length/\p.getD i false=false)->u.Nodup->(u.Pairwise fun i j=>qB ops cs fM i j=true)->Ai a n f->a.defers=ds->R P n ops cs S (fun e f w=>Q e f ds w) u f w->wpAnyIn (FR ro) m P .any ops.toArray (VB n Q) k p a w:=by
 intro k
 induction k with
 | zero =>
   intro u p a f w F ac J x G H A L h;have:u = []:=List.eq_nil_of_length_eq_zero F;subst this;refine⟨?_,f,A,by rw[L]; exact h⟩;rw[List.eq_nil_iff_forall_not_mem];intro j E;obtain⟨z,s,_,_⟩:=fK E;exact N_ ((x j).2 ⟨s,z⟩) (by simp)
 | succ k ih =>
   intro u p a f w F ac J x G H A L h;refine⟨fun hr => ?_,fun j E => ?_⟩
   ·cases u with
    | nil=>simp at F
    | cons r akS =>
      exfalso;obtain⟨z,s⟩:=(x r).1 (List.mem_cons_self ..);have:r∈Region.ready .any ops.toArray p:=by
       refine mem_ready.2 ⟨getD_in (by omega) s,opAt ops r,by unfold opAt; rw[List.getElem?_toArray,r_,o_ z]; rfl,fun e M C => ?_⟩;have B:dG (opAt ops r) e.on=true:=by
        unfold dG; rw[Array.any_eq_true']; exact⟨e,M,by rw[C,Nat.beq_refl]; rfl⟩
       have hlt:=(fG T z).2.2.2 e.on B
       cases hle:p.getD e.on false with
       | true=>rfl
       | false =>
         have g:=(x e.on).2 ⟨by omega,hle⟩
         rcases List.mem_cons.1 g with e1|e1
         ·omega
         ·have o:=(List.pairwise_cons.1 H).1 _ e1;unfold qB at o;rw[B]at o; simp at o
      rw[hr]at this; simp at this
   ·obtain⟨z,s,W,X⟩:=fK E;have hjm:=(x j).2 ⟨s,z⟩;obtain⟨t,y,rfl⟩:=List.append_of_mem hjm;have C:=bubble (P:=P) (cs:=cs) (S:=S) (Q:=fun e f w=>Q e f ds w) T hsel hS hT s (l:=y) t (fun i N=>by
     obtain⟨h5,Y⟩:=(x i).1 (List.mem_append_left _ N);have O:i≠j:=fun e=>by
      subst e;exact(List.nodup_append.1 G).2.2 i N i (List.mem_cons_self ..) rfl
     have o:qB ops cs fM i j=true:=(List.pairwise_append.1 H).2.2 i N j (List.mem_cons_self ..);unfold qB at o;rw[T_,Bool.or_eq_true]at o;have abg:dG (opAt ops j) i=false:=by
      cases hq:dG (opAt ops j) i with
      | false=>rfl
      | true=>have:=X i hq; rw[Y]at this; cases this
     refine⟨h5,O,abg,by simpa using o.1,?_⟩
     rcases o.2 with o|o
     ·rw[T_,Bool.or_eq_true]at o;refine⟨o.1,?_⟩
      rcases o.2 with q|q
      ·rw[Bool.or_eq_true]at q;exact q.elim (fun q => .inl (B_ q)) (fun q => .inr (.inl q))
      ·rw[T_]at q;exact .inr (.inr ⟨B_ q.1,B_ q.2⟩)
     ·exfalso;rw[List.any_eq_true]at o;obtain⟨c,_,Z⟩:=o;rw[T_,T_]at Z;obtain⟨m,g⟩:=jc Z.2
      cases m with
      | zero=>unfold reach at g; simp at g; exact O g.symm
      | succ m =>
        unfold reach at g;rw[Bool.or_eq_true]at g
        rcases g with g|g
        ·simp at g; exact O g.symm
        ·rw[W]at g;simp only at g;rw[Array.any_eq_true']at g;obtain⟨e,M,g⟩:=g;rw[T_]at g;have B:dG (opAt ops j) e.on=true:=by
          unfold dG; rw[Array.any_eq_true']; exact⟨e,M,by rw[g.1,Nat.beq_refl]; rfl⟩
         have:=J.reach _ _ g.2 (X e.on B);rw[Y]at this; cases this) f w h
    have hperm:(t++y).length=k:=(by simp at F ⊢; omega);have hnd':(t++y).Nodup:=by
     refine G.sublist ?_;exact List.Sublist.append_left (List.sublist_cons_self ..) t
    have abh:(t++y).Pairwise fun i j=>qB ops cs fM i j=true:=H.sublist (List.Sublist.append_left (List.sublist_cons_self ..) t);have hmem' : ∀ i,i∈t++y<->i<ops.length/\(p.setIfInBounds j true).getD i false=false:=fun i=>by
     by_cases e:j=i
     ·subst e;rw[set_self (by omega)];constructor
      ·intro g;exfalso;have D:=List.nodup_append.1 G
       rcases List.mem_append.1 g with q|q
       ·exact D.2.2 j q j (List.mem_cons_self ..) rfl
       ·exact(List.nodup_cons.1 D.2.1).1 q
      ·intro q; cases q.2
     ·rw[ko e,<- x i];simp only[List.mem_append,List.mem_cons];constructor
      ·rintro (q|q)
       ·exact .inl q
       ·exact .inr (.inr q)
      ·rintro (q|q|q)
       ·exact .inl q
       ·exact N_ q.symm e
       ·exact .inr q
    have U : ∀(v:Value) (w':World),R P n ops cs S (fun e f w=>Q e f ds w) (t++y) (put f (opAt ops j).dst v) w'->wpAnyIn (FR ro) m P .any ops.toArray (VB n Q) k (p.setIfInBounds j true) (a.put (opAt ops j).dst v) w':=fun v w' hR =>
     ih (t++y) _ _ _ w' hperm (by simp[ac]) (J.set E) hmem' hnd' abh (A.put (by
      cases D:(opAt ops j).dst with
      | none=>rfl
      | some d=>have:=((fG T s).1 d D).2; simpa [inn,Nat.blt_eq] using this) v) (by rw[put_defers]; exact L) hR
    have ab:jW (opAt ops j)=true:=by
     rw[List.all_eq_true]at aa;refine aa _ ?_;unfold opAt;rw[r_,o_ s];exact R_ s
    unfold wpOpIn;rw[W];simp only;rw[A.yf];unfold R at C
    rcases C with ⟨I,V⟩|⟨I,⟨V,v,q3,q4⟩|⟨V,q3⟩⟩
    ·rw[b_ (by rw[I]; decide)]; exact⟨fun _ _=>trivial,U _ _ V⟩
    ·rw[d_ I];refine Out.wpIn (K:=fun v' w'=>v'=v/\w'=w) A ab (.inl ⟨v,w,q3 w (.inr (.inr rfl)),rfl,rfl⟩) ?_;rintro v' w' ⟨rfl,rfl⟩;exact U _ _ q4
    ·rw[d_ I];exact Out.wpIn A ab q3 fun v w' hk=>U v w' hk.2
theorem W0.ahB{f:Nat->Value}{w:World}{id:Nat}(l:List Nat)(cs:List Nat)(S:World->World->Prop)(o : ∀ w,S w w)(p : ∀ a b c,S a b->S b c->S a c)(fM:List (Nat × Nat × List Nat))(x:P.follows .mixedOrders=true)(z:lV n ops=true)(B:Region.noSelect ops.toArray=true)(g:zI ops l=true)(A:vV ops cs fM l=true)
 (h : ∀ j,Below w.heap.size w j->j.heap.size=w.heap.size->R P n ops cs S (fun e f w=>Q e f ds w) l f j) (y:ops.all jW=true:=by rfl):W0 ro m P n (.region id ops.toArray true) Q f ds w:=fun a q r=>by
 refine wpIn_region_any x ?_;unfold zI at g;rw[T_,T_,T_,List.all_eq_true,List.all_eq_true]at g;obtain⟨⟨⟨C,D⟩,p3⟩,p4⟩:=g;have v:=B_ C;have E:l.Nodup:=h_ p3;have:=R.ahA (ro:=ro) (m:=m) (ds:=ds) (P:=P) (Q:=Q) (fM:=fM) z B y o p ops.length l (Array.replicate ops.length false) a f { w with drawn:=w.drawn+1 } v (by simp) (JJ.start _ _ _) (fun i=>by
  have s : ∀ i,(Array.replicate ops.length false).getD i false=false:=fun i=>getD_replicate_false _ _;constructor
  ·intro d; exact⟨by simpa [Nat.blt_eq] using D i d,s i⟩
  ·intro d;obtain⟨k,t,u⟩:=List.any_eq_true.1 (p4 i (by simpa using d.1));rw[B_ u]; exact t) E (vW A) q r (h { w with drawn:=w.drawn+1 } (Below.refl _ _).drew rfl)
 simpa using this
end
end Fx
namespace Rgx
def O8{b:Type}(J:b->World->Prop):Prop := ∀ s W a,J s W->W.grownBy a none->J s a
def adJ{d:Type}(F:Fence)(n:Nat)(P:Program)(g:Nat)(lb:Array Value)(j:d->Array Value)(i:World->World->Prop)(S:List d->Prop)(N:Nat)(h:World->Prop):Prop :=
 ∀(l:Nat) (J:List d->World->Prop) (W:World),h W->O8 J ->
  (∀ c x b,J c b->c.length<N->YieldAt F (n-1) P l (j x) b fun e a=>e = .returned (.bool true)/\J (c ++ [x]) a/\i b a) ->
  J [] W ->
  CallsIn F n P g (#[.func (.yield l) #[] #[]]++lb) W fun e a=>(∃ v,e = .returned v) /\ ∃ f,S f/\J f a
def Nw{c:Type}(B:Nat)(I:c->World->Prop):Prop :=
 ∀ s W a b,I s W->W.grownBy a b->(∀ r,b=some r->B<=r /\ ∃ o:Obj,W.heap[r]? = some o/\o.isCells=false)->I s a
variable {F:Fence} {n:Nat} {P:Program}
theorem Nw.putObj{a:Type}{B:Nat}{I:a->World->Prop}(h:Nw B I){s:a}{W:World}{l:Nat}{o:Obj}(o':Obj)(f:I s W)(b:B<=l)(c:W.heap[l]? = some o)(d:o.isCells=false):I s (W.putObj l o') :=
 h s W _ (some l) f (grownBy_putObj' W l o') (fun r e=>by cases e; exact⟨b,o,c,d⟩)
theorem Nw.alloc{a:Type}{B:Nat}{I:a->World->Prop}(h:Nw B I){s:a}{W:World}(o:Obj)(b:I s W):I s (W.alloc o) :=
 h s W _ none b (World.grownBy_alloc W o none) (fun r e=>by cases e)
def KeepsFrom(B:Nat)(W a:World):Prop:=W.heap.size<=a.heap.size /\ ∀ k,B<=k->k<W.heap.size->a.heap[k]? = W.heap[k]?
def ahC{a:Type}(B:Nat)(b:World->World->Prop)(I:List a->World->Prop)(c:List a)(W:World):Exit->Act->World->Prop
 | .normal,_,W'=>KeepsFrom B W W'/\b W W'/\I c W'
 | _,_,_=>False
theorem DJ{α:Type}{g:Operand}{ps:Array Tmp}{assign body:Code}{Q:Exit->Act->World->Prop}{a:Act}{w:World}
 (hro:F.round=none) (h1:1<=n) {gf:Nat} {lb:Array Value} (hg:a.eval g = .func (.func gf) #[] lb) (hFg:F.fn gf) (eg : ∀ args w,(callFunc gf args).run P w = .ok (.enter gf args) w)
 {encs:α->Array Value} {Kp:World->World->Prop} {S:List α->Prop} {N:Nat} {Ip:World->Prop} (hseq:adJ F (n-1) P gf lb encs Kp S N Ip)
 (hIp:Ip w) (MG : ∀ W o,w.heap.size<=W.heap.size->Ip W->Ip (W.alloc o))
 (hKt : ∀ {A B C:World},Kp A B->Kp B C->Kp A C) (hKb : ∀(W:World) (l:Nat) (o o':Obj),w.heap.size<=l->W.heap[l]? = some o->o.isCells=false->Kp W (W.putObj l o')) (hps : ∀ x,(encs x).size=ps.size)
 (I:List α->World->Prop) (hI:Nw w.heap.size I) (h0:I [] w) (A₁:α->Act->Prop)
 (hassign : ∀(l:Nat) (x:α) (W:World),assign.wpIn (F.inRound l) (n-1-1) P (Exit.then (fun a' W'=>A₁ x a'/\W'=W) (fun _ _ _=>False)) { tmps:=(ps.zip (encs x)).foldl (fun t (p,v)=>t.setIfInBounds p v) a.tmps,defers := [] } W)
 (hbody : ∀(l:Nat) (pre:List α) (x:α) (W:World) (a':Act),A₁ x a'->I pre W->pre.length<N->w.heap.size<=W.heap.size->body.wpIn (F.inRound l) (n-1-1) P (ahC w.heap.size Kp I (pre ++ [x]) W) a' W)
 (hdone : ∀(D:Nat) (xs:List α) (W:World),w.heap.size<=D->S xs->I xs W->W.heap[D]? = some (.deferred (some []))->Q .normal { a with defers := { target := .collected D,args := #[] }::a.defers } W) :
 (Code.rangeFunc g ps assign body).wpIn F n P Q a w:=by
 refine wpIn_rangeFunc ?_;intro fn hfn;rw[hro];obtain⟨rec,hrec⟩ : ∃ rec:LoopState->Option Code->Loop,rec=fun st pe => { state:=st,pending:=pe,fn,tmps:=a.tmps,params:=ps,assign,body,defers:=w.heap.size }:=⟨_,rfl⟩;obtain⟨W1,hW1⟩ : ∃ W1,(w.alloc (.deferred (some []))).alloc (.loop (rec .ready none))=W1:=⟨_,rfl⟩;have hL1:W1.heap[w.heap.size+1]? = some (.loop (rec .ready none)):=by
  rw[<- hW1]; have:=World.alloc_heap_new (w.alloc (.deferred (some []))) (.loop (rec .ready none)); rwa [World.size_alloc]at this
 have hK1:W1.heap[w.heap.size]? = some (.deferred (some [])):=by
  rw[<- hW1]; exact(Below.heap_alloc _ _ _ (by simp)).trans (World.alloc_heap_new w _)
 have hI1:I [] W1:=by rw[<- hW1]; exact hI.alloc _ (hI.alloc _ h0)
 have hp1:Ip W1:=by rw[<- hW1]; exact MG _ _ (by simp) (MG _ _ (A_ _) hIp)
 refine⟨w.heap.size+1,[{ target := .collected w.heap.size,args := #[] }],W1,{ target := .fn (.func gf) lb,args := #[.func (.yield (w.heap.size+1)) #[] #[]] },W1,gf,
  #[.func (.yield (w.heap.size+1)) #[] #[]]++lb,W1,?_,?_,?_,?_,fun _=>h1,?_⟩
 ·rw[<- hW1,hrec]; exact run_enterLoop_outer _ _ _ _ _
 ·simp only[resolve,hg];simp[go_sem]
 ·intro f' hf'; simp[Target.leads]at hf'; subst hf'; exact hFg
 ·simp[invoke,go_sem,eg]
 refine(hseq (w.heap.size+1)
  (fun pre W=>I pre W/\W.heap[w.heap.size+1]? = some (.loop (rec .ready none))/\W.heap[w.heap.size]? = some (.deferred (some [])))
  W1 hp1
  (fun s A B hs hg'=>⟨hI s A B none hs.1 hg' (fun r e=>nomatch e),(hg'.block _ (t_.1 hs.2.1).1 (fun e=>nomatch e)).trans hs.2.1,(hg'.block _ (t_.1 hs.2.2).1 (fun e=>nomatch e)).trans hs.2.2⟩)
  ?_ ⟨hI1,hL1,hK1⟩).mono ?_
 ·-- one round
  rintro pre x W ⟨hi,hl,hk⟩ hlen;have hlt:w.heap.size+1<W.heap.size:=(t_.1 hl).1;have hy:=run_yield (P:=P) (args:=encs x) hl (by rw[hrec]; exact hps x);rw[hrec]at hy;refine⟨fn,_,assign,body,hy,roundIn_of_wpIn hfn (wpIn_mono (hassign _ x W) ?_)⟩;rintro e1 a1 w1 hq1
  cases e1 with
  | exit id=>exact hq1.elim
  | goto t=>exact hq1.elim
  | ret=>exact hq1.elim
  | panic ch=>exact hq1.elim
  | outgrown=>exact hq1.elim
  | normal =>
  obtain⟨hA1,ew⟩:=hq1;rw[ew];refine⟨_,run_beginRound hl (by rw[hrec]),?_⟩;have hl2:(W.putObj (w.heap.size+1) (.loop { rec .ready none with state := .busy })).heap[w.heap.size+1]? = some (.loop { rec .ready none with state := .busy }):=World.putObj_heap_same hlt;have hk2:(W.putObj (w.heap.size+1) (.loop { rec .ready none with state := .busy })).heap[w.heap.size]? = some (.deferred (some [])):=(World.putObj_heap_other (by omega)).trans hk;have hw2:Kp W (W.putObj (w.heap.size+1) (.loop { rec .ready none with state := .busy })):=hKb _ _ _ _ (by omega) hl rfl;refine wpIn_mono (hbody _ pre x _ a1 hA1 (hI.putObj _ hi (by omega) hl rfl) hlen (by simp; omega)) ?_;rintro e a3 W3 hp
  cases e with
  | normal =>
    obtain⟨hk3,hkp3,hi3⟩:=hp;have hl3:=(hk3.2 _ (by omega) (t_.1 hl2).1).trans hl2;have aou:=(hk3.2 _ (by omega) (t_.1 hk2).1).trans hk2;have hr:=run_endRound (P:=P) none hl3;rw[hrec]at hr hl3;refine⟨_,_,hr,rfl,⟨hI.putObj _ hi3 (by omega) hl3 rfl,?_,(World.putObj_heap_other (by omega)).trans aou⟩,hKt (hKt hw2 hkp3) (hKb _ _ _ _ (by omega) hl3 rfl)⟩;rw[hrec]; exact World.putObj_heap_same (t_.1 hl3).1
  | ret=>exact hp.elim
  | exit id=>exact hp.elim
  | goto t=>exact hp.elim
  | panic ch=>exact hp.elim
  | outgrown=>exact hp.elim
 rintro e W2 ⟨⟨v,rfl⟩,xs,hS,hi,hl,hk⟩;exact⟨none,_,by have:=run_endLoop (P:=P) hl (by rw[hrec]; simp); rw[hrec]at this; exact this,hdone _ xs _ (A_ _) hS (hI.putObj _ hi (by omega) hl rfl) ((World.putObj_heap_other (by omega)).trans hk)⟩
end Rgx
namespace Fx
theorem La{a:Act}{n p q:Nat}{u v:Value}{f:Nat->Value}(h:Ai a n f)(c:p<n)(g:q<n):Ai { tmps:=(#[p,q].zip #[u,v]).foldl (fun t (p,v)=>t.setIfInBounds p v) a.tmps,defers := [] } n (put (put f (some p) u) (some q) v):=by
 have b:=(h.put (d:=some p) (by simpa [inn,Nat.blt_eq] using c) u).put (d:=some q) (by simpa [inn,Nat.blt_eq] using g) v;have e:(#[p,q].zip #[u,v]).foldl (fun t (p,v)=>t.setIfInBounds p v) a.tmps=((a.put (some p) u).put (some q) v).tmps:=by simp[Array.zip,Act.put]
 rw[e]; exact⟨b.size,b.get⟩
theorem W0.adK{P:Program}{n m:Nat}{Q:yx}{f:Nat->Value}{ds:List Deferred}{w:World}{c:Type}{g:Operand}{p q:Tmp}{E G:Code}{gf:Nat}{lb:Array Value}(h1:1<=m)(hg:ev f g = .func (.func gf) #[] lb)(J : ∀ z w,(callFunc gf z).run P w = .ok (.enter gf z) w)
 {eu ev2:c->Value} {d:World->World->Prop} {S:List c->Prop} {N:Nat} {s:World->Prop} (hseq:Rgx.adJ (FR none) (m-1) P gf lb (fun x => #[eu x,ev2 x]) d S N s)
 (R:s w) (T : ∀ W o,w.heap.size<=W.heap.size->s W->s (W.alloc o)) (V : ∀ {A B C:World},d A B->d B C->d A C) (U : ∀(W:World) (l:Nat) (o o':Obj),w.heap.size<=l->W.heap[l]? = some o->o.isCells=false->d W (W.putObj l o')) (hp:p<n) (hq:q<n)
 (I:List c->World->Prop) (O:Rgx.Nw w.heap.size I) (L:I [] w) (A:c->(Nat->Value)->Prop)
 (X : ∀(l:Nat) (x:c) (W:World),W0 (some l) (m-1-1) P n E (fun e b H h=>e = .normal/\H = []/\A x b/\h=W) (put (put f (some p) (eu x)) (some q) (ev2 x)) [] W)
 (Y : ∀(l:Nat) (r:List c) (x:c) (W:World) (b:Nat->Value),A x b->I r W->r.length<N->w.heap.size<=W.heap.size->W0 (some l) (m-1-1) P n G (fun e K H h=>e = .normal/\Rgx.KeepsFrom w.heap.size W h/\d W h/\I (r ++ [x]) h) b [] W)
 (aa : ∀(D:Nat) (u:List c) (W:World),w.heap.size<=D->S u->I u W->W.heap[D]? = some (.deferred (some []))->Q .normal f ({ target := .collected D,args := #[] }::ds) W):W0 none m P n (.rangeFunc g #[p,q] E G) Q f ds w:=fun a t Z=>by
 refine Rgx.DJ (F:=FR none) rfl h1 (by rw[t.ev]; exact hg) trivial J hseq R T V U (fun _=>rfl) I O L (fun x i => ∃ b,Ai i n b/\i.defers = []/\A x b) ?_ ?_ ?_
 ·intro l x W;refine wpIn_mono (X l x W _ (La t hp hq) rfl) ?_;rintro e i w' ⟨b,y,rfl,j,k,rfl⟩;exact⟨⟨b,y,j,k⟩,rfl⟩
 ·rintro l r x W i ⟨b,y,j,k⟩ hi hl hs;refine wpIn_mono (Y l r x W b k hi hl hs i y j) ?_;rintro e a'' w' ⟨K,awc,rfl,v⟩;exact v
 ·intro D u W j k v M;refine⟨f,⟨t.size,t.get⟩,?_⟩;show Q .normal f (_::a.defers) W;rw[Z]; exact aa D u W j k v M
end Fx
end Go.Proofs.YtahbiajdgealnaaGreatDoor
namespace Go.Proofs.YtahbiajdgealnaaGreatDoor
open Go.RowKit Rt
open Fx (dY fC bF dO Lv sN Ln Ws Wl Wr Sb Wk rV Rs Rn Wb Wx Wo gZ nH uN aQ Stp Mp iR mM dK bQ cu cB gL gF)
namespace Rt
structure O9(sb:Nat)(v:Value)(W W':World):Prop where
 size:W.heap.size<=W'.heap.size
 b:W'.heap[sb]? = W.heap[sb]?
 g : ∀ g,v.ownBlock=some g->W'.heap[g]? = W.heap[g]?
theorem O9.trans{a:Nat}{v:Value}{A B C:World}(h:O9 a v A B)(k:O9 a v B C):O9 a v A C:=⟨m_ h.size k.size,k.b.trans h.b,fun g c=>(k.g g c).trans (h.g g c)⟩
theorem O9.put{a B:Nat}{v:Value}(e:a<B)(c : ∀ g,v.ownBlock=some g->g<B)(W:World)(l:Nat)(o o':Obj)(d:B<=l):O9 a v W (W.putObj l o'):=⟨by simp,World.putObj_heap_other (by omega),fun g b=>World.putObj_heap_other (by have:=c g b; omega)⟩
theorem O9.BH{a b:Nat}{v:Value}{W c:World}(h:Stp b W c)(h1:a<W.heap.size)(f:a≠b)(e : ∀ g,v.ownBlock=some g->g<W.heap.size/\g≠b):O9 a v W c:=⟨h.size,h.block a h1 f,fun g d=>h.block g (e g d).1 (e g d).2⟩
theorem adL{q n c s:Nat}{a:Option Addr}{x:Nat->Value}{W d:World}(l:mM W a n s x)(r:0<s)(k:O9 q (.slice a n c) W d):mM d a n s x:=fun h=>by
 obtain⟨b,p,e,m⟩:=l h;refine⟨b,p,e,fun i o => ?_⟩;have f:=m i o;have j:=k.g b (by rw[e]; rfl);unfold World.cell? at f ⊢;rw[j]; exact f
def BwP(b:Nat)(a:Option Addr)(n c:Nat)(l:List Int)(W:World):Prop:=aQ W b 1 (fun _ => .slice a n c) 63/\mM W a n 1 (xJ l)
theorem BwP.alloc{f n c:Nat}{a:Option Addr}{l:List Int}{W:World}(h:BwP f a n c l W)(o:Obj):BwP f a n c l (W.alloc o) :=
 ⟨(Below.heap_alloc W o f h.1.lt).trans h.1,fun g=>by
   obtain⟨b,p,e,k⟩:=h.2 g;refine⟨b,p,e,fun i m => ?_⟩;have d:=k i m;have j:=Below.heap_alloc W o b (block_lt_of_cell d);unfold World.cell? at d ⊢;rw[j]; exact d⟩
theorem VE{h f B:Nat}{c:World}{F:List Nat->dJ}(h1:h<c.heap.size)(j:f<c.heap.size):Rgx.Nw c.heap.size (fun(n:List Nat) W=>sF W B h f (F n)/\Stp f c W):=fun s W i o a b m=>by
 have g : ∀ k,k<c.heap.size->i.heap[k]? = W.heap[k]? := fun k d=>b.block k (n_ d a.2.size) fun e=>by
  have:=(m k e.symm).1; omega
 exact⟨sF.keep a.1 (g h h1) (g f j),⟨b.os.trans a.2.os,b.tape.trans a.2.tape,b.output.trans a.2.output,m_ a.2.size b.size,fun k d l=>(g k d).trans (a.2.block k d l)⟩⟩
theorem YQ{w:World}{B E s n b m:Nat}{v:Value}{x:Nat->Value}{k:Nat->Int}{y:Nat->Value}(a:Fx.Own w B E s v n x)(d:Mp w b m k y){g:Nat}(c:v.ownBlock=some g):g<w.heap.size/\g≠b:=⟨(a.ge c).2,fun e=>d.su (by rw[<- e]; exact a.ty c)⟩
theorem adM{T:dJ}{k:Int}(h : ∀ i,i<T.n->T.x i≠k):T.par k=0:=by
 have : ∀ n,(∀ i,i<n->T.x i≠k)->iC T.x T.p n k=0:=fun n=>by
  induction n with
  | zero=>exact fun _=>rfl
  | succ n ih=>exact fun h=>by unfold iC; rw[b_ (h n (by omega))]; exact ih fun i a=>h i (by omega)
 exact this _ h
structure JB(J:List Nat->World->Prop)(pre:List Nat)(w:World):Prop where
 ab:Rgx.O8 J
 j:J pre w
end Rt
theorem aow(a:Option Addr)(n c:Nat)(w:World) :
 Calls Tryz.prog 185 #[.slice a (n) (c)] w fun e w' => ∃ d,e = .returned (.func (.func 196) #[] #[(pt d)])/\w.heap.size<=d/\aQ w' d 1 (fun _ => .slice a n c) 63/\Below w.heap.size w w':=by
 refine Kent Tryz.func185 4 ?_;refine ay<|yZ (.slice a (n) (c)) fun b l h f j m => ?_;have g:=bH j.old (Below.refl w.heap.size w);have i:=ig h;have k:=f.lt;refine av (.nilFunc)<|aC<|ay<|Lv (.func (.func 196) #[] #[(pt b)]) (Fx.mV (us := []) (vs := [(pt b)]) rfl rfl rfl)<|av (.func (.func 196) #[] #[(pt b)])<|aC<|Wr<|aJ (.func (.func 196) #[] #[(pt b)]) ?_;exact⟨b,rfl,i,f,g⟩
theorem ahD(J:List Nat->World->Prop)(h d c:Nat)(a:Option Addr)(l:List Int)(w:World)(o:aQ w d 1 (fun _ => .slice a (l.length) (c)) 63)(I:mM w a l.length 1 (xJ l))(n:JB J [] w)(U:l.length<=1000)
 (L : ∀ r x m,J r m->r.length<l.length->Go.YieldAt (Fx.FR none) 1 Tryz.prog h #[au (x:Nat),aD (l.getD x 0)] m fun e y=>e = .returned (.bool true)/\J (r ++ [x]) y/\O9 d (.slice a l.length c) m y) :
  Calls Tryz.prog 196 #[.func (.yield h) #[] #[],(pt d)] w fun e w'=>(∃ v,e = .returned v) /\ ∃ F,F=F7 l.length l.length/\J F w':=by
 have V:=o.lt;have n:JB J (F7 l.length (l.length-l.length)) w:=by rw[Nat.sub_self]; exact n
 refine Kent Tryz.func196 19 ?_;refine ay<|Lv (.slice a (l.length) (c)) (aL o.aH 0)<|av (au l.length)<|Lv (au ((l.length:Int)-1)) gH<|av (au ((l.length:Int)-1))<|aC<|Wb<|Wo (fun f u => ∃ k:Nat,k<=l.length/\f 0 = .func (.yield h) #[] #[]/\f 1=(pt d)/\f 3=au ((k:Int)-1)/\aQ u d 1 (fun _ => .slice a (l.length) (c)) 63/\mM u a l.length 1 (xJ l)/\JB J (F7 l.length (l.length-k)) u) (fun f _=>(intOf (f 3)+1).toNat) ⟨l.length,(A_ _),(by rfl),(by rfl),Fx.ic,o,I,n⟩ ?_;rintro S X ⟨k,T,A,B,g,D,E,p⟩;refine Ws<|ay<|aT g ?_;by_cases z:0<=((k:Int)-1)
 ·refine Lv aG (ku z)<|aC<|aN<|Wk<|sN<|Ws<|Wb<|Ws<|Fx.W.ZW 2<|Fx.Ly.v (.func (.yield h) #[] #[]) (dY rfl A) ?_;refine Fx.Ly.v (au ((k:Int)-1)) (dY rfl g) ?_;refine Fx.Ly.v (.slice a (l.length) (c)) (bF (x:=fun _ => .slice a (l.length) (c)) rfl B (by kernel_rfl) D.aH (i:=0) (by omega) (by omega) rfl) ?_;refine Fx.Ly.v (au ((k:Int)-1)) (dY rfl g) ?_;obtain⟨G,Q,H,M⟩:=E (by omega);refine Fx.Ly.v (pf G (k+Q-1)) (dO rfl (rfl.trans (M_ (fun q=>Value.slice q (l.length) (c)) H)) rfl Tryz.underlying63 (s:=1) (by kernel_rfl) (by omega) (by omega) (by omega)) ?_;refine Fx.Ly.v (aD (l.getD (k-1) 0)) (bF (x:=xJ l) rfl rfl (by kernel_rfl) M (i:=k-1) (by omega) (by omega) rfl) ?_;refine Fx.Ly.yield (l:=h) (args := [au ((k:Int)-1),aD (l.getD (k-1) 0)]) rfl rfl rfl (Fx.args2 rfl rfl) rfl (by have:=L (F7 l.length (l.length-k)) (k-1) _ p.j (by rw[O7]; omega); rw[show((k-1:Nat):Int)=(k:Int)-1 by omega]at this; exact this) ?_;rintro R t ⟨rfl,K,C⟩;refine⟨.bool true,rfl,?_⟩;have N:aQ t d 1 (fun _ => .slice a (l.length) (c)) 63:=C.b.trans D;have O:mM t a l.length 1 (xJ l):=adL E (by decide) C;have P:JB J (F7 l.length (l.length-(k-1))) t:=⟨p.ab,by rw[show l.length-(k-1)=(l.length-k)+1 by omega]; unfold F7; rw[show l.length-1-(l.length-k)=k-1 by omega]; exact K⟩;refine Fx.Ly.v (.bool false) (Fx.RO rfl rfl) ?_;refine Fx.Ly.nil ?_;refine sN<|aK<|Wk<|bQ<|sN<|Wl<|aT g<|Lv (au ((k:Int)-2)) gH<|av (au ((k:Int)-2))<|Ln<|gF ⟨k-1,(by omega),A,B,Fx.ic,N,O,P⟩ ?_;show(intOf (au ((k:Int)-2))+1).toNat<_;simp only[g,intOf]; omega
 refine Lv aF (jU z) (aC (aK (Wx (cu (gL (cB (⟨.tuple #[],iR Tryz.results196,?_⟩)))))));exact⟨⟨_,rfl⟩,_,rfl,by have:=p.j; rw[show l.length-k=l.length by omega]at this; exact this⟩
theorem adN(b c:Nat)(a:Option Addr)(l:List Int)(i:l.length<=1000) :
 Rgx.adJ (Fx.FR none) 2 Tryz.prog 196 #[(pt b)] (fun x:Nat => #[au (x:Int),aD (l.getD x 0)]) (O9 b (.slice a l.length c)) (fun k=>k=F7 l.length l.length) l.length (BwP b a l.length c l) :=
 fun j J W ⟨h,e⟩ g f d=>callsIn_wide.2 (ahD J j b c a l W h e ⟨g,d⟩ i f)
namespace Rt
theorem Pb{l:List Int}{T:dJ}(b:T.ok)(h : ∀ k,k∈l->T.has k=true)(x:Nat):0<=l.getD x 0/\l.getD x 0<=18446744073709551615:=by
 by_cases a:x<l.length
 ·have d:l.getD x 0∈l:=by rw[r_,o_ a]; exact R_ a
  obtain⟨i,c,e⟩:=gT (h _ d);rw[<- e]; exact Vy b c
 rw[r_,List.getElem?_eq_none (by omega)]; decide
theorem Pf{l:List Int}{T:dJ}{pa:Int}(a:T.ok)(e:l=T.path pa)(x:Nat):0<=l.getD x 0/\l.getD x 0<=18446744073709551615:=Pb a (fun k d=>by
 obtain⟨i,b,c⟩:=List.getElem_of_mem d;have:=dJ.Nu a e b;rw[r_,o_ b]at this;rw[<- c]; exact this) x
theorem YR{l:List Int}{T:dJ}(a:T.ok)(h : ∀ k,k∈l<->T.has k=true)(x:Nat):0<=l.getD x 0/\l.getD x 0<=18446744073709551615:=Pb a (fun k b=>(h k).1 b) x
end Rt
theorem adO(m:dU)(lp B:Nat)(w:World)(h:mD w B lp m)(id pa:Int)(hid:0<=id/\id<=18446744073709551615) :
 Calls Tryz.prog 170 #[(pt lp),aD id,aD pa] w fun e w'=>e = .returned (au (m.T.err id pa))/\Below w.heap.size w w':=by
 have hC:=h.c;have hT:=h.t;have hP:=h.p;have hR:=h.r;have hG:=h.g;have hA:=h.a;have hN:=h.ne;have lC:=h.c.lt;have lT:=h.t.lt;have lP:=h.p.lt;have lR:=h.r.lt;have lG:=h.g.lt;have lA:=h.a.lt;refine Fx.adI 3 Tryz.func170 rfl (n:=55) rfl (by rfl) ?_;refine Fx.W0.seq<|Fx.W0.list<|yZ (pt lp) fun g1 w1 lK m1 s1 z1 => ?_;have⟨m2,m3,m4,m5,m6,m7,b1⟩:=jQ s1.old hC hT hP hR hG hA (Below.refl w.heap.size w);have sU:=ig lK;have⟨nP,zD,xB,Bg,zA⟩:=Dq lK hC.lt hP.lt hR.lt hG.lt hA.lt;have uq:=m1.lt;refine av (au 0)<|Ln<|Fx.qY<|Fx.W0.seq<|Fx.W0.list<|mE (aah _) ?_;rintro e9 w2 ⟨v,j,u,hg1,m8,hb1⟩;refine⟨_,u,?_⟩;clear u;have nem.ath:m.mb≠j:=u_ (n_ m3.lt hg1);have⟨m9,m10,m11,m12,m13,m14,m15,b2⟩:=ng hb1 m2 m3 m4 m5 m6 m7 m1 b1;have m16:sF w2 (w.heap.size) v j dJ.zero:=m8.weak b1.size;clear m8 hg1;refine uh 1 (fun _ => .pointer none) fun L w3 Ak m17 s3 z2 => ?_;have⟨m18,m19,m24,nk,b3⟩:=uj s3.old m9 m10 m15 m16 b2;have pV:=iV Ak b2.size;have⟨adP,aox,aoy,aoz,aoA,aoB⟩:=IU Ak m9.lt m11.lt m12.lt m13.lt m14.lt m15.lt;have zy:=m17.lt;refine jd m17 0 (pt v) fun w4 og s4 z3 => ?_;have oh:aQ w4 L 1 (fun _=>(pt v)) 98:=dK og;have fV:=gZ s4 m17.ty;have⟨om,nI,nQ,oq⟩:=MC fV m18 m19 m24 nk;have b4:=s4.below b3 b3.size (by omega);refine Ln<|Fx.qY<|Fx.W0.seq<|Fx.W0.list<|Lv (pt lp) (aL nQ.aH 0)<|av (pt lp)<|av (pf lp 18)<|Lv (pt m.tp) (aL om.aH 18)<|av (aD pa)<|mE (ML pa nI) ?_;rintro e9 w5 ⟨F,G,u,pU,hb2⟩;refine⟨_,u,?_⟩;clear u;have⟨nK,sZ,rR,b5⟩:=kR hb2 nQ oq oh b4;obtain⟨l,J⟩ : ∃ q,q=dJ.path m.T pa:=⟨_,rfl⟩;rw[<- J]at pU ⊢;have hl4:l.length<=4:=by rw[J]; exact dJ.uf
 refine av (.slice F (l.length) (G))<|Ln<|Fx.qY<|Fx.W0.seq<|Fx.W0.seq<|Fx.W0.list<|av (.slice F (l.length) (G))<|mE (aow F l.length G _) ?_;rintro e9 w6 ⟨sb1,u,hg2,nR,hb3⟩;refine⟨_,u,?_⟩;clear u;have⟨rD,E,tu,qV,U⟩:=uj hb3 nK sZ rR pU b5;refine Ln<|Fx.qY<|Fx.W0.block ?_;have ahE:g1≠j:=E.map.ne rD.ty;have awd:=rD.lt;have ahF:L≠j:=E.map.ne tu.ty;have awe:=tu.lt;have aav:sb1≠j:=E.map.ne nR.ty;have ahG:=nR.lt;have hgm:=E.gm;have ltm:=E.lt;have ltt:=E.blk.lt;have K : ∀ g,(.slice F (l.length) (G):Value).ownBlock=some g->g<w6.heap.size/\g≠j:=fun g y=>YQ qV E.map y;refine Fx.W0.adK (gf:=196) (lb := #[(pt sb1)]) (eu:=fun x:Nat=>au (x:Int)) (ev2:=fun x=>aD (l.getD x 0)) (by decide) rfl (fun args w=>kg Tryz.func196 (by kernel_rfl) rfl args w) (adN sb1 G F l (by omega)) ⟨nR,Fx.acf qV⟩ (fun W o _ hi=>hi.alloc o) (fun h k=>h.trans k) (fun W l o o' J _ _=>O9.put ahG (fun g y=>(K g y).1) W l o o' J) (by decide) (by decide) (fun xs W=>sF W (w.heap.size) v j (Me m.T l xs)/\Stp j w6 W) (VE ltt ltm) ⟨E,nH _ _⟩ (fun x f=>f 3=(pt g1)/\f 7=(pt L)/\f 10=aD (l.getD x 0)) ?_ ?_ ?_
 ·intro ly x W;exact Fx.W0.list (Lv (aD (l.getD x 0)) (fC rfl rfl) (Ln ⟨rfl,rfl,⟨rfl,rfl,rfl⟩,rfl⟩))
 ·rintro ly pre x W f9 ⟨q3,q7,q10⟩ ⟨hT2,s⟩ hpl hWs;have H:Below w.heap.size w W:=s.below U U.size hgm;have C:=h.up H;have hPW:=C.p;have M:=C.c;have N:=C.t;have Q:=rD.cZ s ahE;have ahH:=Q.lt;have R:=tu.cZ s ahF;have ahI:=R.lt;have lWm:j<W.heap.size:=n_ ltm s.size;have lWt:w6.heap.size<=W.heap.size:=s.size;have lCW:=M.lt;have lPW:=hPW.lt;have lTW:=N.lt;have lh0:=h.t.lt;have lh1:=h.p.lt;refine Fx.W0.block ?_;refine Fx.W0.ahB [1,6,0,2,3,4,5,7,8] [4,0,4,0,0,4,0,4,3] Fx.Mk uN Fx.Mk.trans (fM := [(8,0,[0]),(8,2,[7,5,4,3,2]),(8,5,[7,5]),(8,7,[7])]) (by kernel_rfl) (by kernel_rfl) (by kernel_rfl) (by kernel_rfl) (by kernel_rfl) fun pQ dR iG => ?_;have s7:Stp W.heap.size W pQ:=Sb dR;have⟨qw,qx,xD,qF,vM,oo⟩:=um dR M hPW N Q R hT2;have b7:=(nH j W).then s7 (.inr (nH j W).size);refine bW q10<|bW q10<|Rs (pt v) (aL vM.aH 0 (ha:=q7)) ?_;refine Rs (pt lp) (aL qF.aH 0 (ha:=q3)) ?_;refine bf (pt lp)<|bf (pf lp 19)<|Rs (.map (some m.pb)) (aL qw.aH 19) ?_
  rcases Fx.vZ m.T.x m.T.n (l.getD x 0)with ⟨VF,C8,C9⟩|jY
  ·refine Rs (aD (m.T.p VF)) (Fx.yL (z:=aD 0) rfl rfl rfl qx Tryz.underlying100 Tryz.underlying28 (by rfl) C8 C9 rfl) ?_;refine gQ<|dZ (Kq (l.getD x 0) (m.T.p VF) oo (Pf h.t.inv J x)) _ rfl ?_;rintro w7 ⟨tC,s8⟩;have O:=oo.BF s8;have m64:=qw.dQ O;have wB:=qx.dQ O (by omega);have vN:=xD.dQ O (by omega);have wC:=qF.dQ O;have wD:=vM.dQ O;have V:=b7.then s8 (.inl rfl);refine Ln<|Rn<|Fx.K9 ?_;have ep:m.T.par (l.getD x 0)=m.T.p VF:=Az C.t.inv.inj C8 C9;refine⟨rfl,⟨V.size,fun q hq hq2=>V.block q hq2 (by omega)⟩,O9.BH V (by omega) aav (fun g y=>⟨n_ (K g y).1 lWt,(K g y).2⟩),?_,s.then V (.inl rfl)⟩;rw[FB,ep]; exact tC
  refine Rs (aD 0) (Fx.XI (z:=aD 0) rfl rfl rfl qx Tryz.underlying100 Tryz.underlying28 (by rfl) jY) ?_;refine gQ<|dZ (Kq (l.getD x 0) 0 oo (Pf h.t.inv J x)) _ rfl ?_;rintro w8 ⟨tF,s9⟩;have P:=oo.BF s9;have uI:=qw.dQ P;have uV:=qx.dQ P (by omega);have xq:=xD.dQ P (by omega);have vO:=qF.dQ P;have yN:=vM.dQ P;have X:=b7.then s9 (.inl rfl);refine Ln<|Rn<|Fx.K9 ?_;have ep:m.T.par (l.getD x 0)=0:=adM jY;refine⟨rfl,⟨X.size,fun q hq hq2=>X.block q hq2 (by omega)⟩,O9.BH X (by omega) aav (fun g y=>⟨n_ (K g y).1 lWt,(K g y).2⟩),?_,s.then X (.inl rfl)⟩;rw[FB,ep]; exact tF
 rintro D xs W hD rfl ⟨hT2,s⟩ hK;have H:Below w.heap.size w W:=s.below U U.size hgm;have C:=h.up H;have hPW:=C.p;have M:=C.c;have N:=C.t;have Q:=rD.cZ s ahE;have ahH:=Q.lt;have R:=tu.cZ s ahF;have ahI:=R.lt;have lWm:j<W.heap.size:=n_ ltm s.size;have lWt:w6.heap.size<=W.heap.size:=s.size;have lCW:=M.lt;have lPW:=hPW.lt;have lTW:=N.lt;have lh0:=h.t.lt;have lh1:=h.p.lt;have lDW:=(t_.1 hK).1;have oW:=qV.cZ s (fun e=>(K _ e).2 rfl);refine Fx.K9<|Fx.qY<|Fx.W0.seq<|Fx.W0.seq<|Fx.W0.list<|Lv (pt lp) (aL Q.aH 0) ?_;refine av (pt lp)<|av (pf lp 18)<|Lv (pt m.tp) (aL M.aH 18)<|mE (TP N) ?_;rintro e9 w9 ⟨la1,A,d,u,uW,hq1,ahJ,hb4⟩;refine⟨_,u,?_⟩;clear u;have s10:=Sb hb4;have⟨xG,wE,xY⟩:=jw hb4 R hT2 oW;have b10:=(nH j W).then s10 (.inr (nH j W).size);refine av (au d.length)<|av (au 0)<|Ln<|Fx.qY<|Fx.W0.block<|Fx.W0.loop (fun f S => ∃ i:Nat,i<=d.length/\f 1=aD id/\f 2=aD pa/\f 7=(pt L)/\f 8 = .slice F (l.length) (G)/\f 37 = .slice la1 (d.length) (A)/\f 38=au (d.length:Int)/\f 39=au (i:Int)/\aQ S L 1 (fun _=>(pt v)) 98/\sF S (w.heap.size) v j (lD l d (Me m.T l (F7 l.length l.length)) i)/\Fx.Own S W.heap.size 28 1 (.slice la1 (d.length) (A)) d.length (xJ d)/\Fx.Own S w4.heap.size 28 1 (.slice F (l.length) (G)) l.length (xJ l)/\Stp j W S) (fun f _=>((d.length:Int)-intOf (f 39)).toNat) ⟨0,(by omega),Fx.ic,Fx.ic,(by rfl),(by rfl),(by rfl),Fx.ic,Fx.ic,xG,wE,uW,xY,b10⟩ ?_;rintro f1 sV ⟨i,hi,h1,h2,h3,h4,h5,h6,I,zM,xZ,AO,AP,b11⟩;refine Fx.W0.seq<|Fx.W0.list ?_;by_cases c40:(i:Int)<(d.length:Int)
 ·refine Lv aG (gu c40 (hx:=I) (hy:=h6)) (Ln (Fx.qY (Fx.W0.seq (Fx.W0.cond (b:=true) rfl (fun _=>Fx.W0.skip (Fx.qY (Fx.W0.seq (Fx.W0.block (Fx.W0.seq (Fx.W0.list ?_)))))) (fun h=>nomatch h)))));obtain⟨Am,Z⟩:=AO.addr (by omega);have Aj:Fx.Own sV W.heap.size 28 1 (bM Am d.length A) d.length (xJ d):=AO.dL (M_ (fun q=>Value.slice q d.length A) Z);refine Lv (pf Am i) (dh 1 (hx:=(h5.trans (M_ (fun q=>Value.slice q (d.length) (A)) Z))) (hi:=I))<|Lv (aD (d.getD i 0)) (aL Aj.aH i)<|av (aD (d.getD i 0))<|Ln<|Fx.qY<|Fx.W0.seq<|Fx.W0.list<|aT h4<|av (aD (d.getD i 0))<|dZ (ala l (d.getD i 0) _ _ _ _ AP (by omega)) (ax := #[.slice F (l.length) (G),aD (d.getD i 0)]) _ rfl ?_;intro EC hb5;have s11:=Sb hb5;have⟨zN,zO,AQ,ED⟩:=kR hb5 zM xZ AP Aj;have b12:=b11.then s11 (.inr b11.size);by_cases Y:d.getD i 0∈l
  ·skip
   refine Lv aF (Fx.RO rfl (M_ Value.bool (f_ Y)))<|Ln<|Fx.qY<|Fx.W0.cond (b:=false) rfl (fun h=>nomatch h)<|fun _=>Fx.W0.skip<|Fx.K9<|Fx.qY<|Fx.W0.list<|Lv (au ((i:Int)+1)) (eO (hx:=I))<|av (au ((i:Int)+1))<|Ln ?_;have Dy:Fx.Own EC W.heap.size 28 1 (.slice la1 (d.length) (A)) d.length (xJ d):=ED.dL (M_ (fun q=>Value.slice q d.length A) Z.symm);have BO:sF EC (w.heap.size) v j (lD l d (Me m.T l (F7 l.length l.length)) (i+1)):=by unfold lD; rw[d_ Y]; exact zO
   skip
   refine Fx.ahz ⟨i+1,(by omega),(h1.trans Fx.ic),(h2.trans Fx.ic),h3,h4,h5,(h6.trans Fx.ic),Fx.ic,zN,BO,Dy,AQ,b12⟩ ?_;show((d.length:Int)-intOf (au ((i:Int)+1))).toNat<_;simp only[I,intOf]; omega
  skip
  refine Lv aG (Fx.aaO rfl (M_ Value.bool (g_ Y))) (Ln (Fx.qY (Fx.W0.cond (b:=true) rfl (fun _=>Fx.W0.list (Lv (pt v) (aL zN.aH 0 (ha:=h3)) ?_)) (fun h=>nomatch h))));refine av (aD (d.getD i 0))<|dZ (Kq (d.getD i 0) 0 zO (YR h.t.inv hq1.2 i)) _ rfl ?_;rintro zL ⟨CV,s12⟩;have adQ:=zO.BF s12;have zS:=zN.dQ adQ;have F5:=AQ.dQ adQ;have D6:=ED.dQ adQ;have b13:=b12.then s12 (.inl rfl);refine Ln<|Fx.K9<|Fx.qY<|Fx.W0.list<|Lv (au ((i:Int)+1)) (eO (hx:=I))<|av (au ((i:Int)+1))<|Ln ?_;have F6:Fx.Own zL W.heap.size 28 1 (.slice la1 (d.length) (A)) d.length (xJ d):=D6.dL (M_ (fun q=>Value.slice q d.length A) Z.symm);have Gf:sF zL (w.heap.size) v j (lD l d (Me m.T l (F7 l.length l.length)) (i+1)):=by unfold lD; rw[b_ Y]; exact CV
  skip
  refine Fx.ahz ⟨i+1,(by omega),(h1.trans Fx.ic),(h2.trans Fx.ic),h3,h4,h5,(h6.trans Fx.ic),Fx.ic,zS,Gf,F6,F5,b13⟩ ?_;show((d.length:Int)-intOf (au ((i:Int)+1))).toNat<_;simp only[I,intOf]; omega
 refine Lv aF (gy c40 (hx:=I) (hy:=h6))<|Ln<|Fx.qY<|Fx.W0.seq<|Fx.W0.cond (b:=false) rfl (fun h=>nomatch h)<|fun _=>Fx.W0.exit<|Fx.ahx<|Fx.aot<|Fx.ahy<|Fx.qY<|Fx.W0.seq ?_;have hil:i=d.length:=by omega
 refine Fx.W0.list<|Lv (pt v) (aL zM.aH 0 (ha:=h3)) ?_;refine aT h1<|aT h2<|dZ (Kq id pa xZ hid) _ rfl ?_;rintro DV ⟨wM,s13⟩;have adR:=xZ.BF s13;have yg:=zM.dQ adR;have wN:=AO.dQ adR;have uw:=AP.dQ adR;have b14:=b11.then s13 (.inl rfl);refine av (au (dJ.err (lD l d (Me m.T l (F7 l.length l.length)) i) id pa))<|Ln<|Fx.qY<|Fx.W0.ret ?_;have hKD:=(b14.block D lDW (by omega)).trans hK;have eD:dJ.err (lD l d (Me m.T l (F7 l.length l.length)) d.length) id pa=m.T.err id pa:=YP h.t.inv J hq1;refine Fx.leaveD hKD (rV Tryz.results170 (show Fx.Mq Tryz.prog _ _ (.tmp 6) (au (dJ.err (lD l d (Me m.T l (F7 l.length l.length)) i) id pa))from rfl)) ⟨by rw[hil,eD],?_⟩;exact(b14.below H H.size hgm).grown (grownBy_putObj' _ D _) (b14.below H H.size hgm).size fun r e=>by cases e; omega
end Go.Proofs.YtahbiajdgealnaaGreatDoor
