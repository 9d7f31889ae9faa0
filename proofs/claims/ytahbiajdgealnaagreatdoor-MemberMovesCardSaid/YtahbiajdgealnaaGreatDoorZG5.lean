/-
  What the proof of the law rests on, part 5: walks of functions, and plain laws; each says its conditions itself.
-/
import Derived.Test.YtahbiajdgealnaaGreatDoorRows
import Derived.OrdersIn
import Derived.Test.YtahbiajdgealnaaGreatDoorZG4
set_option maxRecDepth 20000
set_option linter.unusedVariables false
set_option maxHeartbeats 1600000
set_option linter.unusedSimpArgs false
namespace Go.Proofs.YtahbiajdgealnaaGreatDoor
open Go.RowKit Rt
open Fx (Lv sN Ln Ws Qv Wl Wr Sb Wk sR Wb Wx Wo Qn gX rv aA aP ev cO Stp aW flat down nT bP bR bY bZ gJ gL pY)
section
namespace Rt
structure Inv0(L:fI)(T:Nat):Prop where
 CP:L.tn=L.nn
 nn:L.nn<=32
 tid : ∀ i,i<L.nn->L.t i 0=L.id i/\L.t i 1=L.par i
 rise : ∀ i j,i<j->j<L.nn->L.id i<L.id j
 pos : ∀ i,i<L.nn->1<=L.id i
 top : ∀ i,i<L.nn->L.id i<7696581394432
 up : ∀ i,i<L.nn->L.par i=0 \/ ∃ j,j<L.nn/\L.id j=L.par i
 dep : ∀ x,∃ D,D<=4/\bG L.t L.tn (bI L.t L.tn D x)<0
 gn:L.gn<=T
 rn : ∀ i,i<6->L.rn i<=T
 may : ∀ k,k<L.nn->may (L.R k)=true
 g47 : ∀ k,k<L.nn -> ∀ a,a<6->L.R k a<=140737488355328
 kn:El L.known
theorem ilt(a:Int):a<0\/0<=a:=by omega
theorem iG{t:Nat->Nat->Int}{tn:Nat}{x:Int}:0<=bG t tn x <-> ∃ i,i<tn/\t i 0=x:=by
 constructor
 ·intro h;obtain⟨j,c,_,e⟩:=vQ h;exact⟨j,c,e⟩
 rintro ⟨i,b,e⟩
 rcases je (fun i=>decide (t i 0=x)) tn with ⟨k,_,a,_⟩|⟨_,h2⟩
 ·unfold bG; rw[a]; omega
 have:=h2 i b; rw[f_ e]at this; cases this
theorem vV{t:Nat->Nat->Int}{tn:Nat}{x:Int}:bG t tn x<0 <-> ∀ i,i<tn->t i 0≠x:=by
 constructor
 ·intro h i a e;have:=iG.2 ⟨i,a,e⟩; omega
 intro h
 rcases ilt (bG t tn x)with h1|h1
 ·exact h1
 obtain⟨i,a,e⟩:=iG.1 h1;exact M_ e (h i a)
theorem vW{t:Nat->Nat->Int}{tn i:Nat}(c : ∀ i j,i<tn->j<tn->t i 0=t j 0->i=j)(hi:i<tn):bG t tn (t i 0)=(i:Int):=by
 obtain⟨j,b,e,a⟩:=vQ (iG.2 ⟨i,hi,rfl⟩);rw[e,c j i b hi a]
theorem FY{t:Nat->Nat->Int}{tn:Nat}{x:Int} : ∀ j,bI t tn (j+1) x=bI t tn j (bI t tn 1 x)
 | 0=>rfl
 | j+1=>by
   show t (bG t tn (bI t tn (j+1) x)).toNat 1=t (bG t tn (bI t tn j (bI t tn 1 x))).toNat 1;rw[FY j]
section
variable {L:fI} {T:Nat}
theorem Inv0.inj(h:Inv0 L T) : ∀ i j,i<L.nn->j<L.nn->L.id i=L.id j->i=j:=fun i j a b e=>by
 rcases Nat.lt_trichotomy i j with h1|h1|h1
 ·have:=h.rise i j h1 b; omega
 ·exact h1
 ·have:=h.rise j i h1 a; omega
theorem Inv0.ahG(h:Inv0 L T) : ∀ i j,i<L.tn->j<L.tn->L.t i 0=L.t j 0->i=j:=fun i j a b e=>by
 rw[h.CP]at a b;rw[(h.tid i a).1,(h.tid j b).1]at e;exact h.inj i j a b e
theorem DT{P Q:Nat->Bool} : ∀ {n:Nat},(∀ i,i<n->P i=Q i)->fU P n=fU Q n
 | 0,_=>rfl
 | n+1,h=>by
   simp only[fU];rw[DT (n:=n) fun i a=>h i (by omega),h n (by omega)]
theorem Inv0.node(h:Inv0 L T)(x:Int):L.node x=bG L.t L.tn x:=by
 unfold fI.node bG;rw[h.CP];exact DT fun i a=>by rw[(h.tid i a).1]
theorem Inv0.w(h:Inv0 L T):adJ L T where
 nn:=by have:=h.nn; omega
 gn:=h.gn
 rn:=h.rn
 tn:=h.node
 dx:=fun x=>by obtain⟨D,b,a⟩:=h.dep x; exact⟨D,by omega,a⟩
 may:=h.may
 kn:=h.kn
theorem Inv0.mono{T':Nat}(h:Inv0 L T)(a:T<=T'):Inv0 L T' := { h with gn:=m_ h.gn a,rn:=fun i b=>m_ (h.rn i b) a }
theorem EO{a:Type}{f:Nat->a}{k i:Nat}{v:a}(h:i<k):cO f k v i=f i:=by unfold cO; rw[d_ h]
theorem dK{a:Type}{f:Nat->a}{k:Nat}{v:a}:cO f k v k=v:=by unfold cO; rw[b_ (by omega),d_ rfl]
theorem EP{a:Type}{f:Nat->a}{k i:Nat}{v:a}(h:k<i):cO f k v i=f (i-1):=by unfold cO; rw[b_ (by omega),b_ (by omega)]
theorem dY{k i n:Nat}(b:k<=n)(hi:i<n+1):i=k \/ ∃ j,j<n/\(∀ {α:Type} (f:Nat->α) (v:α),cO f k v i=f j)/\(j<k->i=j)/\(k<=j->i=j+1):=by
 rcases Nat.lt_trichotomy i k with h|h|h
 ·exact .inr ⟨i,by omega,fun f v=>EO h,fun _=>rfl,fun a=>by omega⟩
 ·exact .inl h
 exact .inr ⟨i-1,by omega,fun f v=>EP h,fun a=>by omega,fun _=>by omega⟩
theorem BK{k j n:Nat}(a:j<n) : ∃ i,i<n+1/\i≠k /\ ∀ {α:Type} (f:Nat->α) (v:α),cO f k v i=f j:=by
 by_cases h:j<k
 ·exact⟨j,by omega,by omega,fun f v=>EO h⟩
 exact⟨j+1,by omega,by omega,fun f v=>by rw[EP (by omega)]; rfl⟩
theorem zL(t:Nat->Nat->Int)(k:Nat)(id par:Int)(i:Nat):pJ t k id par i=cO t k (fun j=>if j=0 then id else par) i:=rfl
theorem Ic{P Q:Nat->Bool} : ∀ {n:Nat},(∀ i,i<n->P i=Q i)->down P n=down Q n
 | 0,_=>rfl
 | n+1,h=>by
   unfold down;rw[Ic (n:=n) fun i a=>h i (by omega),h n (by omega)]
structure pQ(t t':Nat->Nat->Int)(tn:Nat)(id par:Int):Prop where
 u : ∀ i j,i<tn->j<tn->t i 0=t j 0->i=j
 u' : ∀ i j,i<tn+1->j<tn+1->t' i 0=t' j 0->i=j
 no : ∀ i,i<tn->t i 0≠id
 old : ∀ i,i<tn -> ∃ j,j<tn+1/\t' j=t i
 new : ∃ j,j<tn+1/\t' j 0=id/\t' j 1=par
 back : ∀ j,j<tn+1->t' j 0=id \/ ∃ i,i<tn/\t' j=t i
variable {t t':Nat->Nat->Int} {tn:Nat} {id par:Int}
theorem pQ.find(h:pQ t t' tn id par){x:Int}:0<=bG t' (tn+1) x<->(0<=bG t tn x\/x=id):=by
 rw[iG,iG];constructor
 ·rintro ⟨j,b,e⟩
  rcases h.back j b with a|⟨i,hi,a⟩
  ·exact .inr (e.symm.trans a)
  exact .inl ⟨i,hi,by rw[<- a]; exact e⟩
 rintro (⟨i,hi,e⟩|e)
 ·obtain⟨j,b,a⟩:=h.old i hi;exact⟨j,b,by rw[a]; exact e⟩
 obtain⟨j,b,a,_⟩:=h.new;exact⟨j,b,a.trans e.symm⟩
theorem pQ.YX(h:pQ t t' tn id par){x:Int}(hx:0<=bG t tn x):t' (bG t' (tn+1) x).toNat 1=t (bG t tn x).toNat 1:=by
 obtain⟨i,b,e⟩:=iG.1 hx;obtain⟨j,f,a⟩:=h.old i b;have c:bG t tn x=(i:Int):=by rw[<- e]; exact vW h.u b
 have d:bG t' (tn+1) x=(j:Int):=by
  have:t' j 0=x:=by rw[a]; exact e
  rw[<- this]; exact vW h.u' f
 rw[c,d];show t' j 1=t i 1;rw[a]
theorem pQ.iter(h:pQ t t' tn id par){x:Int} : ∀ K,(∀ i,i<K->0<=bG t tn (bI t tn i x))->bI t' (tn+1) K x=bI t tn K x
 | 0,_=>rfl
 | K+1,hk=>by
   have a:=pQ.iter h K fun i b=>hk i (by omega);show t' (bG t' (tn+1) (bI t' (tn+1) K x)).toNat 1=t (bG t tn (bI t tn K x)).toNat 1;rw[a]; exact h.YX (hk K (by omega))
theorem vX{t:Nat->Nat->Int}{tn:Nat}{x:Int} : ∀ D,bG t tn (bI t tn D x)<0 -> ∃ K,K<=D/\bG t tn (bI t tn K x)<0 /\ ∀ i,i<K->0<=bG t tn (bI t tn i x)
 | 0,h=>⟨0,A_ _,h,fun _ a=>M_ a (z_ _)⟩
 | D+1,h=>by
   by_cases f : ∀ i,i<D+1->0<=bG t tn (bI t tn i x)
   ·exact⟨D+1,A_ _,h,f⟩
   ·obtain⟨i,a⟩:=Classical.not_forall.1 f;obtain⟨a,o⟩:=Classical.not_imp.1 a
    rcases Nat.lt_or_ge i D with h3|h3
    ·-- an earlier end
     have : ∀ n,n<=D->(∃ j,j<=n/\bG t tn (bI t tn j x)<0) -> ∃ K,K<=n/\bG t tn (bI t tn K x)<0 /\ ∀ i,i<K->0<=bG t tn (bI t tn i x):=by
      intro n
      induction n with
      | zero=>rintro _ ⟨j,m,k⟩; obtain rfl:j=0:=by omega
              exact⟨0,A_ _,k,fun _ a=>M_ a (z_ _)⟩
      | succ n ih =>
        rintro k ⟨j,m,g⟩;by_cases c : ∃ j,j<=n/\bG t tn (bI t tn j x)<0
        ·obtain⟨K,d,l⟩:=ih (by omega) c; exact⟨K,by omega,l⟩
        ·refine⟨n+1,A_ _,?_,fun i a => ?_⟩
         ·by_cases e:j=n+1
          ·rw[<- e]; exact g
          ·exact M_ ⟨j,by omega,g⟩ c
         ·rcases ilt (bG t tn (bI t tn i x))with h7|h7
          ·exact M_ ⟨i,by omega,h7⟩ c
          ·exact h7
     obtain⟨K,d,b⟩:=this i (by omega) ⟨i,A_ _,by omega⟩;exact⟨K,by omega,b⟩
    ·obtain rfl:i=D:=(by omega);obtain⟨K,d,b⟩:=vX (t:=t) (tn:=tn) (x:=x) i (by omega);exact⟨K,by omega,b⟩
theorem pQ.dep(h:pQ t t' tn id par)(z:1<=id)(v : ∀ i,i<tn->t i 1=0\/0<=bG t tn (t i 1))(s:par=0\/0<=bG t tn par)(B:bG t tn 0<0)(o : ∀ x,∃ D,D<=4/\bG t tn (bI t tn D x)<0)(p : ¬ DI t tn par) :
 ∀ x,∃ D,D<=4/\bG t' (tn+1) (bI t' (tn+1) D x)<0:=by
 have A:bG t tn id<0:=vV.2 h.no;have k : ∀ x K,x≠id->bG t tn (bI t tn K x)<0->(∀ i,i<K->0<=bG t tn (bI t tn i x))->bG t' (tn+1) (bI t' (tn+1) K x)<0:=fun x K c f a=>by
  rw[h.iter K a]
  rcases ilt (bG t' (tn+1) (bI t tn K x))with h1|h1
  ·exact h1
  ·exfalso
   rcases h.find.1 h1 with h2|h2
   ·omega
   ·cases K with
    | zero=>exact c h2
    | succ K =>
      have q:=a K (by omega);obtain⟨i,b,e⟩:=iG.1 q;have d:bI t tn (K+1) x=t i 1:=by
       show t (bG t tn (bI t tn K x)).toNat 1=t i 1;rw[<- e,vW h.u b]; rfl
      rw[d]at h2 f
      rcases v i b with h4|h4
      ·omega
      ·omega
 intro x;by_cases c:x=id
 ·subst c;obtain⟨i,b⟩:=Classical.not_forall.1 p;obtain⟨y,b⟩:=Classical.not_imp.1 b;obtain⟨K,f,g,a⟩:=vX (t:=t) (tn:=tn) (x:=par) i (by omega);refine⟨K+1,by omega,?_⟩;have l:bI t' (tn+1) 1 x=par:=by
   obtain⟨j,r,m,d⟩:=h.new;show t' (bG t' (tn+1) x).toNat 1=par;rw[<- m,vW h.u' r]; exact d
  rw[FY,l];refine k par K ?_ g a;rintro rfl
  rcases s with h1|h1 <;> omega
 obtain⟨D,w,n⟩:=o x;obtain⟨K,f,g,a⟩:=vX D n;exact⟨K,by omega,k x K c g a⟩
end
end Rt
end
section
namespace Rt
section
variable {L:fI} {T:Nat} {v:EvM}
theorem YZ{t:Nat->Nat->Int}{tn:Nat}{id par:Int}(h:jF t tn id par=0):id≠0/\bG t tn id<0/\(par=0\/0<=bG t tn par)/\tn<32 /\ ¬ DI t tn par:=by
 unfold jF at h;split at h; · cases h
 rename_i h1;split at h; · cases h
 rename_i h2;split at h; · cases h
 rename_i h3;split at h; · cases h
 rename_i h4;refine⟨h1,by omega,?_,?_,fun b=>h4 (.inr b)⟩
 ·rcases ilt (bG t tn par)with h5|h5
  ·by_cases a:par=0
   ·exact .inl a
   exact M_ ⟨a,h5⟩ h3
  exact .inr h5
 rcases Nat.lt_or_ge tn 32 with h5|h5
 ·exact h5
 exact M_ (Or.inl h5) h4
theorem oz(h:bS v=true):1<=v.o/\v.o<=6/\1<=v.seq/\v.seq<1099511627776:=by
 have a:=iO h;have b:=EJ h;unfold mD at a;simp only[T_,decide_eq_true_eq]at a;exact⟨a.1,a.2,b.1,b.2⟩
theorem rP(h:bS v=true):ji v.o v.seq=1099511627776*v.o+v.seq:=by
 have:=oz h;unfold ji; rw[d_ (by omega)]
theorem mY(h:bS v=true):aO v<6:=by
 have:=oz h; unfold aO; omega
theorem Y0{a:Nat}{n:Int}(ha:a<6)(f:0<=n)(h1:n<=1125899906842624):may (upd (fun _=>0) a n)=true:=by
 have e : ∀ p,upd (fun _=>0) a n p=if p=a then n else 0:=fun p=>rfl;rw[jX];refine⟨fun p l => ?_,fun k h => ?_,?_⟩
 ·rw[e]; split <;> omega
 ·have b : ∀ i j,R (upd (fun _=>0) a n) i j=0:=fun i j=>by unfold R; rw[e,b_ (by omega)]
  refine⟨?_,?_,b k k⟩
  ·unfold L;simp only[b];have g:0<=G (upd (fun _=>0) a n) k:=by unfold G; rw[e]; split <;> omega
   have d:F (upd (fun _=>0) a n) k=0:=(by unfold F; rw[e,b_ (by omega)]);have c:C (upd (fun _=>0) a n) k=0:=(by unfold C; rw[e,b_ (by omega)]);omega
  have d:F (upd (fun _=>0) a n) k=0:=by unfold F; rw[e,b_ (by omega)]
  have c:C (upd (fun _=>0) a n) k=0:=by unfold C; rw[e,b_ (by omega)]
  omega
 unfold nE G;simp only[e];have:(if 0=a then n else 0)+(if 1=a then n else 0)+(if 2=a then n else 0)+(if 3=a then n else 0)+(if 4=a then n else 0)+(if 5=a then n else 0)=n:=six a ha n;omega
theorem xH(h:Inv0 L T)(d:bS v=true)(F:v.kind=1)(f:kP L v=0) : ∃ k,k<=L.nn/\1<=ji v.o v.seq/\L.nn<32/\(0<=v.aU/\v.aU<=140737488355328)/\(v.node=0\/0<=bG L.t L.tn v.node) /\ ¬ DI L.t L.tn v.node /\
 qL L v = { L with nn:=L.nn+1,id:=cO L.id k (ji v.o v.seq),par:=cO L.par k v.node,R:=cO L.R k (upd (fun _=>0) (aO v) v.aU),tn:=L.tn+1,t:=pJ L.t k (ji v.o v.seq) v.node } /\
 (∀ i j,i<j->j<L.nn+1->cO L.id k (ji v.o v.seq) i<cO L.id k (ji v.o v.seq) j)/\(∀ i,i<L.nn+1->pJ L.t k (ji v.o v.seq) v.node i 0=cO L.id k (ji v.o v.seq) i/\pJ L.t k (ji v.o v.seq) v.node i 1=cO L.par k v.node i) /\
 pQ L.t (pJ L.t k (ji v.o v.seq) v.node) L.tn (ji v.o v.seq) v.node:=by
 unfold kP at f;split at f
 ·cases f
 rename_i h47;obtain⟨K,s,w,M,y⟩:=YZ f;have S:=oz d;have U:=rP d;have D:0<=v.aU/\v.aU<=140737488355328:=by
  have Q : ¬ 140737488355328<v.aU:=fun h=>h47 (.inr h);unfold bS at d;simp only[T_]at d;have l:=d.2;unfold dz at l;rw[d_ F]at l;simp only[T_,decide_eq_true_eq]at l;omega
 generalize hx:ji v.o v.seq=x at *;have J:1<=x:=by omega
 have A:down (fun i=>decide (x<L.t i 0)) L.tn=sU L.id L.nn x:=by
  unfold sU; rw[h.CP]; exact Ic fun i a=>by rw[(h.tid i a).1]
 have z:qL L v = { L with nn:=L.nn+1,id:=cO L.id (sU L.id L.nn x) x,par:=cO L.par (sU L.id L.nn x) v.node,R:=cO L.R (sU L.id L.nn x) (upd (fun _=>0) (aO v) v.aU),tn:=L.tn+1,t:=pJ L.t (sU L.id L.nn x) x v.node }:=by
  unfold qL; rw[hx,A]; rfl
 generalize hkk:sU L.id L.nn x=k at *;have c:k<=L.nn:=by rw[<- hkk]; exact Fx.zy _ _
 have G : ∀ i,i<L.nn->L.id i≠x:=fun i a e=>vV.1 s i (by rw[h.CP]; exact a) (by rw[(h.tid i a).1]; exact e);have C : ∀ q,k<=q->q<L.nn->x<L.id q:=fun q b g=>by
  have:=Fx.Jc (P:=fun i=>decide (x<L.id i)) (n:=L.nn) (i:=q) (by show sU L.id L.nn x<=q; omega) g;exact h_ this
 have B : ∀ q,q<k->L.id q<x:=fun q b=>by
  obtain⟨j,rfl⟩ : ∃ j,k=j+1:=⟨k-1,by omega⟩;have g:=Fx.Jd (P:=fun i=>decide (x<L.id i)) (n:=L.nn) (j:=j) hkk;have N : ¬ x<L.id j:=j_ g;have O:=G j (by omega);by_cases e:q=j
  ·subst e; omega
  ·have:=h.rise q j (by omega) (by omega); omega
 have H:L.nn<32:=by have:=h.CP; omega
 have m : ∀ i j,i<j->j<L.nn+1->cO L.id k x i<cO L.id k x j:=fun i j V hj=>by
  rcases dY c (show i<L.nn+1 by omega)with rfl|⟨q,hq,eq,q1,q2⟩
  ·rcases dY c hj with rfl|⟨r,hr,er,r1,r2⟩
   ·omega
   ·rw[dK,er];exact C r (by omega) hr
  ·rcases dY c hj with rfl|⟨r,hr,er,r1,r2⟩
   ·rw[dK,eq];exact B q (by omega)
   ·rw[eq,er];exact h.rise q r (by omega) hr
 have p : ∀ i,i<L.nn+1->pJ L.t k x v.node i 0=cO L.id k x i/\pJ L.t k x v.node i 1=cO L.par k v.node i:=fun i a=>by
  rw[zL]
  rcases dY c a with rfl|⟨q,hq,eq,_,_⟩
  ·rw[dK,dK,dK]; exact⟨rfl,rfl⟩
  ·rw[eq,eq,eq]; exact h.tid q hq
 have E : ∀ i j,i<L.nn+1->j<L.nn+1->cO L.id k x i=cO L.id k x j->i=j:=fun i j a hj e=>by
  rcases Nat.lt_trichotomy i j with b|b|b
  ·have:=m i j b hj; omega
  ·exact b
  ·have:=m j i b a; omega
 have I:pQ L.t (pJ L.t k x v.node) L.tn x v.node := {
  u:=h.ahG
  u':=fun i j a hj e=>by
   rw[h.CP]at a hj;rw[(p i a).1,(p j hj).1]at e;exact E i j a hj e
  no:=vV.1 s
  old:=fun i a=>by
   obtain⟨j,hj,_,e⟩:=BK (k:=k) a;exact⟨j,hj,by rw[zL]; exact e L.t _⟩
  new:=⟨k,by have:=h.CP; omega,by rw[zL,dK]; rfl,by rw[zL,dK]; rfl⟩
  back:=fun j hj=>by
   rw[h.CP]at hj
   rcases dY c hj with rfl|⟨q,hq,eq,_,_⟩
   ·exact .inl (by rw[zL,dK]; rfl)
   ·exact .inr ⟨q,by rw[h.CP]; exact hq,by rw[zL]; exact eq L.t _⟩ }
 exact⟨k,c,J,H,D,w,y,z,m,p,I⟩
theorem Rl(h:Inv0 L T)(c:bS v=true)(w:v.kind=1)(r:kP L v=0):Inv0 (qL L v) (T+1):=by
 obtain⟨k,a,m,K,s,g,n,p,B,E,F⟩:=xH h c w r;have I:=oz c;have J:=rP c;have C:=mY c;rw[p];generalize hx:ji v.o v.seq=x at *;have z : ∀ j,j<L.nn -> ∃ i,i<L.nn+1/\cO L.id k x i=L.id j:=fun j hj=>by
  obtain⟨i,hi,_,e⟩:=BK (k:=k) hj;exact⟨i,hi,e L.id x⟩
 have H:bG L.t L.tn 0<0:=vV.2 fun i hi e=>by
  rw[h.CP]at hi;rw[(h.tid i hi).1]at e;have:=h.pos i hi; omega
 have A:v.node=0 \/ ∃ j,j<L.nn/\L.id j=v.node:=by
  rcases g with e|e
  ·exact .inl e
  ·obtain⟨i,hi,d⟩:=iG.1 e;rw[h.CP]at hi;exact .inr ⟨i,hi,by rw[<- (h.tid i hi).1]; exact d⟩
 exact {
  CP:=by show L.tn+1=L.nn+1; rw[h.CP]
  nn:=by show L.nn+1<=32; omega
  tid:=E
  rise:=B
  pos:=fun i hi=>by
   show 1<=cO L.id k x i
   rcases dY a hi with rfl|⟨q,hq,eq,_,_⟩
   ·rw[dK]; exact m
   ·rw[eq]; exact h.pos q hq
  top:=fun i hi=>by
   show cO L.id k x i<_
   rcases dY a hi with rfl|⟨q,hq,eq,_,_⟩
   ·rw[dK]; omega
   ·rw[eq]; exact h.top q hq
  up:=fun i hi=>by
   show cO L.par k v.node i=0 \/ ∃ j,j<L.nn+1/\cO L.id k x j=cO L.par k v.node i;have l : ∀ y,(y=0 \/ ∃ j,j<L.nn/\L.id j=y)->(y=0 \/ ∃ j,j<L.nn+1/\cO L.id k x j=y):=fun y G=>G.imp id fun⟨j,hj,e⟩=>by
    obtain⟨i,hi,d⟩:=z j hj;exact⟨i,hi,d.trans e⟩
   rcases dY a hi with rfl|⟨q,hq,eq,_,_⟩
   ·rw[dK]; exact l _ A
   ·rw[eq]; exact l _ (h.up q hq)
  dep:=by
   show ∀ y,∃ D,D<=4/\bG (pJ L.t k x v.node) (L.tn+1) (bI (pJ L.t k x v.node) (L.tn+1) D y)<0;refine F.dep m (fun i hi => ?_) g H h.dep n;have f:=hi;rw[h.CP]at f;rw[(h.tid i f).2]
   rcases h.up i f with e|⟨j,hj,e⟩
   ·exact .inl e
   ·exact .inr (iG.2 ⟨j,by rw[h.CP]; exact hj,by rw[(h.tid j hj).1]; exact e⟩)
  gn:=Nat.le_succ_of_le h.gn
  rn:=fun i hi=>Nat.le_succ_of_le (h.rn i hi)
  may:=fun i hi=>by
   show may (cO L.R k _ i)=true
   rcases dY a hi with rfl|⟨q,hq,eq,_,_⟩
   ·rw[dK]; exact Y0 C s.1 (by omega)
   ·rw[eq]; exact h.may q hq
  g47:=fun i hi b u=>by
   show cO L.R k _ i b<=_
   rcases dY a hi with rfl|⟨q,hq,eq,_,_⟩
   ·rw[dK];show(if b=aO v then v.aU else 0)<=_;split <;> omega
   ·rw[eq]; exact h.g47 q hq b u
  kn:=h.kn }
theorem Ie{b:fI}{T':Nat}(h:Inv0 L T)(c:b.nn=L.nn)(d:b.id=L.id)(f:b.par=L.par)(g:b.tn=L.tn)(j:b.t=L.t)(m:b.known=L.known)(n:b.gn<=T')(hr : ∀ i,i<6->b.rn i<=T')
 (l : ∀ k,k<L.nn->may (b.R k)=true /\ ∀ a,a<6->b.R k a<=140737488355328):Inv0 b T' where
 CP:=by rw[c,g]; exact h.CP
 nn:=by rw[c]; exact h.nn
 tid:=by rw[c,d,f,j]; exact h.tid
 rise:=by rw[c,d]; exact h.rise
 pos:=by rw[c,d]; exact h.pos
 top:=by rw[c,d]; exact h.top
 up:=by rw[c,d,f]; exact h.up
 dep:=by rw[g,j]; exact h.dep
 gn:=n
 rn:=hr
 may:=by rw[c]; exact fun k e=>(l k e).1
 g47:=by rw[c]; exact fun k e=>(l k e).2
 kn:=by rw[m]; exact h.kn
def uQ(x:Nat->Int):Prop:=may x=true /\ ∀ a,a<6->x a<=140737488355328
theorem FZ{f:(Nat->Int)->(Nat->Int) × Int}{idx:Nat->Nat}{R:Nat->Nat->Int}{n:Nat}(g : ∀ x,uQ x->(f x).2=0->uQ (f x).1)(d : ∀ k,k<n->uQ (R k)) : ∀ K k,k<n->uQ ((dn f idx R K).1 k)
 | 0,k,hk=>d k hk
 | K+1,k,hk=>by
   have a:=FZ g d (idx:=idx) K;unfold dn;by_cases e:(dn f idx R K).2=0
   ·rw[d_ e];by_cases b:(f ((dn f idx R K).1 (idx K))).2=0
    ·rw[d_ b];show uQ (if k=idx K then _ else _);by_cases c:k=idx K
     ·rw[d_ c]; exact g _ (by rw[<- c]; exact a k hk) b
     ·rw[b_ c]; exact a k hk
    ·rw[b_ b]; exact a k hk
   ·rw[b_ e]; exact a k hk
theorem Y1{x:Nat->Int}{i n:Int}(h:uQ x)(c:(bJ x i n).2=0):uQ (bJ x i n).1:=by
 obtain⟨a,g,_,_,_,_,_,f,_,_,_,e⟩:=Ju c;exact⟨f,fun b d=>by rw[e,gK _ _ _ _ (by omega)]; exact h.2 b d⟩
theorem Y2{x:Nat->Int}{i n:Int}(h:uQ x)(c:(bK x i n).2=0):uQ (bK x i n).1:=by
 obtain⟨a,g,_,_,_,_,f,_,_,_,e⟩:=Jv c;exact⟨f,fun b d=>by rw[e,gK _ _ _ _ (by omega)]; exact h.2 b d⟩
theorem Y3{x:Nat->Int}{i j n:Int}(h:uQ x)(d:(cK x i j n).2=0):uQ (cK x i j n).1:=by
 obtain⟨a,b,k,l,_,_,_,_,_,_,g,e⟩:=zJ d;exact⟨g.may,fun c f=>by rw[e,gK _ _ _ _ (by omega)]; exact h.2 c f⟩
theorem Vh{x:Nat->Int}{a:Nat}{n:Int}(ha:a<6)(h:uQ x)(s:0<=n)(q : ¬ 140737488355328<x a+n):uQ (upd x a (x a+n)):=by
 have d:=(jX x).1 h.1;have e : ∀ p,upd x a (x a+n) p=if p=a then x a+n else x p:=fun p=>rfl;have t:=d.1 a (by omega);have c : ∀ b,b<6->upd x a (x a+n) b<=140737488355328:=fun b l=>by
  rw[e]; split
  ·omega
  ·exact h.2 b l
 refine⟨(jX _).2 ⟨fun p o => ?_,fun k m => ?_,?_⟩,c⟩
 ·have:=d.1 p o;rw[e]; split <;> omega
 ·obtain⟨r,i,j⟩:=d.2.1 k m;have f:C (upd x a (x a+n)) k=C x k:=by unfold C; rw[e,b_ (by omega)]
  have g:F (upd x a (x a+n)) k=F x k:=by unfold F; rw[e,b_ (by omega)]
  refine⟨?_,?_,?_⟩
  ·rw[U5 x a (by omega),f,g,ahn]; split <;> omega
  ·rw[f,g]; exact i
  unfold R; rw[e,b_ (by omega)]; exact j
 unfold nE G;have:=c 0 (by omega); have:=c 1 (by omega); have:=c 2 (by omega); have:=c 3 (by omega); have:=c 4 (by omega); have:=c 5 (by omega);omega
theorem Inv0.Lg(h:Inv0 L T) : ∀ k,k<L.nn->uQ (L.R k):=fun k a=>⟨h.may k a,h.g47 k a⟩
theorem Pq(h:Inv0 L T)(a:Nat) : ∀ i,i<6->aH L.rn a (L.rn a+1) i<=T+1:=fun i b=>by
 unfold aH;by_cases e:i=a
 ·subst e; rw[d_ rfl]; have:=h.rn i b; omega
 ·rw[b_ e]; have:=h.rn i b; omega
theorem Pt{q:Nat}{r:Nat->Int}(h : ∀ k,k<L.nn->uQ (L.R k))(hr:uQ r) : ∀ k,k<L.nn->uQ (aH L.R q r k):=fun k a=>by
 unfold aH; split
 ·exact hr
 ·exact h k a
theorem Inv0.Pv(h:Inv0 L T){x:Int}(hx : ¬ L.node x<0):(L.node x).toNat<L.nn:=by
 rw[h.node]at hx ⊢;obtain⟨j,a,e,_⟩:=vQ (show 0<=bG L.t L.tn x by omega);rw[e]; have:=h.CP; simp; omega
theorem Rm(h:Inv0 L T)(a : ∀ k,k<L.nn->uQ ((nG L v).1 k)):Inv0 (mG L v) (T+1):=by
 unfold mG qN;generalize nG L v=W at a;exact Ie h rfl rfl rfl rfl rfl rfl (Nat.succ_le_succ h.gn) (Pq h _) a
theorem Ro(h:Inv0 L T)(a : ∀ k,k<L.nn->uQ ((mH L v).1 k)):Inv0 (kQ L v) (T+1):=by
 unfold kQ qN;generalize mH L v=W at a;exact Ie h rfl rfl rfl rfl rfl rfl (Nat.le_succ_of_le h.gn) (Pq h _) a
theorem Vi(h:Inv0 L T)(f:bS v=true)(a:dS L v=0):Inv0 (iM L v) (T+1):=by
 have o:=mY f;have e:=h.gn;have d : ∀ i,i<6->L.rn i<=T+1:=fun i n=>Nat.le_succ_of_le (h.rn i n);unfold dS at a;unfold iM;by_cases b:v.kind=1
 ·rw[d_ b]at a ⊢; exact Rl h f b a
 by_cases c:v.kind=2
 ·rw[b_ b,d_ c]at a ⊢;unfold xG at a;split at a; · cases a
  rename_i n1;split at a; · cases a
  rename_i n2;have p:=lI f (.inl c);exact Ie h rfl rfl rfl rfl rfl rfl (Nat.le_succ_of_le e) d (Pt h.Lg (Vh o (h.Lg _ (h.Pv n1)) (by omega) n2))
 by_cases g:v.kind=3
 ·rw[b_ b,b_ c,d_ g]at a ⊢;have j : ∀ k,k<L.nn->uQ ((nG L v).1 k):=by unfold nG; exact FZ (fun x=>Y1) h.Lg _
  exact Rm h j
 by_cases l:v.kind=4
 ·rw[b_ b,b_ c,b_ g,d_ l]at a ⊢;have j : ∀ k,k<L.nn->uQ ((mH L v).1 k):=by unfold mH; exact FZ (fun x=>Y2) h.Lg _
  exact Ro h j
 by_cases m:v.kind=5
 ·rw[b_ b,b_ c,b_ g,b_ l,d_ m]at a ⊢;unfold ow at a;split at a; · cases a
  rename_i n1;split at a; · cases a
  exact Ie h rfl rfl rfl rfl rfl rfl (Nat.le_succ_of_le e) d (Pt h.Lg (Y3 (h.Lg _ (h.Pv n1)) a))
 rw[b_ b,b_ c,b_ g,b_ l,b_ m];split
 ·exact Ie h rfl rfl rfl rfl rfl rfl (Nat.le_succ_of_le e) d h.Lg
 exact Ie h rfl rfl rfl rfl rfl rfl (Nat.le_succ_of_le e) d h.Lg
theorem AZ(h:Inv0 L T):Inv0 (dH L v) (T+1):=by
 unfold dH;by_cases a:bQ L v=0
 ·rw[d_ a];unfold bQ at a;split at a; · cases a
  rename_i h1;split at a; · cases a
  split at a; · cases a
  rename_i h3;split at a; · cases a
  have b:bS v=true:=by simpa using h1
  have c:dI L.known v=true:=by simpa using h3
  have g:=Vi h b a;have k:=mY b;have m:=EJ b;refine { g with kn:=fun i j => ?_ };have e:(DR (iM L v) v).known=aH L.known (aO v) (L.known (aO v)+1):=by unfold DR; simp only[qo]
  rw[e];unfold dI at c;simp only[T_,decide_eq_true_eq]at c;have d:=h.kn;unfold aH;split
  ·have f:=c.1.2;have l:v.seq=L.known (aO v)+1:=f;have:=d (aO v) k;omega
  exact d i j
 rw[b_ a]; exact h.mono (Nat.le_succ T)
end
end Rt
end
section
namespace Rt
def JC(t:Nat->Nat->Int)(tn:Nat)(x y:Int):Nat->Int
 | 0=>0
 | k+1=>JC t tn x y k+if bI t tn k x=y then 1 else 0
def CQ(t:Nat->Nat->Int)(tn:Nat)(x y:Int):Int:=JC t tn x y (fG t tn x)
def qp(t:Nat->Nat->Int)(tn:Nat)(g:Nat->Int)(y:Int):Int:=if g 4=0 then g 3*CQ t tn (g 2) y else 0
def oP(t:Nat->Nat->Int)(tn:Nat)(g:Nat->Nat->Int)(y:Int):Nat->Int
 | 0=>0
 | q+1=>oP t tn g y q+qp t tn (g q) y
structure A8(L:fI):Prop where
 us : ∀ k,k<L.nn->mE (L.R k)=oP L.t L.tn L.g (L.id k) L.gn
 gb : ∀ q,q<L.gn->0<=bG L.t L.tn (L.g q 2)/\1<=L.g q 0/\L.g q 0<=6/\0<=L.g q 3/\L.g q 3<=1125899906842624
structure oL(v:EvM):Prop where
 aU:v.aU<=65536
 req:v.req<=256
structure Rq(L:fI)(T:Nat):Prop where
 kt : ∀ i,i<6->L.known i<=T
 rb : ∀ k,k<L.nn -> ∀ a,a<54->L.R k a<=2097152*T
 rq : ∀ i,i<6 -> ∀ j,j<L.rn i->L.rq i j<=256
structure Inv(L:fI)(T:Nat):Prop extends Inv0 L T where
 s:A8 L
 b:Rq L T
section
variable {L:fI} {T:Nat} {v:EvM}
theorem JD{P:Nat->Bool} : ∀ {n i:Nat},i<lead P n->P i=true
 | 0,i,h=>M_ h (z_ _)
 | n+1,i,h=>by
   unfold lead at h;by_cases e:lead P n=n/\P n=true
   ·rw[d_ e]at h;by_cases a:i=n
    ·rw[a]; exact e.2
    ·exact JD (n:=n) (by omega)
   ·rw[b_ e]at h; exact JD h
theorem BL{t:Nat->Nat->Int}{tn i:Nat}{x:Int}(h:i<fG t tn x):0<=bG t tn (bI t tn i x):=h_ (JD (P:=fun i=>decide (0<=bG t tn (bI t tn i x))) h)
theorem zM{t t':Nat->Nat->Int}{tn b:Nat}{g a:Nat->Nat->Int}{y c:Int} : ∀ n,(∀ q,q<n->qp t' b (a q) c=qp t tn (g q) y)->oP t' b a c n=oP t tn g y n
 | 0,_=>rfl
 | n+1,h=>by unfold oP; rw[zM n fun q d=>h q (by omega),h n (by omega)]
theorem Ig{t:Nat->Nat->Int}{tn:Nat}{g:Nat->Nat->Int}{y:Int} : ∀ n,(∀ q,q<n->qp t tn (g q) y=0)->oP t tn g y n=0
 | 0,_=>rfl
 | n+1,h=>by unfold oP; rw[Ig n fun q a=>h q (by omega),h n (by omega)]; rfl
theorem Lh{t:Nat->Nat->Int}{tn k:Nat}{g:Nat->Nat->Int}{x:Nat->Int}{y:Int} : ∀ n,k<n->oP t tn (aH g k x) y n=oP t tn g y n-qp t tn (g k) y+qp t tn x y
 | 0,h=>M_ h (z_ _)
 | n+1,h=>by
   unfold oP;by_cases e:k=n
   ·subst e;rw[zM (t:=t) (tn:=tn) (g:=g) (y:=y) k fun q a=>by unfold aH; rw[b_ (by omega)]];unfold aH; rw[d_ rfl]; omega
   ·rw[Lh n (by omega)];have:aH g k x n=g n:=b_ (fun h=>e h.symm);rw[this]; omega
theorem Li{t:Nat->Nat->Int}{tn k:Nat}{g:Nat->Nat->Int}{x:Nat->Int}{y:Int} : ∀ n,k<=n->oP t tn (cO g k x) y (n+1)=oP t tn g y n+qp t tn x y
 | 0,h=>by
   obtain rfl:k=0:=(by omega);show(0:Int)+qp t tn (cO g 0 x 0) y=0+_;rw[dK]
 | n+1,h=>by
   by_cases e:k=n+1
   ·subst e;show oP t tn (cO g (n+1) x) y (n+1)+qp t tn (cO g (n+1) x (n+1)) y=_;rw[dK,zM (t:=t) (tn:=tn) (g:=g) (y:=y) (n+1) fun q a=>by rw[EO a]]
   ·show oP t tn (cO g k x) y (n+1)+qp t tn (cO g k x (n+1)) y=oP t tn g y n+qp t tn (g n) y+_;rw[Li n (by omega),EP (by omega),Nat.add_sub_cancel]; omega
def Vj(idx:Nat->Nat)(k:Nat):Nat->Int
 | 0=>0
 | j+1=>Vj idx k j+if idx j=k then 1 else 0
theorem CS{f:(Nat->Int)->(Nat->Int) × Int}{idx:Nat->Nat}{R:Nat->Nat->Int}{d:Int}(e : ∀ x,(f x).2=0->mE (f x).1=mE x+d) : ∀ K,(dn f idx R K).2=0 -> ∀ k,mE ((dn f idx R K).1 k)=mE (R k)+d*Vj idx k K
 | 0,_,k=>by show mE (R k)=mE (R k)+d*0; omega
 | K+1,h,k=>by
   unfold dn at h ⊢;by_cases a:(dn f idx R K).2=0
   ·have g:=CS e K a k;rw[d_ a]at h ⊢;by_cases b:(f ((dn f idx R K).1 (idx K))).2=0
    ·rw[d_ b];show mE (aH _ (idx K) _ k)=_;unfold aH Vj;rw[Int.mul_add];by_cases c:k=idx K
     ·subst c;rw[d_ rfl,d_ rfl,e _ b,g]; omega
     ·rw[b_ c,b_ (fun h=>c h.symm),g]; omega
    ·rw[b_ b]at h; exact M_ h b
   ·rw[b_ a]at h; exact M_ h a
theorem NG{t:Nat->Nat->Int}{tn k:Nat}{x y:Int}{idx:Nat->Nat} : ∀ K,(∀ i,i<K->(idx i=k<->bI t tn i x=y))->Vj idx k K=JC t tn x y K
 | 0,_=>rfl
 | K+1,h=>by
   unfold Vj JC;rw[NG K fun i b=>h i (by omega)];by_cases e:idx K=k
   ·rw[d_ e,d_ ((h K (by omega)).1 e)]
   ·rw[b_ e,b_ (fun a=>e ((h K (by omega)).2 a))]
theorem ER(h:Inv0 L T){x:Int}{i k:Nat}(g:k<L.nn)(hi:i<fG L.t L.tn x):oK L x i=k<->bI L.t L.tn i x=L.id k:=by
 obtain⟨j,f,e,c⟩:=vQ (BL hi);have b:j<L.nn:=by rw[<- h.CP]; exact f
 have l:oK L x i=j:=by unfold oK; rw[h.node,e]; rfl
 rw[l];have a:L.id j=bI L.t L.tn i x:=by rw[<- (h.tid j b).1]; exact c
 constructor
 ·rintro rfl; exact a.symm
 intro d; exact h.inj j k b g (a.trans d)
theorem Lj{x:Nat->Int}{a:Nat}{n:Int}(ha:a<6):mE (upd x a n)=mE x:=by
 have b : ∀ k,C (upd x a n) k=C x k:=fun k=>gK _ _ _ _ (by omega);have c : ∀ k,F (upd x a n) k=F x k:=fun k=>gK _ _ _ _ (by omega);unfold mE; simp only[b,c]
theorem Vk(h:bS v=true)(b:v.kind=4):1<=v.req:=by
 unfold bS at h;simp only[T_]at h;have a:=h.2;unfold dz at a;rw[b_ (by omega),b_ (by omega),b_ (by omega),d_ b]at a;simp only[T_,decide_eq_true_eq]at a;exact a.1.1
theorem adK{n k:Nat}{g:Nat->Nat->Int}{x:Nat->Int}(a:k<=n)(P:(Nat->Int)->Prop)(h : ∀ q,q<n->P (g q))(hx:P x) : ∀ q,q<n+1->P (cO g k x q):=fun q b=>by
 rcases dY a b with rfl|⟨j,hj,e,_,_⟩
 ·rw[dK]; exact hx
 ·rw[e]; exact h j hj
attribute [local irreducible] fG in
theorem NH(j:Inv0 L T)(h:A8 L)(e:bS v=true)(b:v.kind=3)(a:iU L v=0):A8 (mG L v):=by
 unfold iU at a;split at a; · cases a
 split at a; · cases a
 rename_i hp;have c:=oz e;have l:=lI e (.inr (.inl b));unfold mG qN;have p:=CS (f:=fun x=>bJ x v.o v.aU) (idx:=oK L v.node) (R:=L.R) (d:=v.aU) (fun x s=>by obtain⟨_,_,_,_,_,_,_,_,_,_,r,_⟩:=Ju s; exact r) _ a;refine⟨fun k b => ?_,fun q n => ?_⟩
 ·show mE ((nG L v).1 k)=oP L.t L.tn (cO L.g (down (fun i=>FM v (L.g i)) L.gn) (qC v)) (L.id k) (L.gn+1);rw[Li _ (Fx.zy _ _)];have:=p k;rw[show qp L.t L.tn (qC v) (L.id k)=v.aU*CQ L.t L.tn v.node (L.id k)from rfl,<- h.us k b];unfold CQ;rw[<- NG (idx:=oK L v.node) (k:=k) _ fun i m=>ER j b m];exact this
 exact adK (Fx.zy _ _) (fun y=>0<=bG L.t L.tn (y 2)/\1<=y 0/\y 0<=6/\0<=y 3/\y 3<=1125899906842624) h.gb
  ⟨BL (i:=0) (x:=v.node) (by omega),c.1,c.2.1,by show 0<=v.aU; omega,l.2⟩ q n
attribute [local irreducible] fG in
theorem NI(s:Inv0 L T)(h:A8 L)(z:bS v=true)(c:v.kind=4)(b:iL L v=0):A8 (kQ L v):=by
 unfold iL at b;split at b; · cases b
 split at b; · cases b
 rename_i l;have F:=Vk z c
 have E:0<=L.grant v.o v.of:=by rcases ilt (L.grant v.o v.of)with h|h; · exact M_ (.inl h) l
                                ·exact h
 have D:L.g (Ap L v) 4=0:=by
  by_cases e:L.g (Ap L v) 4=0
  ·exact e
  ·exact M_ (.inr e) l
 have n:Ap L v<L.gn:=by
  rcases je (fun i=>decide (L.g i 0=v.o)&&decide (L.g i 1=v.of)) L.gn with ⟨k,c,e,_⟩|⟨e,_⟩
  ·have m:L.grant v.o v.of=(k:Int):=e;unfold Ap; rw[m]; exact c
  ·have m:L.grant v.o v.of = -1:=e;omega
 unfold kQ qN mH;unfold mH at b;generalize Ap L v=q at *;have A:=CS (f:=fun x=>bK x v.o (L.g q 3)) (idx:=oK L (L.g q 2)) (R:=L.R) (d := -(L.g q 3)) (fun x C=>by obtain⟨_,_,_,_,_,_,_,_,_,B,_⟩:=Jv C; rw[B]; omega) _ b;have u:=h.gb q n;refine⟨fun k c => ?_,fun p l => ?_⟩
 ·show mE ((dn _ _ _ _).1 k)=oP L.t L.tn (aH L.g q (aH (L.g q) 4 v.req)) (L.id k) L.gn;rw[Lh _ n,<- h.us k c,A k];have a:qp L.t L.tn (aH (L.g q) 4 v.req) (L.id k)=0:=by
   unfold qp; rw[b_]; show ¬ v.req=0; omega
  have r:qp L.t L.tn (L.g q) (L.id k)=L.g q 3*CQ L.t L.tn (L.g q 2) (L.id k):=d_ D;rw[a,r];unfold CQ;rw[<- NG (idx:=oK L (L.g q 2)) (k:=k) _ fun i w=>ER s c w,Int.neg_mul];omega
 show 0<=bG L.t L.tn (aH L.g q (aH (L.g q) 4 v.req) p 2)/\1<=aH L.g q (aH (L.g q) 4 v.req) p 0/\aH L.g q (aH (L.g q) 4 v.req) p 0<=6/\0<=aH L.g q (aH (L.g q) 4 v.req) p 3/\aH L.g q (aH (L.g q) 4 v.req) p 3<=1125899906842624;by_cases e:p=q
 ·subst e;have a : ∀ j,j≠4->aH L.g p (aH (L.g p) 4 v.req) p j=L.g p j:=fun j y=>by
   show(if p=p then aH (L.g p) 4 v.req else L.g p) j=_;rw[d_ rfl]; exact b_ y
  rw[a 2 (by omega),a 0 (by omega),a 3 (by omega)]; exact u
 have a:aH L.g q (aH (L.g q) 4 v.req) p=L.g p:=b_ e;rw[a]; exact h.gb p l
theorem JE{a:fI}(h:A8 L)(j:a.nn=L.nn)(l:a.id=L.id)(c:a.tn=L.tn)(d:a.t=L.t)(e:a.gn=L.gn)(f:a.g=L.g)(m : ∀ k,k<L.nn->mE (a.R k)=mE (L.R k)):A8 a:=by
 refine⟨fun k b => ?_,fun q i => ?_⟩
 ·rw[j]at b; rw[l,c,d,e,f,m k b]; exact h.us k b
 rw[e]at i; rw[c,d,f]; exact h.gb q i
theorem Vl{q:Nat}{r:Nat->Int}{R:Nat->Nat->Int}(hr:mE r=mE (R q))(k:Nat):mE (aH R q r k)=mE (R k):=by
 unfold aH; split
 ·rename_i e; rw[e]; exact hr
 rfl
theorem pQ.path{t t':Nat->Nat->Int}{tn:Nat}{id par z y:Int}(h:pQ t t' tn id par)(A:1<=id)(r : ∀ i,i<tn->t i 1=0\/0<=bG t tn (t i 1))(p : ∃ D,D<=4/\bG t tn (bI t tn D z)<0)(C:0<=bG t tn z) :
 CQ t' (tn+1) z y=CQ t tn z y/\(y=id->CQ t tn z y=0):=by
 obtain⟨D,w,g⟩:=p;obtain⟨K,x,c,a⟩:=vX D g;have f:=vS a c g (by omega);have d : ∀ i,i<=K->bI t' (tn+1) i z=bI t tn i z:=fun i b=>h.iter i fun j B=>a j (by omega);have k:bG t' (tn+1) (bI t' (tn+1) K z)<0:=by
  rw[d K (A_ _)]
  rcases ilt (bG t' (tn+1) (bI t tn K z))with h1|h1
  ·exact h1
  ·exfalso
   rcases h.find.1 h1 with h2|h2
   ·omega
   ·cases K with
    | zero=>have:bG t tn z<0:=c; omega
    | succ K =>
      obtain⟨i,b,e⟩:=iG.1 (a K (by omega));have l:bI t tn (K+1) z=t i 1:=by
       show t (bG t tn (bI t tn K z)).toNat 1=t i 1;rw[<- e,vW h.u b]; rfl
      rw[l]at h2 c
      rcases r i b with h4|h4
      ·omega
      ·omega
 have m:=vS (fun i b=>by rw[d i (by omega)]; exact h.find.2 (.inl (a i b))) k k (by omega);have o : ∀ n,n<=K->JC t' (tn+1) z y n=JC t tn z y n:=by
  intro n
  induction n with
  | zero=>intro _; rfl
  | succ n ih=>intro q; unfold JC; rw[ih (by omega),d n (by omega)]
 refine⟨?_,fun s => ?_⟩
 ·unfold CQ; rw[<- f,<- m]; exact o K (A_ _)
 subst s;have : ∀ n,n<=K->JC t tn z y n=0:=by
  intro n
  induction n with
  | zero=>intro _; rfl
  | succ n ih =>
    intro q; unfold JC;rw[ih (by omega),b_]
    ·rfl
    ·intro e;have:=a n (by omega);rw[e]at this;have v:=vV.2 h.no;omega
 unfold CQ; rw[<- f]; exact this K (A_ _)
attribute [local irreducible] fG in
theorem NJ(a:Inv0 L T)(h:A8 L)(l:bS v=true)(s:v.kind=1)(r:kP L v=0):A8 (qL L v):=by
 obtain⟨k,u,A,E,D,B,C,p,F,G,n⟩:=xH a l s r;have z:=mY l;rw[p];generalize ji v.o v.seq=x at *;have w : ∀ i,i<L.tn->L.t i 1=0\/0<=bG L.t L.tn (L.t i 1):=fun i c=>by
  have d:=c;rw[a.CP]at d;rw[(a.tid i d).2]
  rcases a.up i d with e|⟨j,hj,e⟩
  ·exact .inl e
  ·exact .inr (iG.2 ⟨j,by rw[a.CP]; exact hj,by rw[(a.tid j hj).1]; exact e⟩)
 have m : ∀ q,q<L.gn -> ∀ y,CQ (pJ L.t k x v.node) (L.tn+1) (L.g q 2) y=CQ L.t L.tn (L.g q 2) y/\(y=x->CQ L.t L.tn (L.g q 2) y=0):=fun q b y=>n.path A w (a.dep _) (h.gb q b).1;refine⟨fun i c => ?_,fun q b => ?_⟩
 ·show mE (cO L.R k (upd (fun _=>0) (aO v) v.aU) i)=oP (pJ L.t k x v.node) (L.tn+1) L.g (cO L.id k x i) L.gn;rw[zM (t:=L.t) (tn:=L.tn) (g:=L.g) (y:=cO L.id k x i) L.gn fun q b=>by unfold qp; rw[(m q b _).1]]
  rcases dY u c with rfl|⟨j,hj,e,_,_⟩
  ·rw[dK,dK,Lj z,Ig L.gn fun q b=>by unfold qp; rw[(m q b _).2 rfl,Int.mul_zero]; exact ite_self _];rfl
  rw[e,e]; exact h.us j hj
 have f:=h.gb q b;exact⟨n.find.2 (.inl f.1),f.2⟩
theorem Ih(g:Inv0 L T)(h:A8 L)(c:bS v=true)(a:dS L v=0):A8 (iM L v):=by
 have l:=mY c;unfold dS at a;unfold iM;by_cases b:v.kind=1
 ·rw[d_ b]at a ⊢; exact NJ g h c b a
 by_cases d:v.kind=2
 ·rw[b_ b,d_ d]at a ⊢;exact JE h rfl rfl rfl rfl rfl rfl fun k _=>Vl (Lj l) k
 by_cases e:v.kind=3
 ·rw[b_ b,b_ d,d_ e]at a ⊢; exact NH g h c e a
 by_cases f:v.kind=4
 ·rw[b_ b,b_ d,b_ e,d_ f]at a ⊢; exact NI g h c f a
 by_cases i:v.kind=5
 ·rw[b_ b,b_ d,b_ e,b_ f,d_ i]at a ⊢;unfold ow at a;split at a; · cases a
  split at a; · cases a
  obtain⟨_,_,_,_,_,_,_,_,_,_,j,_⟩:=zJ a;exact JE h rfl rfl rfl rfl rfl rfl fun k _=>Vl j.u k
 rw[b_ b,b_ d,b_ e,b_ f,b_ i];split
 ·exact JE h rfl rfl rfl rfl rfl rfl fun _ _=>rfl
 exact JE h rfl rfl rfl rfl rfl rfl fun _ _=>rfl
theorem Vm{t:Nat->Nat->Int}{tn D:Nat}{x:Int}(h:bG t tn (bI t tn D x)<0):fG t tn x<=D:=by
 rcases Nat.lt_or_ge D (fG t tn x)with h1|h1
 ·have:=BL h1; omega
 exact h1
theorem Inv0.ahH(h:Inv0 L T)(x:Int):fG L.t L.tn x<=4:=by
 obtain⟨D,b,a⟩:=h.dep x;have:=Vm a; omega
theorem BM{x:Nat->Int}{p:Nat}{n c:Int}(h : ∀ a,a<54->x a<=c)(d:n<=c) : ∀ a,a<54->upd x p n a<=c:=fun a b=>by
 show(if a=p then n else x a)<=c;split
 ·exact d
 ·exact h a b
theorem F3{f:(Nat->Int)->(Nat->Int) × Int}{idx:Nat->Nat}{R:Nat->Nat->Int}{n:Nat}{B d:Int}(o:0<=d)(m : ∀ x c,(f x).2=0->(∀ a,a<54->x a<=c) -> ∀ a,a<54->(f x).1 a<=c+d)(j : ∀ k,k<n -> ∀ a,a<54->R k a<=B) : ∀(K:Nat) k,k<n -> ∀ a,a<54->(dn f idx R K).1 k a<=B+d*(K:Int)
 | 0,k,hk,a,ha=>by have h:=j k hk a ha; show R k a<=B+d*0; omega
 | K+1,k,hk,a,ha=>by
   have b:=F3 o m j (idx:=idx) K;have e:d*((K+1:Nat):Int)=d*(K:Int)+d:=(by rw[Int.natCast_succ,Int.mul_add,Int.mul_one]);rw[e];unfold dn;by_cases l:(dn f idx R K).2=0
   ·rw[d_ l];by_cases g:(f ((dn f idx R K).1 (idx K))).2=0
    ·rw[d_ g];show(if k=idx K then _ else _:Nat->Int) a<=_;by_cases i:k=idx K
     ·rw[d_ i];have:=m _ (B+d*(K:Int)) g (by rw[<- i]; exact b k hk) a ha; omega
     ·rw[b_ i]; have:=b k hk a ha; omega
    ·rw[b_ g]; have:=b k hk a ha; show(dn f idx R K).1 k a<=_; omega
   ·rw[b_ l]; have:=b k hk a ha; omega
theorem Vn{i n c:Int}{x:Nat->Int}(g:n<=65536)(h:(bJ x i n).2=0)(hx : ∀ a,a<54->x a<=c) : ∀ a,a<54->(bJ x i n).1 a<=c+65536:=by
 obtain⟨a,f,_,_,_,_,_,_,_,_,_,e⟩:=Ju h;rw[e];have:=hx (6+a) (by omega);exact BM (fun b d=>by have:=hx b d; omega) (by omega)
theorem Vo{i n c:Int}{x:Nat->Int}(h:(bK x i n).2=0)(hx : ∀ a,a<54->x a<=c) : ∀ a,a<54->(bK x i n).1 a<=c+0:=by
 obtain⟨a,g,_,_,_,b,_,_,_,_,e⟩:=Jv h;rw[e,D_];have d:=hx (6+a) (by omega);have f:n<=x (6+a)-x (12+a):=b;exact BM hx (by omega)
theorem Pw(h:Rq L T){a:Nat}{r:Int}(hr:r<=256) : ∀ i,i<6 -> ∀ j,j<aH L.rn a (L.rn a+1) i->aH L.rq a (aH (L.rq a) (L.rn a) r) i j<=256:=fun i d j b=>by
 unfold aH at b ⊢;by_cases e:i=a
 ·subst e;rw[d_ rfl]at b ⊢;by_cases c:j=L.rn i
  ·rw[d_ c]; exact hr
  ·rw[b_ c]; exact h.rq i d j (by omega)
 ·rw[b_ e]at b ⊢; exact h.rq i d j b
attribute [local irreducible] fG in
theorem Ru(A:Inv0 L T)(h:Rq L T)(E:oL v)(D:bS v=true)(d:dS L v=0) :
 (∀ k,k<(iM L v).nn -> ∀ a,a<54->(iM L v).R k a<=2097152*((T+1:Nat):Int))/\(∀ i,i<6 -> ∀ j,j<(iM L v).rn i->(iM L v).rq i j<=256):=by
 have m:=jf D;have ab:=mY D;have u : ∀ k,k<L.nn -> ∀ a,a<54->L.R k a<=2097152*((T+1:Nat):Int):=fun k m a l=>by have:=h.rb k m a l; omega
 have G : ∀ q r,(∀ a,a<54->r a<=2097152*((T+1:Nat):Int)) -> ∀ k,k<L.nn -> ∀ a,a<54->aH L.R q r k a<=2097152*((T+1:Nat):Int):=fun q r O k m a l=>by
  unfold aH; split
  ·exact O a l
  ·exact u k m a l
 have P:=E.aU;unfold dS at d;unfold iM;by_cases s:v.kind=1
 ·rw[d_ s]at d ⊢;obtain⟨k,N,ae,Z,Y,Q,S,I,aa,ac,ad⟩:=xH A D s d;rw[I];refine⟨fun i M a l => ?_,h.rq⟩;show cO L.R k (upd (fun _=>0) (aO v) v.aU) i a<=_
  rcases dY N M with rfl|⟨j,hj,e,_,_⟩
  ·rw[dK];exact BM (c:=2097152*((T+1:Nat):Int)) (fun b _=>by omega) (by omega) a l
  rw[e]; exact u j hj a l
 by_cases z:v.kind=2
 ·rw[b_ s,d_ z]at d ⊢;unfold xG at d;split at d; · cases d
  rename_i n1;split at d; · cases d
  have w:=A.Pv n1;have J:=h.rb _ w (aO v) (by omega);exact⟨G _ _ (BM (fun b B=>u _ w b B) (by omega)),h.rq⟩
 by_cases C:v.kind=3
 ·rw[b_ s,b_ z,d_ C]at d ⊢;have y : ∀ k,k<L.nn -> ∀ a,a<54->(nG L v).1 k a<=2097152*((T+1:Nat):Int):=fun k m a l=>by
   have U:=A.ahH v.node;have:=F3 (f:=fun x=>bJ x v.o v.aU) (idx:=oK L v.node) (by decide) (fun x c=>Vn P) h.rb (fG L.t L.tn v.node) k m a l;unfold nG; omega
  unfold mG qN;generalize nG L v=W at y;exact⟨y,Pw h E.req⟩
 by_cases F:v.kind=4
 ·rw[b_ s,b_ z,b_ C,d_ F]at d ⊢;have y : ∀ k,k<L.nn -> ∀ a,a<54->(mH L v).1 k a<=2097152*((T+1:Nat):Int):=fun k m a l=>by
   have:=F3 (f:=fun x=>bK x v.o (L.g (Ap L v) 3)) (idx:=oK L (L.g (Ap L v) 2)) (N_ 0) (fun x c=>Vo) h.rb (fG L.t L.tn (L.g (Ap L v) 2)) k m a l;unfold mH; omega
  unfold kQ qN;generalize mH L v=W at y;exact⟨y,Pw h E.req⟩
 by_cases H:v.kind=5
 ·rw[b_ s,b_ z,b_ C,b_ F,d_ H]at d ⊢;unfold ow at d;split at d; · cases d
  rename_i n1;split at d; · cases d
  have w:=A.Pv n1;obtain⟨a,b,l,B,_,_,_,_,_,_,_,e⟩:=zJ d;have J:=h.rb _ w (18+a*6+b) (by omega);have K:=G (L.node v.node).toNat _ (BM (x:=L.R (L.node v.node).toNat) (p:=18+a*6+b) (n:=L.R (L.node v.node).toNat (18+a*6+b)+v.aU) (fun b B=>u _ w b B) (by omega));refine⟨?_,h.rq⟩;show ∀ k,k<L.nn -> ∀ c,c<54->aH L.R (L.node v.node).toNat (vU L v).1 k c<=_;unfold vU;rw[e]; exact K
 rw[b_ s,b_ z,b_ C,b_ F,b_ H];split
 ·exact⟨u,h.rq⟩
 exact⟨u,h.rq⟩
theorem Rq.mono{T':Nat}(h:Rq L T)(e:T<=T'):Rq L T' where
 kt:=fun i c=>by have:=h.kt i c; omega
 rb:=fun k d a b=>by have:=h.rb k d a b; omega
 rq:=h.rq
theorem Ii(j:oL v)(h:Inv L T):Inv (dH L v) (T+1):=by
 refine⟨AZ h.toInv0,?_,?_⟩ <;> unfold dH <;> by_cases a:bQ L v=0
 ·rw[d_ a];unfold bQ at a;split at a; · cases a
  rename_i d;split at a; · cases a
  split at a; · cases a
  split at a; · cases a
  have e:bS v=true:=by simpa using d
  have c:=Ih h.toInv0 h.s e a;exact⟨c.us,c.gb⟩
 ·rw[b_ a]; exact h.s
 ·rw[d_ a];unfold bQ at a;split at a; · cases a
  rename_i d;split at a; · cases a
  split at a; · cases a
  split at a; · cases a
  have e:bS v=true:=by simpa using d
  have c:=Ru h.toInv0 h.b j e a;refine⟨fun i g => ?_,c.1,c.2⟩;have f:(DR (iM L v) v).known=aH L.known (aO v) (L.known (aO v)+1):=by unfold DR; simp only[qo]
  rw[f];have d:=h.b.kt i g;have k:=h.b.kt (aO v) (mY e);unfold aH;split <;> omega
 rw[b_ a]; exact h.b.mono (Nat.le_succ T)
theorem Inv.mono{T':Nat}(h:Inv L T)(a:T<=T'):Inv L T':=⟨h.toInv0.mono a,h.s,h.b.mono a⟩
end
end Rt
end
section
namespace Rt
def evX(e:Nat->EvM):Nat->Value:=flat 14 fun k=>bV (e k)
noncomputable def oQ(e:Nat->EvM)(K:Nat->Int)(L:fI):Nat->fI
 | 0=>L
 | j+1=>if(e j).seq<=K (aO (e j))then dH (oQ e K L j) (e j)else oQ e K L j
def Ll(L M:fI):Prop := ∀ i,i<6->L.known i=M.known i
open Classical in
noncomputable def iV(e:Nat->EvM)(n:Nat)(K:Nat->Int):Nat->fI->fI
 | 0,L=>L
 | f+1,L=>if Ll (oQ e K L n) L then oQ e K L n else iV e n K f (oQ e K L n)
noncomputable def F4(e:Nat->EvM)(n:Nat)(K:Nat->Int)(L:fI):fI:=iV e n K (n+1) L
section
variable {e:Nat->EvM} {K:Nat->Int} {L M M':fI} {j n r:Nat}
theorem Vp(h:M=oQ e K L j)(b:(e j).seq<=K (aO (e j)))(a:M'=dH M (e j)):M'=oQ e K L (j+1):=by unfold oQ; rw[d_ b,<- h,a]
theorem Y4(h:M=oQ e K L j)(a : ¬ (e j).seq<=K (aO (e j))):M=oQ e K L (j+1):=by unfold oQ; rw[b_ a,<- h]
theorem Rv(hr:r<=n)(h:M=oQ e K L n)(a:Ll M L):iV e n K (n+1-r) L=M:=by
 rw[show n+1-r=(n-r)+1 by omega]; unfold iV; rw[<- h,d_ a]
theorem Vq(hr:r<=n)(h:M=oQ e K L n)(a : ¬ Ll M L):iV e n K (n+1-(r+1)) M=iV e n K (n+1-r) L:=by
 rw[show n+1-r=(n-r)+1 by omega,show n+1-(r+1)=n-r by omega]
 conv=>rhs; unfold iV
 rw[<- h,b_ a]
theorem Ij{m a:lV}:Ll m.core a.core <-> ∀ i,i<6->(rv .u64 m.s.known) i=(rv .u64 a.s.known) i:=by
 unfold Ll rv;simp only[Value.int.injEq,true_and]; exact Iff.rfl
end
theorem El.kd{K:Nat->Int}(h:El K):Fx.Kd (List.replicate 6 (some .u64)) (rv .u64 K):=Fx.OG fun i a=>Fx.qQ (by have:=h i a; omega)
end Rt
attribute [irreducible] Rt.iV
set_option maxRecDepth 20000 in
theorem Y5(m:lV)(B p T:Nat)(O:Option Addr)(an E:Nat)(ev:Nat->EvM)(K:Nat->Int)(w:World)(hL:wF w B p m)(hI:Inv m.core T)(hA:nT w O an 14 (evX ev))(hwf : ∀ k,k<an->gU (ev k))(hmay : ∀ k,k<an->bS (ev k)=true)(hsm : ∀ k,k<an->oL (ev k))(han:an<=60)(hT:T<=890000) :
 Calls Tryz.prog 37 #[(pt p),.slice O (an) (E),.agg (aA 6 (rv .u64 K))] w fun e w' => ∃ p' m',e = .returned (pt p')/\m'.core=F4 ev an K m.core/\Inv m'.core (T+3660)/\wF w' B p' m'/\Below w.heap.size w w':=by
 refine Kent Tryz.func37 59 ?_;refine ay<|rE fun H w1 lN g s1 z1 => ?_;have⟨l,b1⟩:=fF s1.old hL (Below.refl w.heap.size w);refine av (.pointer none)<|aD<|Ws<|ay<|av (au 0)<|aD<|Wb<|Wo (fun f z => ∃ r:Nat,∃ x:Nat,∃ g:lV,∃ N:Nat,r<=an+1/\iV ev an K (an+1-r) g.core=F4 ev an K m.core/\Inv g.core N/\N<=T+r*60/\f 0=(pt x)/\f 1 = .slice O (an) (E)/\f 5=(pt H)/\f 7=au (r:Int)/\aP z H 6 (rv .u64 K) 30/\wF z B x g/\Below w.heap.size w z) (fun f _=>(an+1-(intOf (f 7)).toNat)) ⟨0,p,m,T,by omega,rfl,hI,by omega,(by rfl),(by rfl),(by rfl),Fx.ic,g,l,b1⟩ ?_;rintro f1 w2 ⟨r,x,g,N,hr,hc1,S,hT1,h1,h2,h3,h4,m3,m4,b2⟩;refine Ws<|ay<|aT h4<|aT h2<|av (au an) ?_;by_cases c13:(r:Int)<=(an:Int)
 ·refine Lv aG (nM c13)<|aD<|aL<|Wk<|sN<|Ws<|Wb<|Ws ?_;have ahI:=m4.c;refine Wl<|aT h1<|av (pt x)<|av (pt x)<|av (pf x 12)<|Lv (.agg (aA 6 (rv .u64 g.s.known))) (fJ ahI.aI 12 (fun j V=>mF _ (by omega) (nK _ V (by omega))))<|uW 6 (rv .u64 (fun _=>0)) fun g2 w3 yD m5 s2 z2 => ?_;have⟨m6,m7,b3⟩:=jr s2.old m3 m4 b2;have qW:=iT yD b2.size;have⟨aaV,abb⟩:=vH yD m3.lt ahI.lt;have zY:=m5.lt;refine fq m5 0 fun w4 m9 s3 z3 => ?_;have m10:aP w4 g2 6 (rv .u64 g.s.known) 30:=aW m9;have m11:=m6.cZ s3 (by omega);have gD:=gX s3 m5.ty;have m12:=jT gD m7;have b4:=s3.below b3 b3.size (by omega);refine aD<|Ws<|ay<|av (au 0)<|aD<|Wb<|Wo (fun f z => ∃ j:Nat,∃ u:Nat,∃ l:lV,∃ A:Nat,j<=an/\l.core=oQ ev K g.core j/\Inv l.core A/\A<=T+r*60+j/\f 0=(pt u)/\f 1 = .slice O (an) (E)/\f 5=(pt H)/\f 7=au (r:Int)/\f 8=(pt g2)/\f 9=au (j:Int)/\aP z H 6 (rv .u64 K) 30/\aP z g2 6 (rv .u64 g.s.known) 30/\wF z B u l/\Below w.heap.size w z) (fun f _=>(an-(intOf (f 9)).toNat)) ⟨0,x,g,N,by omega,rfl,S,by omega,h1,h2,h3,(h4.trans Fx.ic),(by rfl),Fx.ic,m11,m10,m12,b4⟩ ?_;rintro f2 t ⟨j,u,l,A,V,U,D,hT2,I,C,R,h8,h9,y,W,m15,J,G⟩;refine Ws<|ay<|aT y<|aT C<|av (au an) ?_;by_cases c24:(j:Int)<(an:Int)
  ·refine Lv aG (gN c24)<|aD<|aL<|Wk<|sN<|Ws<|Wb<|Ws ?_;obtain⟨a,ha,ho⟩:=fu (iO (hmay j (by omega)));have eN:aO (ev j)=a:=(by unfold aO; omega);refine yN<|eB C<|eB y ?_;obtain⟨F,L,eq1,Z⟩:=(hA.up G rfl) (by omega);have ahJ:F<t.heap.size:=Z.lt (by omega);refine Qv (pf F (14*j+L)) (fun b d=>dh 14 (hx:=(rfl.trans (L_ (fun q=>Value.slice q (an) (E)) eq1))))<|aX (pf F (14*j+L+1))<|Qv (aC ((ev j).seq)) (fun b d=>aM (Z.dr d) (14*j+1) (Fx.gy (k:=j) (j:=1) (by omega) (by omega) rfl))<|eB C<|eB y<|Qv (pf F (14*j+L)) (fun b d=>dh 14 (hx:=(rfl.trans (L_ (fun q=>Value.slice q (an) (E)) eq1))))<|aX (pf F (14*j+L))<|Qv (au ((ev j).o)) (fun b d=>aM (Z.dr d) (14*j) (Fx.gy (k:=j) (j:=0) (by omega) (by omega) rfl))<|Qv (au a) (fun b d=>fZ)<|Qv (pf H a) (fun b d=>iY 6 1 (hx:=R))<|Qv (aC (K a)) (fun b d=>aM (W.aI.dr d) a) ?_;by_cases P:((ev j).seq)<=(K a)
   ·refine Qv aG (fun b d=>nM P)<|Qn ?_;rintro _ ⟨v,rfl⟩;obtain⟨Em,sV⟩ : ∃ b,b=World.drewN t v:=⟨_,rfl⟩;rw[<- sV];have s4:Stp t.heap.size t Em:=(by rw[sV]; exact Sb (jS t v));have⟨m18,m19,m20,m21,b6⟩:=tQ s4.old W m15 J Z G;clear sV;refine sN<|aL<|Wl<|aT I<|aT C<|aT y<|Lv (pf F (14*j+L)) (dh 14 (hx:=(rfl.trans (L_ (fun q=>Value.slice q (an) (E)) eq1))))<|Lv (.agg (aA 14 (bV (ev j)))) (fJ m21 (14*j) (fun jq hjq=>Fx.jG (k:=j) (by omega) hjq))<|lU (Pp l B u A (ev j) _ m20 (hwf j (by omega)) D.w (by omega)) ?_;rintro e9 w6 ⟨M,m3,he,hc3,hL1,hb1⟩;refine⟨.tuple #[(pt M),au (bQ l.core (ev j))],he,?_⟩;clear he;have⟨m22,m23,b7⟩:=jr hb1 m18 m19 b6;refine av (.tuple #[(pt M),au (bQ l.core (ev j))])<|av (pt M)<|av (au (bQ l.core (ev j)))<|av (pt M)<|Ln<|bR<|sN<|Wl<|aT y<|Lv (au ((j:Int)+1)) eU<|av (au ((j:Int)+1))<|Ln<|gL ⟨j+1,M,m3,A+1,by omega,(Vp U (by rw[eN]; exact P) hc3),(by rw[hc3]; exact Ii (hsm j (by omega)) D),by omega,(by rfl),C,R,(h8.trans Fx.ic),h9,Fx.ic,m22,m23,hL1,b7⟩ ?_;show(an-(intOf (au ((j:Int)+1))).toNat)<_;simp only[y,intOf]; omega
   refine Qv aF (fun b d=>nV P)<|Qn ?_;rintro _ ⟨v,rfl⟩;obtain⟨wq2,xA⟩ : ∃ b,b=World.drewN t v:=⟨_,rfl⟩;rw[<- xA];have s6:Stp t.heap.size t wq2:=(by rw[xA]; exact Sb (jS t v));have⟨nP,oG,nY,b8⟩:=nO s6.old W m15 J G;clear xA;refine sN<|aK<|Wk<|bR<|sN<|Wl<|aT y<|Lv (au ((j:Int)+1)) eU<|av (au ((j:Int)+1))<|Ln<|gL ⟨j+1,u,l,A,by omega,(Y4 U (by rw[eN]; exact P)),D,by omega,I,C,R,(h8.trans Fx.ic),h9,Fx.ic,nP,oG,nY,b8⟩ ?_;show(an-(intOf (au ((j:Int)+1))).toNat)<_;simp only[y,intOf]; omega
  refine Lv aF (gP c24)<|aD<|aK<|Wx<|bY<|gJ<|bZ<|sN<|Ws ?_;have aoH:=J.c;refine yN<|eB I<|aX (pt u)<|aX (pt u)<|aX (pf u 12)<|Qv (.agg (aA 6 (rv .u64 l.s.known))) (fun b d=>fJ (aoH.aI.dr d) 12 (fun j V=>mF _ (by omega) (nK _ V (by omega))))<|Qv (.agg (aA 6 (rv .u64 g.s.known))) (fun b d=>fJ (m15.aI.dr d) 0 (ha:=h9)) ?_;by_cases Q : ∀ i,i<6->(rv .u64 l.s.known) i=(rv .u64 g.s.known) i
  ·refine Qv aG (fun b d=>Fx.wJ (n:=6) (ks:=List.replicate 6 (some .u64)) (X:=rv .u64 l.s.known) (Y:=rv .u64 g.s.known) 12 true rfl rfl rfl (Fx.SC Q) (El.kd D.kn) (El.kd S.kn) rfl (by kernel_rfl) (by kernel_rfl) (by kernel_rfl) (by kernel_rfl) (by kernel_rfl))<|Qn ?_;rintro _ ⟨v,rfl⟩;obtain⟨wq3,FV⟩ : ∃ b,b=World.drewN t v:=⟨_,rfl⟩;rw[<- FV];have s7:Stp t.heap.size t wq3:=(by rw[FV]; exact Sb (jS t v));have⟨nA,b9⟩:=fF s7.old J G;clear FV;refine sN<|aL<|ay<|aT I<|av (pt u)<|aD<|Wr<|bP<|sR<|pY<|bP<|sR<|aJ (pt u) ?_;exact⟨u,l,rfl,((Rv (n:=an) (r:=r) (by omega) (by rw[show an=j by omega]; exact U) (Ij.2 Q)).symm.trans hc1),D.mono (by omega),nA,b9⟩
  refine Qv aF (fun b d=>Fx.wJ (n:=6) (ks:=List.replicate 6 (some .u64)) (X:=rv .u64 l.s.known) (Y:=rv .u64 g.s.known) 12 false rfl rfl rfl (Fx.nob Q) (El.kd D.kn) (El.kd S.kn) rfl (by kernel_rfl) (by kernel_rfl) (by kernel_rfl) (by kernel_rfl) (by kernel_rfl))<|Qn ?_;rintro _ ⟨v,rfl⟩;obtain⟨wq4,FW⟩ : ∃ b,b=World.drewN t v:=⟨_,rfl⟩;rw[<- FW];have s8:Stp t.heap.size t wq4:=by rw[FW]; exact Sb (jS t v)
  have⟨qg,qh,b10⟩:=jr s8.old W J G;clear FW;refine sN<|aK<|Wk<|bR<|sN<|Wl<|aT h8<|Lv (au ((r:Int)+1)) eU<|av (au ((r:Int)+1))<|Ln<|gL ⟨r+1,u,l,A,by omega,(Vq (by omega) (by rw[show an=j by omega]; exact U) (fun h=>Q (Ij.1 h))).trans hc1,D,by omega,I,C,R,Fx.ic,qg,qh,b10⟩ ?_;show(an+1-(intOf (au ((r:Int)+1))).toNat)<_;simp only[h4,intOf]; omega
 refine Lv aF (nV c13)<|aD<|aK<|Wx<|bY<|gJ<|bZ<|sN<|ay<|aT h1<|av (pt x)<|aD<|Wr<|aJ (pt x) ?_;exact⟨x,g,rfl,(by rw[<- hc1,show an+1-r=0 by omega]; unfold iV; rfl),S.mono (by omega),m4,b2⟩
end
section
namespace Rt
def zeroE:EvM:=⟨0,0,fun _=>0,0,0,0,0,0,0⟩
def gV(ev:Nat->EvM):Nat->Nat->Int
 | 0,_=>0
 | k+1,i=>gV ev k i+if aO (ev k)=i then 1 else 0
structure Px(ev:Nat->EvM)(an:Nat)(K:Nat->Int):Prop where
 le : ∀ i,i<6->K i<=gV ev an i
 cl : ∀ k,k<an->(ev k).seq<=K (aO (ev k)) -> ∀ i,i<6->(ev k).deps i<=K i
structure Cz(n an:Nat)(ev:Nat->EvM)(kn:Nat->Nat->Int):Prop where
 rd : ∀ k,k<an->dI (gV ev k) (ev k)=true
 reg : ∀ k,k<an->aO (ev k)<n
 own : ∀ o,o<n->kn o o=gV ev an o
 kc : ∀ o,o<n->Px ev an (kn o)
section
variable {ev:Nat->EvM} {an n j k i:Nat} {K:Nat->Int} {kn kn':Nat->Nat->Int} {v:EvM} {L:fI}
theorem Vr : ∀ d k i,gV ev k i<=gV ev (k+d) i
 | 0,_,_=>N_ _
 | d+1,k,i=>by have:=Vr d k i; show _<=gV ev (k+d) i+_; split <;> omega
theorem cnt_mono(h:j<=k):gV ev j i<=gV ev k i:=by have:=Vr (ev:=ev) (k-j) j i; rwa [show j+(k-j)=k by omega]at this
theorem ES(h:j<k):gV ev j (aO (ev j))+1<=gV ev k (aO (ev j)):=by
 have a:gV ev (j+1) (aO (ev j))<=gV ev k (aO (ev j)):=cnt_mono (by omega);have b:gV ev (j+1) (aO (ev j))=gV ev j (aO (ev j))+1:=by show _+(if _ then _ else _)=_; rw[d_ rfl]
 omega
theorem A9 : ∀ k i,0<=gV ev k i
 | 0,_=>N_ _
 | k+1,i=>by have:=A9 k i; unfold gV; split <;> omega
theorem GU(h:dI K v=true):bS v=true/\v.seq=K (aO v)+1 /\ ∀ i,i<6->v.deps i<=K i:=by
 unfold dI at h;simp only[T_,decide_eq_true_eq]at h;refine⟨h.1.1,h.1.2,fun i a => ?_⟩;have:=h.2;unfold yT at this;rw[List.all_eq_true]at this;exact h_ (this i (O_.2 a))
theorem F5(h1:bS v=true)(a:v.seq=K (aO v)+1)(b : ∀ i,i<6->v.deps i<=K i):dI K v=true:=by
 unfold dI;simp only[T_,decide_eq_true_eq];refine⟨⟨h1,a⟩,?_⟩;unfold yT;rw[List.all_eq_true];intro i c;exact f_ (b i (O_.1 c))
theorem Cz.seq(h:Cz n an ev kn)(a:k<an):(ev k).seq=gV ev k (aO (ev k))+1:=(GU (h.rd k a)).2.1
theorem Cz.NK(h:Cz n an ev kn)(a:k<an):(ev k).seq<=gV ev an (aO (ev k)):=by rw[h.seq a]; exact ES a
theorem Cz.uniq(h:Cz n an ev kn)(c:j<an)(d:k<an)(b:aO (ev j)=aO (ev k))(a:(ev j).seq=(ev k).seq):j=k:=by
 rw[h.seq c,h.seq d]at a
 rcases Nat.lt_trichotomy j k with h1|h1|h1
 ·have:=ES (ev:=ev) h1; rw[b]at this a; omega
 ·exact h1
 have:=ES (ev:=ev) h1; rw[<- b]at this a; omega
theorem Cz.step(h:Cz n an ev kn)(c:Px ev an K)(d:j<an)(hr:dI K (ev j)=true):Px ev an (aH K (aO (ev j)) (K (aO (ev j))+1)):=by
 obtain⟨_,l,m⟩:=GU hr;have g : ∀ i,K i<=aH K (aO (ev j)) (K (aO (ev j))+1) i:=fun i=>by unfold aH; split <;> (try subst_vars) <;> omega
 refine⟨fun i a => ?_,fun k f b i a => ?_⟩
 ·unfold aH; split
  ·rename_i e; rw[e,<- l]; exact h.NK d
  exact c.le i a
 by_cases e:(ev k).seq<=K (aO (ev k))
 ·exact S_ (c.cl k f e i a) (g i)
 unfold aH at b;split at b
 ·rename_i e2;rw[e2]at e;have:k=j:=h.uniq f d e2 (by omega);subst this;exact S_ (m i a) (g i)
 exact M_ b e
theorem jV(h:bQ L v=0):dI L.known v=true:=by
 unfold bQ at h;split at h; · cases h
 split at h; · cases h
 split at h; · cases h
 rename_i h3
 cases e:dI L.known v with
 | true=>rfl
 | false=>exact M_ e h3
theorem rQ(L:fI)(v:EvM):(bQ L v=0/\(dH L v).known=aH L.known (aO v) (L.known (aO v)+1))\/(bQ L v≠0/\dH L v=L):=by
 by_cases h:bQ L v=0
 ·refine .inl ⟨h,?_⟩;unfold dH; rw[d_ h];show aH (iM L v).known _ _=_;rw[qo]
 refine .inr ⟨h,?_⟩;unfold dH; rw[b_ h]
def KnO(ev:Nat->EvM)(an o:Nat)(K:Nat->Int):Prop:=Px ev an K/\K o=gV ev an o
theorem Cz.apply(h:Cz n an ev kn){o:Nat}(a:KnO ev an o L.known)(c:j<an):KnO ev an o (dH L (ev j)).known:=by
 rcases rQ L (ev j)with ⟨f,b⟩|⟨_,b⟩
 ·have d:=jV f;rw[b];refine⟨h.step a.1 c d,?_⟩;unfold aH;split
  ·rename_i e;have:=(GU d).2.1;have g:=h.NK c;rw[<- e]at this g;have:=a.2;omega
  exact a.2
 rw[b]; exact a
theorem Cz.pass(h:Cz n an ev kn){o:Nat}{b:Nat->Int}(a:KnO ev an o L.known) : ∀ j,j<=an->KnO ev an o (oQ ev b L j).known
 | 0,_=>a
 | j+1,hj=>by
   unfold oQ;split
   ·exact h.apply (h.pass a j (by omega)) (by omega)
   ·exact h.pass a j (by omega)
theorem Cz.iV(h:Cz n an ev kn){o:Nat}{a:Nat->Int} : ∀ f L,KnO ev an o L.known->KnO ev an o (iV ev an a f L).known
 | 0,L,hL=>by unfold Rt.iV; exact hL
 | f+1,L,hL=>by
   unfold Rt.iV;split
   ·exact h.pass hL an (A_ _)
   ·exact h.iV f _ (h.pass hL an (A_ _))
theorem Cz.learn(h:Cz n an ev kn){o:Nat}(g:o<n){b:Nat->Int}(i:L.known=kn o)(c : ∀ q,q≠o->kn' q=kn q)(d:kn' o=(F4 ev an b L).known):Cz n an ev kn':=by
 have f:KnO ev an o (F4 ev an b L).known:=h.iV (an+1) L (by rw[i]; exact⟨h.kc o g,h.own o g⟩);refine⟨h.rd,h.reg,fun q a => ?_,fun q a => ?_⟩
 ·by_cases e:q=o
  ·subst e; rw[d]; exact f.2
  rw[c q e]; exact h.own q a
 by_cases e:q=o
 ·subst e; rw[d]; exact f.1
 rw[c q e]; exact h.kc q a
theorem BN : ∀ k,k<=an -> ∀ i,gV (aH ev an v) k i=gV ev k i
 | 0,_,_=>rfl
 | k+1,hk,i=>by
   have e:aH ev an v k=ev k:=(by unfold aH; rw[b_ (by omega)]);show gV (aH ev an v) k i+(if aO (aH ev an v k)=i then 1 else 0)=gV ev k i+if aO (ev k)=i then 1 else 0;rw[e,BN k (by omega) i]
theorem Py(i:Nat):gV (aH ev an v) (an+1) i=gV ev an i+if aO v=i then 1 else 0:=by
 show gV (aH ev an v) an i+(if aO (aH ev an v an)=i then 1 else 0)=_;rw[BN an (A_ _)];unfold aH; rw[d_ rfl]
theorem Cz.event(h:Cz n an ev kn){o:Nat}(m:o<n)(hr:dI (kn o) v=true)(d:aO v=o)(y:v.deps=kn o)(g : ∀ q,q≠o->kn' q=kn q)(j:kn' o=aH (kn o) o (kn o o+1)):Cz n (an+1) (aH ev an v) kn':=by
 obtain⟨u,t,z⟩:=GU hr;rw[d]at t;have s : ∀ k,k<an->aH ev an v k=ev k:=fun k l=>by unfold aH; rw[b_ (by omega)]
 have r:aH ev an v an=v:=by unfold aH; rw[d_ rfl]
 have p:=h.own o m;refine⟨fun k l => ?_,fun k l => ?_,fun q c => ?_,fun q c=>⟨fun i b => ?_,fun k l a i b => ?_⟩⟩
 ·have e:gV (aH ev an v) k=gV ev k:=funext fun i=>BN k (by omega) i;rw[e];by_cases f:k=an
  ·subst f; rw[r];refine F5 u (by rw[d,t,p]) fun i b => ?_;exact S_ (z i b) ((h.kc o m).le i b)
  rw[s k (by omega)]; exact h.rd k (by omega)
 ·by_cases f:k=an
  ·subst f; rw[r,d]; exact m
  rw[s k (by omega)]; exact h.reg k (by omega)
 ·rw[Py,d];by_cases e:q=o
  ·subst e; rw[j,d_ rfl]; unfold aH; rw[d_ rfl,p]
  rw[g q e,b_ (fun x=>e x.symm),h.own q c,D_]
 ·rw[Py,d];by_cases e:q=o
  ·subst e; rw[j]; unfold aH;split
   ·rename_i ei; subst ei; rw[d_ rfl,p]; exact N_ _
   have:=(h.kc q c).le i b; split <;> omega
  rw[g q e]; have:=(h.kc q c).le i b; split <;> omega
 by_cases f:k=an
 ·subst f;rw[r]at a ⊢;by_cases e:q=o
  ·subst e; rw[j,y]; unfold aH; split <;> (try subst_vars) <;> omega
  rw[g q e,d,t]at a;have:=(h.kc q c).le o;have w:o<6:=by have:=mY u; omega
  have:=this w;omega
 rw[s k (by omega)]at a ⊢;by_cases e:q=o
 ·subst e;rw[j]at a ⊢;have A : ∀ i,kn q i<=aH (kn q) q (kn q q+1) i:=fun i=>by unfold aH; split <;> (try subst_vars) <;> omega
  refine S_ ((h.kc q c).cl k (by omega) ?_ i b) (A i);unfold aH at a;split at a
  ·rename_i e3; have:=h.NK (k:=k) (by omega); rw[e3]at this ⊢; omega
  exact a
 rw[g q e]at a ⊢; exact(h.kc q c).cl k (by omega) a i b
theorem Cz.zero(n:Nat)(h : ∀ o,o<n->kn o=fun _=>0):Cz n 0 ev kn:=⟨fun _ h=>M_ h (z_ _),fun _ h=>M_ h (z_ _),fun o a=>by rw[h o a]; rfl,fun o a=>⟨fun i _=>by rw[h o a]; exact N_ _,fun _ h=>M_ h (z_ _)⟩⟩
end
end Rt
end
end Go.Proofs.YtahbiajdgealnaaGreatDoor
namespace Go.Proofs.YtahbiajdgealnaaGreatDoor
open Go.RowKit
namespace Fx
section
variable {S S':Nat->Prop}
theorem jZ.trans(w w' c:World)(h:jZ S w w')(k:jZ S w' c):jZ S w c:=⟨k.os.trans h.os,k.tape.trans h.tape,k.output.trans h.output,m_ h.size k.size,fun i b a=>(k.block i (n_ b h.size) a).trans (h.block i b a)⟩
theorem jZ.mono{w w':World}(h:jZ S w w')(a : ∀ k,S k->S' k):jZ S' w w':=⟨h.os,h.tape,h.output,h.size,fun i b c=>h.block i b fun d=>c (a i d)⟩
theorem jZ.Cn{g:Nat}{w w':World}(h:Stp g w w'):jZ (fun k=>k=g) w w':=(vw _ w).then h (.inl rfl)
end
end Fx
end Go.Proofs.YtahbiajdgealnaaGreatDoor
namespace Go.Proofs.YtahbiajdgealnaaGreatDoor
open Go.RowKit Rt
open Fx (Sb rv aA aP ev dD Mp iC jZ iA)
section
structure dU where
 inn:Nat->Bool
 left:Nat->Bool
 known:Nat->Int
 own:Nat->Int
 T:dN
 R:Nat->Nat->Int
 gn:Nat
 g:Nat->Nat->Int
 an:Nat
 ao:Nat->Int
 ar:Nat->Int
 tp:Nat
 mb:Nat
 pb:Nat
 rb:Nat
 gb:Nat
 ab:Nat
def vY(m:dU):Nat->Value:=fun p=>if p<6 then .bool (m.inn p)else if p<12 then .bool (m.left (p-6))else if p<18 then .int .u64 (m.known (p-12))else if p=18 then .pointer (some ⟨m.tp,0,none⟩)else if p=19 then .map (some m.pb)else if p=20 then .map (some m.rb)else if p<27 then .int .i64 (m.own (p-21))else if p=27 then .map (some m.gb)else .map (some m.ab)
section
variable {m:dU} {p q:Nat}
theorem CU(h:p<6):vY m p = .bool (m.inn p):=by unfold vY; rw[d_ h]
theorem BO(h:p<6)(e:q=p+6):vY m q = .bool (m.left p):=by subst e; unfold vY; rw[b_ (by omega),d_ (by omega),Nat.add_sub_cancel]
theorem rY(h:p<6)(e:q=p+12):vY m q = .int .u64 (m.known p):=by subst e; unfold vY; rw[b_ (by omega),b_ (by omega),d_ (by omega),Nat.add_sub_cancel]
theorem JG(h:p<6)(e:q=p+21):vY m q = .int .i64 (m.own p):=by subst e; unfold vY; rw[b_ (by omega),b_ (by omega),b_ (by omega),b_ (by omega),b_ (by omega),b_ (by omega),d_ (by omega),Nat.add_sub_cancel]
theorem Vs{i:Nat}(hi:i<6)(b:Bool):dD (vY m) i (.bool b)=vY { m with inn:=aH m.inn i b }:=by
 funext p
 unfold dD;by_cases e:p=i
 ·subst e; rw[d_ rfl,CU hi]; simp[aH]
 rw[b_ e]; unfold vY;by_cases h:p<6
 ·rw[d_ h,d_ h]; simp[aH,e]
 rw[b_ h,b_ h]
theorem Vt{i:Nat}(hi:i<6)(e0:q=i+6)(b:Bool):dD (vY m) q (.bool b)=vY { m with left:=aH m.left i b }:=by
 subst e0
 funext p
 unfold dD;by_cases e:p=i+6
 ·subst e; rw[d_ rfl,BO hi rfl]; simp[aH]
 rw[b_ e]; unfold vY;by_cases h:p<6
 ·rw[d_ h,d_ h]
 rw[b_ h,b_ h];by_cases a:p<12
 ·rw[d_ a,d_ a]; simp[aH,show ¬ p-6=i by omega]
 rw[b_ a,b_ a]
theorem Rw{i:Nat}(hi:i<6)(e0:q=i+12)(x:Int):dD (vY m) q (.int .u64 x)=vY { m with known:=aH m.known i x }:=by
 subst e0
 funext p
 unfold dD;by_cases e:p=i+12
 ·subst e; rw[d_ rfl,rY hi rfl]; simp[aH]
 rw[b_ e]; unfold vY;by_cases h:p<6
 ·rw[d_ h,d_ h]
 rw[b_ h,b_ h];by_cases a:p<12
 ·rw[d_ a,d_ a]
 rw[b_ a,b_ a];by_cases b:p<18
 ·rw[d_ b,d_ b]; simp[aH,show ¬ p-12=i by omega]
 rw[b_ b,b_ b]
theorem Y6{i:Nat}(hi:i<6)(e0:q=i+21)(x:Int):dD (vY m) q (.int .i64 x)=vY { m with own:=aH m.own i x }:=by
 subst e0
 funext p
 unfold dD;by_cases e:p=i+21
 ·subst e; rw[d_ rfl,JG hi rfl]; simp[aH]
 rw[b_ e]; unfold vY;by_cases h:p<6
 ·rw[d_ h,d_ h]
 rw[b_ h,b_ h];by_cases a:p<12
 ·rw[d_ a,d_ a]
 rw[b_ a,b_ a];by_cases b:p<18
 ·rw[d_ b,d_ b]
 rw[b_ b,b_ b];by_cases c:p=18
 ·rw[d_ c,d_ c]
 rw[b_ c,b_ c];by_cases d:p=19
 ·rw[d_ d,d_ d]
 rw[b_ d,b_ d];by_cases f:p=20
 ·rw[d_ f,d_ f]
 rw[b_ f,b_ f];by_cases g:p<27
 ·rw[d_ g,d_ g]; simp[aH,show ¬ p-21=i by omega]
 rw[b_ g,b_ g]
end
def xI(R:Nat->Nat->Int):Nat->Value:=fun i => .agg (aA 54 (rv .i64 (R i)))
def Ev(T:dN):Nat->Value:=fun j => .int .u64 (T.p j)
def uR(g:Nat->Nat->Int):Nat->Value:=fun i => .agg (aA 5 (jw (g i)))
def Ew:Nat->Value:=fun _ => .bool true
structure QlN(m:dU):Prop where
 mp:m.mb≠m.pb
 mr:m.mb≠m.rb
 mg:m.mb≠m.gb
 ma:m.mb≠m.ab
 pr:m.pb≠m.rb
 pg:m.pb≠m.gb
 pa:m.pb≠m.ab
 rg:m.rb≠m.gb
 ra:m.rb≠m.ab
 ga:m.gb≠m.ab
structure mh(w:World)(B lp:Nat)(m:dU):Prop where
 c:aP w lp 29 (vY m) 106
 t:sP w B m.tp m.mb m.T
 p:Mp w m.pb m.T.n m.T.x (Ev m.T)
 r:Mp w m.rb m.T.n m.T.x (xI m.R)
 g:iC w m.gb m.gn (fun i=>m.g i 0) (fun i=>m.g i 1) (uR m.g)
 a:iC w m.ab m.an m.ao m.ar Ew
 ne:QlN m
 lB:B<=lp
 pB:B<=m.pb
 rB:B<=m.rb
 gB:B<=m.gb
 aB:B<=m.ab
def F6(m:dU)(lp:Nat)(k:Nat):Prop:=k=lp\/k=m.mb\/k=m.pb\/k=m.rb\/k=m.gb\/k=m.ab
section
variable {w w':World} {B lp:Nat} {m:dU}
theorem mh.up(h:mh w B lp m)(b:Below w.heap.size w w'):mh w' B lp m := { h with c:=h.c.cZ (Sb b) (u_ h.c.lt),t:=h.t.up b,p:=h.p.up b,r:=h.r.up b,g:=h.g.up b,a:=h.a.up b }
instance:Rt.Tr w w' (mh w B lp m) (mh w' B lp m):=⟨fun b h=>h.up b⟩
theorem mh.kV{d:List TypeId}(h:mh w B lp m)(b:iA d w w')(e:(d.contains 106 || d.contains 135)=false):mh w' B lp m:=by
 rw[Bool.or_eq_false_iff]at e;exact { h with c:=h.c.kV b e.1,t:=h.t.kV b e.2,p:=h.p.kV b trivial,r:=h.r.kV b trivial,g:=h.g.kV b trivial,a:=h.a.kV b trivial }
instance {a:List TypeId}:Rt.Tc a w w' (mh w B lp m) (mh w' B lp m) (!(a.contains 106 || a.contains 135)):=⟨fun b h e=>h.kV b (by simpa using e)⟩
theorem sP.keep{b a:Nat}{T:dN}(h:sP w B b a T)(c:w'.heap[b]? = w.heap[b]?)(d:w'.heap[a]? = w.heap[a]?):sP w' B b a T:=⟨c.trans h.blk,h.map.keep d,h.inv,h.gt,h.gm⟩
theorem mh.keep(h:mh w B lp m)(b : ∀ k,k=lp\/k=m.tp\/k=m.mb\/k=m.pb\/k=m.rb\/k=m.gb\/k=m.ab->w'.heap[k]? = w.heap[k]?):mh w' B lp m := { h with
 c:=(b _ (.inl rfl)).trans h.c,t:=sP.keep h.t (b _ (.inr (.inl rfl))) (b _ (.inr (.inr (.inl rfl)))),p:=h.p.keep (b _ (.inr (.inr (.inr (.inl rfl))))),r:=h.r.keep (b _ (.inr (.inr (.inr (.inr (.inl rfl)))))),
 g:=h.g.keep (b _ (.inr (.inr (.inr (.inr (.inr (.inl rfl))))))),a:=h.a.keep (b _ (.inr (.inr (.inr (.inr (.inr (.inr rfl))))))) }
theorem mh.chg{S:Nat->Prop}(h:mh w B lp m)(f:jZ S w w')(d : ∀ k,k=m.tp\/F6 m lp k -> ¬ S k):mh w' B lp m:=by
 have b:= f.block;refine h.keep fun k e => ?_
 rcases e with rfl|rfl|rfl|rfl|rfl|rfl|rfl
 ·exact b _ h.c.lt (d _ (.inr (.inl rfl)))
 ·exact b _ h.t.blk.lt (d _ (.inl rfl))
 ·exact b _ h.t.lt (d _ (.inr (.inr (.inl rfl))))
 ·exact b _ h.p.lt (d _ (.inr (.inr (.inr (.inl rfl)))))
 ·exact b _ h.r.lt (d _ (.inr (.inr (.inr (.inr (.inl rfl))))))
 ·exact b _ h.g.lt (d _ (.inr (.inr (.inr (.inr (.inr (.inl rfl)))))))
 exact b _ h.a.lt (d _ (.inr (.inr (.inr (.inr (.inr (.inr rfl)))))))
theorem mh.weak{b:Nat}(h:mh w B lp m)(a:b<=B):mh w b lp m := { h with t:=h.t.weak a,lB:=m_ a h.lB,pB:=m_ a h.pB,rB:=m_ a h.rB,gB:=m_ a h.gB,aB:=m_ a h.aB }
theorem mh.lt(h:mh w B lp m):lp<w.heap.size:=h.c.lt
theorem mh.ltS(h:mh w B lp m){k:Nat}(b:F6 m lp k):B<=k/\k<w.heap.size:=by
 rcases b with rfl|rfl|rfl|rfl|rfl|rfl
 ·exact⟨h.lB,h.c.lt⟩
 ·exact⟨h.t.gm,h.t.lt⟩
 ·exact⟨h.pB,h.p.lt⟩
 ·exact⟨h.rB,h.r.lt⟩
 ·exact⟨h.gB,h.g.lt⟩
 exact⟨h.aB,h.a.lt⟩
end
namespace Rt
def Ac(x:Nat->Int):Nat->Int->Nat
 | 0,_=>0
 | n+1,k=>if x n=k then n else Ac x n k
theorem mZ{x:Nat->Int}{j:Nat}{k:Int} : ∀ {n:Nat},(∀ a b,a<n->b<n->x a=x b->a=b)->j<n->x j=k->Ac x n k=j
 | 0,_,h,_=>M_ h (z_ _)
 | n+1,hi,hj,e=>by
   unfold Ac;by_cases c:x n=k
   ·rw[d_ c]; exact hi n j (by omega) hj (c.trans e.symm)
   ·rw[b_ c];refine mZ (fun a b d f=>hi a b (by omega) (by omega)) ?_ e
    rcases Nat.lt_or_ge j n with h|h
    ·exact h
    ·obtain rfl:j=n:=(by omega);exact M_ e c
end Rt
def dU.idx(m:dU)(k:Int):Nat:=Ac m.T.x m.T.n k
def Vu(m:dU)(lp a:Nat)(k:Nat):Prop:=F6 m lp k\/a<=k
structure Vv(w:World)(B lp:Nat)(m m':dU)(b0:Nat)(fv:Value)(fi:Nat)(cap:Array Value):Prop where
 e:fv = .func (.func fi) #[] cap
 f : ∃ fn c, Tryz.prog.funcs[fi]? = some fn ∧ (fn.name == "runtime.NumGoroutine") = false ∧ fn.body = some c
 s : ∀ w2,Below w.heap.size w w2->Calls Tryz.prog fi cap w2 fun e w3=>e = .returned (.tuple #[])/\mh w3 B lp m'/\jZ (Vu m lp b0) w2 w3
def Sd(w:World)(B lp:Nat)(m f:dU)(b:Int)(e:Ending)(w':World):Prop :=
 (∃ a d c,e = .returned (.tuple #[a,.int .i64 b])/\a.oneCell'=true/\(b=0->Vv w' B lp m f w.heap.size a d c))/\Below w.heap.size w w'
theorem mh.JH{w w':World}{B lp g n d:Nat}{m:dU}{x:Nat->Value}{T:TypeId}(h:mh w B lp m)(b:aP w g n x T)(f:T≠106)(i:jZ (Vu m lp d) w w')(j:g<d):aP w' g n x T:=b.chg i fun e=>by
 rcases e with (rfl|rfl|rfl|rfl|rfl|rfl)|e
 ·exact f (Fx.Ty.only h.c.ty b.ty)
 ·exact h.t.map.sF b.ty
 ·exact h.p.sF b.ty
 ·exact h.r.sF b.ty
 ·exact h.g.sF b.ty
 ·exact h.a.sF b.ty
 ·omega
theorem Fx.Pz{P:Program}{f:Nat->Value}{w:World}{o:Oper}{g:Nat}{t:Operand}{b:List Operand}{args:List Value}{d:Array TypeId}{cap all:Array Value}(l:o.op = .call { callee := .value t,args:=b.toArray,argTypes:=d })(m:ev f t = .func (.func g) #[] cap)(hx:b.map (ev f)=args)(j:args.toArray++cap=all)
 (k : ∃ a c, P.funcs[g]? = some a ∧ (a.name == "runtime.NumGoroutine") = false ∧ a.body = some c) : (execOp (ev f) o).run P w = .ok (.enter g all) w := by
 obtain⟨a,c,e,h,i⟩:=k;exact Fx.Fe l m hx (by rw[<- j]; simp) e h i
namespace Fx
theorem It.dW{w w':World}{r b n g:Nat}{S:Nat->Bool}(h:It w r b n S)(a:Qw g w w')(c:b≠g)(d:r≠g):It w' r b n S:=h.keep (a.s.block b h.R7 c) (a.s.block r h.lt d)
theorem Bd.dW{w w':World}{r b i g:Nat}(h:Bd w r b i)(a:Qw g w w')(c:b≠g)(d:r≠g):Bd w' r b i:=h.keep (a.s.block b h.R7 c) (a.s.block r h.lt d)
end Fx
end
end Go.Proofs.YtahbiajdgealnaaGreatDoor
namespace Go.Proofs.YtahbiajdgealnaaGreatDoor.Fx
open Go.RowKit
section
variable {P:Program} {n0:Nat} {Q:Post} {f:Nat->Value} {w:World} {ops:Array Oper} {rest:List Oper} {o:Oper}
theorem NM{T E:TypeId}{x:Operand}{b off n s:Nat}(d:o.op = .slice T x none none none)(hx:ev f x = .pointer (some ⟨b,off,none⟩))(c:P.underlying T=some (.array n E))(e:(P.info? E).map (·.size)=some s) :
 Runs P f o w (.slice (some ⟨b,off,none⟩) n n):=by
 obtain⟨i,a,g⟩:=Option.map_eq_some_iff.1 e;unfold Runs execOp;simp only[d,hx,Option.map_none];by_cases h:n=0
 ·subst h; simp[Instr.sliceAt,Instr.sureAddr,underlying,c,Instr.sliceBounds,sizeOf,typeInfo,a]
 simp[Instr.sliceAt,Instr.sureAddr,underlying,c,Instr.sliceBounds,sizeOf,typeInfo,a,Addr.add,g]
end
end Go.Proofs.YtahbiajdgealnaaGreatDoor.Fx
namespace Go.Proofs.YtahbiajdgealnaaGreatDoor
open Go.RowKit Rt
open Fx (bB dG fC Lv sN Ln Ws Qv Wl Rp Wr Sb Wk rV sR Rs Rn Rd Rk Wb Wx Wo Qn GA Bj xY Cg gX nR vB vw Bp rv aA aP aZ aN Stp aW Mp aY jg aR iI jZ bD jL bP bR bY bZ gJ gL)
namespace Rt
def lJ(v:EvM)(l:Int):Bool:=decide (l<=v.aU)&&decide (v.aU<=1125899906842624)
def rR(v:EvM):EvM:=⟨v.o,v.seq,v.deps,v.kind,0,v.dst,0,v.req,v.of⟩
def yY(v:EvM):Bool:=decide (0<v.req)
def NP(v:EvM):EvM:=⟨v.o,v.seq,v.deps,v.kind,v.node,v.dst,v.aU,0,v.of⟩
def adN(v:EvM):EvM:=⟨v.o,v.seq,v.deps,v.kind,v.node,v.dst,v.aU,0,0⟩
def toB(v:EvM):Bool:=mD v.dst && !decide (v.dst=v.o)
def Lm(v:EvM):EvM:=⟨v.o,v.seq,v.deps,v.kind,v.node,0,v.aU,v.req,v.of⟩
end Rt
def Rt.Ey(v:EvM):Bool:=decide (0<v.req)&&(decide (0<v.of) && !decide (v.of=v.req))
theorem BP(n:Int)(w:World) :
 Calls Tryz.prog 88 #[au n] w fun e w'=>e = .returned (.bool (mD n))/\w'=w:=by
 refine Kent Tryz.func88 9 ?_;refine ay<|av aF<|aD<|ay<|av (au n) ?_;by_cases a:1<=n
 ·refine Lv aG (kM a)<|av aG<|av (au n) ?_;by_cases b:n<=6
  ·refine Lv aG (nM b)<|av aG<|av aG<|aD<|Wr<|aJ aG ?_;exact⟨iB (by simp only[mD]; first|(symm; simp; omega)|(symm; simp; done)),rfl⟩
  refine Lv aF (nV b)<|av aF<|av aF<|aD<|Wr<|aJ aF ?_;exact⟨iB (by simp only[mD]; first|(symm; simp; omega)|(symm; simp; done)),rfl⟩
 refine Lv aF (kg a)<|av aF<|dw<|dw<|av aF<|av aF<|aD<|Wr<|aJ aF ?_;exact⟨iB (by simp only[mD]; first|(symm; simp; omega)|(symm; simp; done)),rfl⟩
theorem JI(l:Int)(v:EvM)(g:Nat)(w:World)(a:aP w g 14 (bV v) 160) :
 Calls Tryz.prog 114 #[(pt g),au l] w fun e w'=>e = .returned (.bool (lJ v l))/\aP w' g 14 (bV (rR v)) 160/\Stp g w w':=by
 refine Kent Tryz.func114 30 ?_;refine ay<|av aF<|aD<|ay<|av (pt g)<|av (pt g)<|av (pt g)<|av (pf g 11)<|Lv (au v.aU) (aM a.aI 11)<|av (au l) ?_;by_cases c:l<=v.aU
 ·refine Lv aG (kM c)<|av aG<|av (pt g)<|av (pt g)<|av (pt g)<|av (pf g 11)<|Lv (au v.aU) (aM a.aI 11) ?_;by_cases d:v.aU<=1125899906842624
  ·refine Lv aG (nM d)<|av aG<|av aG<|aD<|ay<|av (pt g)<|av (pt g)<|av (pt g)<|av (pt g)<|av (pf g 9)<|jh a 9 (aC 0) fun J p D Q => ?_;have t:=p.congr (fun j b=>by rcases j with _|_|_|_|_|_|_|_|_|_|_|_|_|_|j <;> first|rfl|omega)
   have f:=(nR g w).then D (by omega);refine av (pt g)<|av (pt g)<|av (pf g 11)<|jh t 11 (au 0) fun K u E R => ?_;have x:=u.congr (fun j b=>by rcases j with _|_|_|_|_|_|_|_|_|_|_|_|_|_|j <;> first|rfl|omega)
   have h:=f.then E (by omega);refine aD<|ay<|av aG<|av aG<|aD<|Wr<|aJ aG ?_;exact⟨iB (by simp only[lJ]; first|(symm; simp; omega)|(symm; simp; done)),x,h⟩
  refine Lv aF (nV d)<|av aF<|av aF<|aD<|ay<|av (pt g)<|av (pt g)<|av (pt g)<|av (pt g)<|av (pf g 9)<|jh a 9 (aC 0) fun L y F S => ?_;have z:=y.congr (fun j b=>by rcases j with _|_|_|_|_|_|_|_|_|_|_|_|_|_|j <;> first|rfl|omega)
  have i:=(nR g w).then F (by omega);refine av (pt g)<|av (pt g)<|av (pf g 11)<|jh z 11 (au 0) fun M A G T => ?_;have B:=A.congr (fun j b=>by rcases j with _|_|_|_|_|_|_|_|_|_|_|_|_|_|j <;> first|rfl|omega)
  have k:=i.then G (by omega);refine aD<|ay<|av aF<|av aF<|aD<|Wr<|aJ aF ?_;exact⟨iB (by simp only[lJ]; first|(symm; simp; omega)|(symm; simp; done)),B,k⟩
 refine Lv aF (kg c)<|av aF<|dw<|dw<|dw<|dw<|dw<|dw<|av aF<|av aF<|aD<|ay<|av (pt g)<|av (pt g)<|av (pt g)<|av (pt g)<|av (pf g 9)<|jh a 9 (aC 0) fun N C H U => ?_;have q:=C.congr (fun j b=>by rcases j with _|_|_|_|_|_|_|_|_|_|_|_|_|_|j <;> first|rfl|omega)
 have m:=(nR g w).then H (by omega);refine av (pt g)<|av (pt g)<|av (pf g 11)<|jh q 11 (au 0) fun O r I V => ?_;have s:=r.congr (fun j b=>by rcases j with _|_|_|_|_|_|_|_|_|_|_|_|_|_|j <;> first|rfl|omega)
 have n:=m.then I (by omega);refine aD<|ay<|av aF<|av aF<|aD<|Wr<|aJ aF ?_;exact⟨iB (by simp only[lJ]; first|(symm; simp; omega)|(symm; simp; done)),s,n⟩
theorem PD(v:EvM)(g:Nat)(w:World)(a:aP w g 14 (bV v) 160) :
 Calls Tryz.prog 115 #[(pt g)] w fun e w'=>e = .returned (.bool (yY v))/\aP w' g 14 (bV (NP v)) 160/\Stp g w w':=by
 refine Kent Tryz.func115 15 ?_;refine ay<|av aF<|aD<|ay<|av (pt g)<|av (pt g)<|av (pt g)<|av (pf g 12)<|Lv (aC v.req) (aM a.aI 12) ?_;by_cases b:0<v.req
 ·refine Lv aG (mK b)<|av aG<|aD<|ay<|av (pt g)<|av (pt g)<|av (pt g)<|av (pf g 12)<|jh a 12 (aC 0) fun p h m s => ?_;have i:=h.congr (fun j f=>by rcases j with _|_|_|_|_|_|_|_|_|_|_|_|_|_|j <;> first|rfl|omega)
  have c:=(nR g w).then m (by omega);refine aD<|ay<|av aG<|av aG<|aD<|Wr<|aJ aG ?_;exact⟨iB (by simp only[yY]; first|(symm; simp; omega)|(symm; simp; done)),i,c⟩
 refine Lv aF (mM b)<|av aF<|aD<|ay<|av (pt g)<|av (pt g)<|av (pt g)<|av (pf g 12)<|jh a 12 (aC 0) fun q k n t => ?_;have l:=k.congr (fun j f=>by rcases j with _|_|_|_|_|_|_|_|_|_|_|_|_|_|j <;> first|rfl|omega)
 have d:=(nR g w).then n (by omega);refine aD<|ay<|av aF<|av aF<|aD<|Wr<|aJ aF ?_;exact⟨iB (by simp only[yY]; first|(symm; simp; omega)|(symm; simp; done)),l,d⟩
theorem aoI(v:EvM)(g:Nat)(w:World)(h:aP w g 14 (bV v) 160) :
 Calls Tryz.prog 116 #[(pt g)] w fun e w'=>e = .returned (.bool (Ey v))/\aP w' g 14 (bV (adN v)) 160/\Stp g w w':=by
 refine Kent Tryz.func116 32 ?_;refine ay<|av aF<|aD<|Ws ?_;refine yN<|aX (pt g)<|aX (pt g)<|aX (pt g)<|aX (pf g 13)<|Qv (aC v.of) (fun b d=>aM (h.aI.dr d) 13) ?_;by_cases r:0<v.of
 ·refine Qv aG (fun b d=>mK r)<|aX aG<|aX (pt g)<|aX (pt g)<|aX (pt g)<|aX (pf g 13)<|Qv (aC v.of) (fun b d=>aM (h.aI.dr d) 13)<|aX (pt g)<|aX (pt g)<|aX (pt g)<|aX (pf g 12)<|Qv (aC v.req) (fun b d=>aM (h.aI.dr d) 12) ?_;by_cases q:v.of=v.req
  ·refine Qv aF (fun b d=>ko q)<|aX aF<|aX aF<|Qn ?_;rintro _ ⟨f,rfl⟩;obtain⟨Z,i⟩ : ∃ b,b=World.drewN w f:=⟨_,rfl⟩;rw[<- i];have y:Stp w.heap.size w Z:=(by rw[i]; exact Sb (jS w f));have H:=bF y.old h;have B:=(nR g w).then y (.inr (nR g w).size);clear i;refine sN<|ay<|av (pt g)<|av (pt g)<|av (pt g)<|av (pf g 13)<|jh H 13 (aC 0) fun W K Q z1 => ?_;have L:=K.congr (fun j s=>by rcases j with _|_|_|_|_|_|_|_|_|_|_|_|_|_|j <;> first|rfl|omega)
   have C:=B.then Q (by omega);refine aD<|ay<|av (pt g)<|lU (PD (⟨v.o,v.seq,v.deps,v.kind,v.node,v.dst,v.aU,v.req,0⟩:EvM) g _ L) ?_;rintro e w2 ⟨a,u,R⟩;have m:=C.then R (by omega);by_cases c:yY (⟨v.o,v.seq,v.deps,v.kind,v.node,v.dst,v.aU,v.req,0⟩:EvM)=true
   ·refine⟨.bool true,by rw[a,c],?_⟩;clear a;refine av aG<|av aF<|av aF<|av aF<|aD<|Wr<|aJ aF ?_;exact⟨iB (by simp only[Ey,yY]at *; first|(symm; simp; omega)|(symm; simp at *; omega)|(symm; simp at *; done)),u,m⟩
   rw[U_]at c;refine⟨.bool false,by rw[a,c],?_⟩;clear a;refine av aF<|dw<|av aF<|av aF<|aD<|Wr<|aJ aF ?_;exact⟨iB (by simp only[Ey,yY]at *; first|(symm; simp; omega)|(symm; simp at *; omega)|(symm; simp at *; done)),u,m⟩
  refine Qv aG (fun b d=>nN q)<|aX aG<|aX aG<|Qn ?_;rintro _ ⟨f,rfl⟩;obtain⟨aa,k⟩ : ∃ b,b=World.drewN w f:=⟨_,rfl⟩;rw[<- k];have z:Stp w.heap.size w aa:=by rw[k]; exact Sb (jS w f)
  have M:=bF z.old h;have D:=(nR g w).then z (.inr (nR g w).size);clear k;refine sN<|ay<|av (pt g)<|av (pt g)<|av (pt g)<|av (pf g 13)<|jh M 13 (aC 0) fun X N S z2 => ?_;have O:=N.congr (fun j s=>by rcases j with _|_|_|_|_|_|_|_|_|_|_|_|_|_|j <;> first|rfl|omega)
  have E:=D.then S (by omega);refine aD<|ay<|av (pt g)<|lU (PD (⟨v.o,v.seq,v.deps,v.kind,v.node,v.dst,v.aU,v.req,0⟩:EvM) g _ O) ?_;rintro e w4 ⟨a,x,T⟩;have n:=E.then T (by omega);by_cases c:yY (⟨v.o,v.seq,v.deps,v.kind,v.node,v.dst,v.aU,v.req,0⟩:EvM)=true
  ·refine⟨.bool true,by rw[a,c],?_⟩;clear a;refine av aG<|av aG<|av aG<|av aG<|aD<|Wr<|aJ aG ?_;exact⟨iB (by simp only[Ey,yY]at *; first|(symm; simp; omega)|(symm; simp at *; omega)|(symm; simp at *; done)),x,n⟩
  rw[U_]at c;refine⟨.bool false,by rw[a,c],?_⟩;clear a;refine av aF<|dw<|av aF<|av aF<|aD<|Wr<|aJ aF ?_;exact⟨iB (by simp only[Ey,yY]at *; first|(symm; simp; omega)|(symm; simp at *; omega)|(symm; simp at *; done)),x,n⟩
 refine Qv aF (fun b d=>mM r)<|aX aF<|aQ<|aQ<|aQ<|aQ<|aQ<|aQ<|aQ<|aQ<|aQ<|aQ<|aQ<|aX aF<|aX aF<|Qn ?_;rintro _ ⟨f,rfl⟩;obtain⟨ab,l⟩ : ∃ b,b=World.drewN w f:=⟨_,rfl⟩;rw[<- l];have A:Stp w.heap.size w ab:=by rw[l]; exact Sb (jS w f)
 have P:=bF A.old h;have F:=(nR g w).then A (.inr (nR g w).size);clear l;refine sN<|ay<|av (pt g)<|av (pt g)<|av (pt g)<|av (pf g 13)<|jh P 13 (aC 0) fun Y I U z3 => ?_;have J:=I.congr (fun j s=>by rcases j with _|_|_|_|_|_|_|_|_|_|_|_|_|_|j <;> first|rfl|omega)
 have G:=F.then U (by omega);refine aD<|ay<|av (pt g)<|lU (PD (⟨v.o,v.seq,v.deps,v.kind,v.node,v.dst,v.aU,v.req,0⟩:EvM) g _ J) ?_;rintro e w6 ⟨a,t,V⟩;have p:=G.then V (by omega);by_cases c:yY (⟨v.o,v.seq,v.deps,v.kind,v.node,v.dst,v.aU,v.req,0⟩:EvM)=true
 ·refine⟨.bool true,by rw[a,c],?_⟩;clear a;refine av aG<|av aF<|av aF<|av aF<|aD<|Wr<|aJ aF ?_;exact⟨iB (by simp only[Ey,yY]at *; first|(symm; simp; omega)|(symm; simp at *; omega)|(symm; simp at *; done)),t,p⟩
 rw[U_]at c;refine⟨.bool false,by rw[a,c],?_⟩;clear a;refine av aF<|dw<|av aF<|av aF<|aD<|Wr<|aJ aF ?_;exact⟨iB (by simp only[Ey,yY]at *; first|(symm; simp; omega)|(symm; simp at *; omega)|(symm; simp at *; done)),t,p⟩
theorem ahK(v:EvM)(g:Nat)(w:World)(a:aP w g 14 (bV v) 160) :
 Calls Tryz.prog 117 #[(pt g)] w fun e w'=>e = .returned (.bool (toB v))/\aP w' g 14 (bV (Lm v)) 160/\Stp g w w':=by
 refine Kent Tryz.func117 28 ?_;refine ay<|av aF<|aD<|Ws ?_;refine nu<|aX (pt g)<|aX (pt g)<|aX (pt g)<|aX (pf g 10)<|Qv (au v.dst) (fun d b=>aM (a.cb b) 10) ?_;by_cases c:(mD v.dst)=true
 ·refine qA (fun _ _=>BP v.dst _) aG (by rw[c])<|aX aG<|aX (pt g)<|aX (pt g)<|aX (pt g)<|aX (pf g 10)<|Qv (au v.dst) (fun d b=>aM (a.cb b) 10)<|aX (pt g)<|aX (pt g)<|aX (pt g)<|aX (pt g)<|Qv (au v.o) (fun d b=>aM (a.cb b) 0) ?_;by_cases f:v.dst=v.o
  ·refine Qv aF (fun d b=>ko f)<|aX aF<|aX aF<|Qn ?_;intro N h;have E:=Sb h;have t:=bF h a;have m:=(nR g w).then E (.inr (nR g w).size);refine sN<|ay<|av (pt g)<|av (pt g)<|av (pt g)<|av (pf g 10)<|jh t 10 (au 0) fun K u F R => ?_;have x:=u.congr (fun j l=>by rcases j with _|_|_|_|_|_|_|_|_|_|_|_|_|_|j <;> first|rfl|omega)
   have n:=m.then F (by omega);refine aD<|ay<|av aF<|av aF<|aD<|Wr<|aJ aF ?_;exact⟨iB (by unfold toB; rw[c]; first|(symm; simp; omega)|(symm; simp; done)),x,n⟩
  refine Qv aG (fun d b=>nN f)<|aX aG<|aX aG<|Qn ?_;intro O i;have G:=Sb i;have y:=bF i a;have p:=(nR g w).then G (.inr (nR g w).size);refine sN<|ay<|av (pt g)<|av (pt g)<|av (pt g)<|av (pf g 10)<|jh y 10 (au 0) fun L z H S => ?_;have A:=z.congr (fun j l=>by rcases j with _|_|_|_|_|_|_|_|_|_|_|_|_|_|j <;> first|rfl|omega)
  have q:=p.then H (by omega);refine aD<|ay<|av aG<|av aG<|aD<|Wr<|aJ aG ?_;exact⟨iB (by unfold toB; rw[c]; first|(symm; simp; omega)|(symm; simp; done)),A,q⟩
 rw[U_]at c;refine qA (fun _ _=>BP v.dst _) aF (by rw[c])<|aX aF<|aQ<|aQ<|aQ<|aQ<|aQ<|aQ<|aQ<|aQ<|aQ<|aQ<|aQ<|aX aF<|aX aF<|Qn ?_;intro P k;have I:=Sb k;have B:=bF k a;have r:=(nR g w).then I (.inr (nR g w).size);refine sN<|ay<|av (pt g)<|av (pt g)<|av (pt g)<|av (pf g 10)<|jh B 10 (au 0) fun M C J T => ?_;have D:=C.congr (fun j l=>by rcases j with _|_|_|_|_|_|_|_|_|_|_|_|_|_|j <;> first|rfl|omega)
 have s:=r.then J (by omega);refine aD<|ay<|av aF<|av aF<|aD<|Wr<|aJ aF ?_;exact⟨iB (by unfold toB; rw[c]; first|(symm; simp; omega)|(symm; simp; done)),D,s⟩
namespace Rt
def mV(v:EvM):Bool :=
 if v.kind=1 then lJ v 0 else if v.kind=2 then lJ v 1 else if v.kind=3 then lJ v 1&&yY v else if v.kind=4 then Ey v else if v.kind=5 then lJ v 1&&toB v else if v.kind=6 then toB v else decide (v.kind=7)
def qZ(v:EvM):EvM :=
 if v.kind=1 then rR v else if v.kind=2 then rR v else if v.kind=3 then NP (rR v)else if v.kind=4 then adN v else if v.kind=5 then Lm (rR v)else if v.kind=6 then Lm v else v
def Vw(v:EvM):EvM:=⟨v.o,v.seq,v.deps,v.kind,0,0,0,0,0⟩
theorem adO(a b:EvM):(∀ i,i<14->bV a i=bV b i)<->a.o=b.o/\a.seq=b.seq/\(∀ i,i<6->a.deps i=b.deps i)/\a.kind=b.kind/\a.node=b.node/\a.dst=b.dst/\a.aU=b.aU/\a.req=b.req/\a.of=b.of:=by
 constructor
 ·intro h;have f:Value.int .i64 a.o=au b.o:=h 0 (by decide);have g:Value.int .u64 a.seq=aC b.seq:=h 1 (by decide);have p:Value.int .u8 a.kind = .int .u8 b.kind:=h 8 (by decide);have q:Value.int .u64 a.node=aC b.node:=h 9 (by decide);have j:Value.int .i64 a.dst=au b.dst:=h 10 (by decide);have k:Value.int .i64 a.aU=au b.aU:=h 11 (by decide);have l:Value.int .u64 a.req=aC b.req:=h 12 (by decide);have m:Value.int .u64 a.of=aC b.of:=h 13 (by decide);simp only[Value.int.injEq,true_and]at f g p q j k l m;refine⟨f,g,fun i r => ?_,p,q,j,k,l,m⟩;have n:=h (i+2) (by omega);rw[mQ a rfl r,mQ b rfl r]at n
  simpa using n
 rintro ⟨f,g,n,p,q,j,k,l,m⟩ i r;unfold bV;rw[f,g,p,q,j,k,l,m];by_cases c:i=0
 ·rw[d_ c,d_ c]
 by_cases d:i=1
 ·rw[b_ c,d_ d,b_ c,d_ d]
 by_cases e:i<8
 ·rw[b_ c,b_ d,d_ e,b_ c,b_ d,d_ e,n _ (by omega)]
 rw[b_ c,b_ d,b_ e,b_ c,b_ d,b_ e]
theorem Ik{v:EvM}(a:mV v=true):(∀ i,i<14->bV (qZ v) i=bV (Vw v) i)<->om v=true:=by
 have h:=a;rw[adO];unfold mV at h;unfold qZ om ku Vw;simp only[T_,decide_eq_true_eq];split at h
 ·rename_i k; simp[k,rR,and_assoc]
 split at h
 ·rename_i k1 k; simp[k,rR,and_assoc]
 split at h
 ·rename_i k1 k2 k; simp[k,rR,NP,and_assoc]
 split at h
 ·rename_i k1 k2 k3 k; simp[k,adN,and_assoc]
 split at h
 ·rename_i k1 k2 k3 k4 k; simp[k,rR,Lm,and_assoc]
 split at h
 ·rename_i k1 k2 k3 k4 k5 k; simp[k,Lm,and_assoc]
 rename_i k1 k2 k3 k4 k5 k6; simp[k1,k2,k3,k4,k5,k6,and_assoc]
theorem DU{v:EvM}(h:om v=true):dz v=mV v:=by
 unfold om ku at h;unfold dz mV someE lJ Ey toB kN yY;simp only[T_,decide_eq_true_eq]at h;split <;> try rfl
 rename_i k1;split <;> try rfl
 rename_i k2;split
 ·congr 1
 rename_i k3;split
 ·rename_i k4; rw[P_]; simp only[T_,decide_eq_true_eq,Bool.not_eq_true',decide_eq_false_iff_not]; omega
 split <;> rfl
def NQ(x:Nat->Int):Nat->Int
 | 0=>x 0
 | k+1=>if x (k+1)>NQ x k then x (k+1)else NQ x k
theorem Vx(x:Nat->Int) : ∀ n i,i<=n->x i<=NQ x n
 | 0,i,h=>by rw[show i=0 by omega]; exact N_ _
 | n+1,i,h=>by
   unfold NQ;by_cases e:i=n+1
   ·subst e; split <;> omega
   ·have:=Vx x n i (by omega); split <;> omega
theorem Vy(x:Nat->Int) : ∀ n,∃ i,i<=n/\NQ x n=x i
 | 0=>⟨0,A_ _,rfl⟩
 | n+1=>by
   unfold NQ;split
   ·exact⟨n+1,A_ _,rfl⟩
   ·obtain⟨i,a,e⟩:=Vy x n; exact⟨i,by omega,e⟩
theorem adP{v:EvM}(h:1099511627776<=NQ v.deps 5):wZ v=false:=by
 obtain⟨i,a,e⟩:=Vy v.deps 5;exact Hy (k:=i) (by omega) (by omega)
theorem JJ{v:EvM}(h : ¬ 1099511627776<=NQ v.deps 5):wZ v=true :=
 xg (k:=6) (by omega) fun i a=>by have:=Vx v.deps 5 i (by omega); omega
def ahL(v:EvM)(b:Bool)(a:EvM):Prop:=b=mV v/\(b=true->a=qZ v)
end Rt
set_option maxHeartbeats 1000000 in
theorem adQ(v:EvM)(g:Nat)(w:World)(k:aP w g 14 (bV v) 160) :
 Calls Tryz.prog 90 #[(pt g)] w fun e w' => ∃ b O,e = .returned (.bool b)/\aP w' g 14 (bV O) 160/\Stp g w w'/\ahL v b O:=by
 refine Kent Tryz.func90 46 ?_;refine ay<|av aF<|aD<|Ws<|ay<|av (pt g)<|av (pt g)<|av (pt g)<|av (pf g 8)<|Lv (.int .u8 (v.kind)) (aM k.aI 8)<|aD<|Wb<|ay ?_;by_cases c:v.kind=1
 ·refine Lv aG (eX c)<|av aG<|aD<|aL<|ay<|av (pt g)<|lU (JI 0 v g _ k) ?_;rintro e Y ⟨a,G,P⟩;have y:=(nR g w).then P (by omega);by_cases p:lJ v 0=true
  ·refine⟨.bool true,by rw[a,p],?_⟩;clear a;refine av aG (aD (Wr (bP (sR (aJ aG (⟨_,_,rfl,G,y,Eq.symm (by unfold mV; rw[d_ c,(show lJ v 0=true from p)]; try rfl),fun d => ?_⟩))))))
   unfold qZ; rw[d_ c]; try rfl
  rw[U_]at p;refine⟨.bool false,by rw[a,p],?_⟩;clear a;refine av aF (aD (Wr (bP (sR (aJ aF (⟨_,_,rfl,G,y,Eq.symm (by unfold mV; rw[d_ c,(show lJ v 0=false from p)]; try rfl),fun d => ?_⟩))))))
  cases d
 refine Lv aF (fT c)<|av aF<|aD<|aK<|ay ?_;by_cases f:v.kind=2
 ·refine Lv aG (eX f)<|av aG<|aD<|aL<|ay<|av (pt g)<|lU (JI 1 v g _ k) ?_;rintro e Z ⟨a,H,Q⟩;have z:=(nR g w).then Q (by omega);by_cases q:lJ v 1=true
  ·refine⟨.bool true,by rw[a,q],?_⟩;clear a;refine av aG (aD (Wr (bP (sR (aJ aG (⟨_,_,rfl,H,z,Eq.symm (by unfold mV; rw[b_ c,d_ f,(show lJ v 1=true from q)]; try rfl),fun d => ?_⟩))))))
   unfold qZ; rw[b_ c,d_ f]; try rfl
  rw[U_]at q;refine⟨.bool false,by rw[a,q],?_⟩;clear a;refine av aF (aD (Wr (bP (sR (aJ aF (⟨_,_,rfl,H,z,Eq.symm (by unfold mV; rw[b_ c,d_ f,(show lJ v 1=false from q)]; try rfl),fun d => ?_⟩))))))
  cases d
 refine Lv aF (fT f)<|av aF<|aD<|aK<|ay ?_;by_cases h:v.kind=3
 ·refine Lv aG (eX h)<|av aG<|aD<|aL<|ay<|av (pt g)<|lU (JI 1 v g _ k) ?_;rintro e w3 ⟨a,I,R⟩;have A:=(nR g w).then R (by omega);by_cases m:lJ v 1=true
  ·refine⟨.bool true,by rw[a,m],?_⟩;clear a;refine av aG<|av (pt g)<|lU (PD (⟨v.o,v.seq,v.deps,v.kind,0,v.dst,0,v.req,v.of⟩:EvM) g _ I) ?_;rintro e w4 ⟨a,J,S⟩;have B:=A.then S (by omega);by_cases r:yY (⟨v.o,v.seq,v.deps,v.kind,0,v.dst,0,v.req,v.of⟩:EvM)=true
   ·refine⟨.bool true,by rw[a,r],?_⟩;clear a;refine av aG (av aG (aD (Wr (bP (sR (aJ aG (⟨_,_,rfl,J,B,Eq.symm (by unfold mV; rw[b_ c,b_ f,d_ h,(show lJ v 1=true from m),(show yY v=true from r)]; try rfl),fun d => ?_⟩)))))))
    unfold qZ; rw[b_ c,b_ f,d_ h]; try rfl
   rw[U_]at r;refine⟨.bool false,by rw[a,r],?_⟩;clear a;refine av aF (av aF (aD (Wr (bP (sR (aJ aF (⟨_,_,rfl,J,B,Eq.symm (by unfold mV; rw[b_ c,b_ f,d_ h,(show lJ v 1=true from m),(show yY v=false from r)]; try rfl),fun d => ?_⟩)))))))
   cases d
  rw[U_]at m;refine⟨.bool false,by rw[a,m],?_⟩;clear a;refine av aF (dw (dw (av aF (av aF (aD (Wr (bP (sR (aJ aF (⟨_,_,rfl,I,A,Eq.symm (by unfold mV; rw[b_ c,b_ f,d_ h,(show lJ v 1=false from m)]; try rfl),fun d => ?_⟩))))))))))
  cases d
 refine Lv aF (fT h)<|av aF<|aD<|aK<|ay ?_;by_cases i:v.kind=4
 ·refine Lv aG (eX i)<|av aG<|aD<|aL<|ay<|av (pt g)<|lU (aoI v g _ k) ?_;rintro e w5 ⟨a,K,T⟩;have C:=(nR g w).then T (by omega);by_cases s:Ey v=true
  ·refine⟨.bool true,by rw[a,s],?_⟩;clear a;refine av aG (aD (Wr (bP (sR (aJ aG (⟨_,_,rfl,K,C,Eq.symm (by unfold mV; rw[b_ c,b_ f,b_ h,d_ i,(show Ey v=true from s)]; try rfl),fun d => ?_⟩))))))
   unfold qZ; rw[b_ c,b_ f,b_ h,d_ i]; try rfl
  rw[U_]at s;refine⟨.bool false,by rw[a,s],?_⟩;clear a;refine av aF (aD (Wr (bP (sR (aJ aF (⟨_,_,rfl,K,C,Eq.symm (by unfold mV; rw[b_ c,b_ f,b_ h,d_ i,(show Ey v=false from s)]; try rfl),fun d => ?_⟩))))))
  cases d
 refine Lv aF (fT i)<|av aF<|aD<|aK<|ay ?_;by_cases j:v.kind=5
 ·refine Lv aG (eX j)<|av aG<|aD<|aL<|ay<|av (pt g)<|lU (JI 1 v g _ k) ?_;rintro e w6 ⟨a,L,U⟩;have D:=(nR g w).then U (by omega);by_cases n:lJ v 1=true
  ·refine⟨.bool true,by rw[a,n],?_⟩;clear a;refine av aG<|av (pt g)<|lU (ahK (⟨v.o,v.seq,v.deps,v.kind,0,v.dst,0,v.req,v.of⟩:EvM) g _ L) ?_;rintro e w7 ⟨a,M,V⟩;have E:=D.then V (by omega);by_cases t:toB (⟨v.o,v.seq,v.deps,v.kind,0,v.dst,0,v.req,v.of⟩:EvM)=true
   ·refine⟨.bool true,by rw[a,t],?_⟩;clear a;refine av aG (av aG (aD (Wr (bP (sR (aJ aG (⟨_,_,rfl,M,E,Eq.symm (by unfold mV; rw[b_ c,b_ f,b_ h,b_ i,d_ j,(show lJ v 1=true from n),(show toB v=true from t)]; try rfl),fun d => ?_⟩)))))))
    unfold qZ; rw[b_ c,b_ f,b_ h,b_ i,d_ j]; try rfl
   rw[U_]at t;refine⟨.bool false,by rw[a,t],?_⟩;clear a;refine av aF (av aF (aD (Wr (bP (sR (aJ aF (⟨_,_,rfl,M,E,Eq.symm (by unfold mV; rw[b_ c,b_ f,b_ h,b_ i,d_ j,(show lJ v 1=true from n),(show toB v=false from t)]; try rfl),fun d => ?_⟩)))))))
   cases d
  rw[U_]at n;refine⟨.bool false,by rw[a,n],?_⟩;clear a;refine av aF (dw (dw (av aF (av aF (aD (Wr (bP (sR (aJ aF (⟨_,_,rfl,L,D,Eq.symm (by unfold mV; rw[b_ c,b_ f,b_ h,b_ i,d_ j,(show lJ v 1=false from n)]; try rfl),fun d => ?_⟩))))))))))
  cases d
 refine Lv aF (fT j)<|av aF<|aD<|aK<|ay ?_;by_cases l:v.kind=6
 ·refine Lv aG (eX l)<|av aG<|aD<|aL<|ay<|av (pt g)<|lU (ahK v g _ k) ?_;rintro e w8 ⟨a,N,W⟩;have F:=(nR g w).then W (by omega);by_cases u:toB v=true
  ·refine⟨.bool true,by rw[a,u],?_⟩;clear a;refine av aG (aD (Wr (bP (sR (aJ aG (⟨_,_,rfl,N,F,Eq.symm (by unfold mV; rw[b_ c,b_ f,b_ h,b_ i,b_ j,d_ l,(show toB v=true from u)]; try rfl),fun d => ?_⟩))))))
   unfold qZ; rw[b_ c,b_ f,b_ h,b_ i,b_ j,d_ l]; try rfl
  rw[U_]at u;refine⟨.bool false,by rw[a,u],?_⟩;clear a;refine av aF (aD (Wr (bP (sR (aJ aF (⟨_,_,rfl,N,F,Eq.symm (by unfold mV; rw[b_ c,b_ f,b_ h,b_ i,b_ j,d_ l,(show toB v=false from u)]; try rfl),fun d => ?_⟩))))))
  cases d
 refine Lv aF (fT l)<|av aF<|aD<|aK<|Wk<|bR<|sN<|ay<|av (pt g)<|av (pt g)<|av (pt g)<|av (pf g 8)<|Lv (.int .u8 (v.kind)) (aM k.aI 8) ?_;by_cases x:v.kind=7
 ·refine Lv aG (eX x) (av aG (aD (Wr (aJ aG (⟨_,_,rfl,k,(nR g w),Eq.symm (by unfold mV; rw[b_ c,b_ f,b_ h,b_ i,b_ j,b_ l,f_ x]; try rfl),fun d => ?_⟩)))))
  unfold qZ; rw[b_ c,b_ f,b_ h,b_ i,b_ j,b_ l]; try rfl
 refine Lv aF (fT x) (av aF (aD (Wr (aJ aF (⟨_,_,rfl,k,(nR g w),Eq.symm (by unfold mV; rw[b_ c,b_ f,b_ h,b_ i,b_ j,b_ l,g_ x]; try rfl),fun d => ?_⟩)))))
 cases d
theorem ahM(x:Nat->Int)(b off:Nat)(w:World)(hx:jg w b off 6 (rv .u64 x)) :
 Calls Tryz.prog 89 #[.slice (some ⟨b,off,none⟩) (6) (6)] w fun e w'=>e = .returned (aC (NQ x 5))/\Below w.heap.size w w':=by
 refine Kent Tryz.func89 25 ?_;refine ay<|av (aC 0)<|aD<|Ws<|ay<|av (.slice (some ⟨b,off,none⟩) (6) (6))<|av (au 6)<|Lv aF Hf<|aD<|aK<|Wk<|sN<|ay<|av (.slice (some ⟨b,off,none⟩) (6) (6))<|Lv (pf b off) (dh 1)<|Lv (aC (x 0)) (aM hx 0)<|av (aC (x 0))<|aD<|Ws<|ay<|av (au 1)<|aD<|Wb<|Wo (fun f j => ∃ k:Nat,k<=5/\f 0 = .slice (some ⟨b,off,none⟩) (6) (6)/\f 3=aC (NQ x k)/\f 4=au ((k:Int)+1)/\jg j b off 6 (rv .u64 x)/\Below w.heap.size w j) (fun f _=>(6-(intOf (f 4)).toNat)) ⟨0,by omega,(by rfl),rfl,Fx.ic,hx,(Below.refl w.heap.size w)⟩ ?_;rintro m p ⟨k,n,c,h,a,i,d⟩;refine Ws<|ay<|aT a<|aT c<|av (au 6) ?_;by_cases g:((k:Int)+1)<6
 ·refine Lv aG (gN g)<|aD<|aL<|Wk<|sN<|Ws<|Wb<|Wl<|aT h<|aT c<|aT a<|Lv (pf b (k+off+1)) (dh 1)<|Lv (aC (x (k+1))) (aM i (k+1))<|Lv (aC (NQ x (k+1))) (Fx.aao rfl rfl rfl)<|av (aC (NQ x (k+1)))<|Ln<|bR<|sN<|Wl<|aT a<|Lv (au ((k:Int)+2)) eU<|av (au ((k:Int)+2))<|Ln<|gL ⟨k+1,by omega,c,rfl,Fx.ic,i,d⟩ ?_;show(6-(intOf (au ((k:Int)+2))).toNat)<_;simp only[a,intOf]; omega
 refine Lv aF (gP g)<|aD<|aK<|Wx<|bY<|gJ<|bZ<|sN<|ay<|aT h<|av (aC (NQ x k))<|aD<|Wr<|aJ (aC (NQ x k)) ?_;have l:k=5:=by omega
 exact⟨by rw[l],d⟩
theorem PE{ks:List (Option IntKind)}{x y:Nat->Value}(h:Fx.Kd ks y)(e : ∀ j,j<ks.length->x j=y j):Fx.Kd ks x:=fun i a=>by rw[e i a]; exact h i a
namespace Rt
theorem Lp{v:EvM}(h:gU v):gU (Vw v):=by
 have z:jO 0:=⟨by decide,by decide⟩;have y:qJ 0:=⟨by decide,by decide⟩;exact⟨h.o,h.seq,h.deps,h.kind,z,y,y,z,z⟩
theorem Lr{v:EvM}(h:gU v):gU (qZ v):=by
 have z:jO 0:=⟨by decide,by decide⟩;have y:qJ 0:=⟨by decide,by decide⟩;unfold qZ;split
 ·exact⟨h.o,h.seq,h.deps,h.kind,z,h.dst,y,h.req,h.of⟩
 split
 ·exact⟨h.o,h.seq,h.deps,h.kind,z,h.dst,y,h.req,h.of⟩
 split
 ·exact⟨h.o,h.seq,h.deps,h.kind,z,h.dst,y,z,h.of⟩
 split
 ·exact⟨h.o,h.seq,h.deps,h.kind,h.node,h.dst,h.aU,z,z⟩
 split
 ·exact⟨h.o,h.seq,h.deps,h.kind,z,y,y,h.req,h.of⟩
 split
 ·exact⟨h.o,h.seq,h.deps,h.kind,h.node,y,h.aU,h.req,h.of⟩
 exact h
end Rt
set_option maxHeartbeats 2000000 in
theorem Il(v:EvM)(w:World)(G:gU v) :
 Calls Tryz.prog 62 #[.agg (aA 14 (bV v))] w fun e w'=>e = .returned (.bool (bS v))/\Below w.heap.size w w':=by
 refine Kent Tryz.func62 55 ?_;refine ay<|rE fun g w1 lN t s1 z1 => ?_;have B:=bF s1.old (Below.refl w.heap.size w);have uM:=t.lt;refine av aF<|aD<|Ws<|Ws ?_;refine nu<|aX (pt g)<|Qv (au v.o) (fun f d=>aM (t.cb d) 0) ?_;by_cases l:(mD v.o)=true
 ·obtain⟨a,ha,ea⟩:=fu l;refine qA (fun _ _=>BP v.o _) aG (by rw[l])<|aX aF<|aX aF<|aX (pf g 1)<|Qv (aC v.seq) (fun f d=>aM (t.cb d) 1) ?_;by_cases N:v.seq<1
  ·refine Qv aG (fun f d=>gN N)<|aX aG<|aX aG<|aQ<|aQ<|aQ<|aX aG<|aX aG<|aQ<|aQ<|aQ<|aQ<|aQ<|aQ<|aQ<|aQ<|aQ<|aQ<|aX aG<|Qn ?_;intro Yh uq;have⟨k,U⟩:=fF uq t B;refine sN<|aL<|ay<|av aF<|aD<|Wr<|sR<|aJ aF ?_;have k:decide (1<=v.seq)=false:=g_ (by omega);exact⟨iB (Eq.symm (by unfold bS; rw[l,k]; try rfl)),U⟩
  refine Qv aF (fun f d=>gP N)<|aX aF<|aX aF<|aX (pf g 1)<|Qv (aC v.seq) (fun f d=>aM (t.cb d) 1) ?_;by_cases O:1099511627776<=v.seq
  ·refine Qv aG (fun f d=>kM O)<|aX aG<|aX aG<|aQ<|aQ<|aQ<|aQ<|aQ<|aQ<|aQ<|aQ<|aQ<|aQ<|aX aG<|Qn ?_;intro wb2 xR;have⟨m,V⟩:=fF xR t B;refine sN<|aL<|ay<|av aF<|aD<|Wr<|sR<|aJ aF ?_;have k:decide (1<=v.seq)=true:=f_ (by omega);have m:decide (v.seq<1099511627776)=false:=g_ (by omega);exact⟨iB (Eq.symm (by unfold bS; rw[l,k,m]; try rfl)),V⟩
  refine Qv aF (fun f d=>kg O)<|aX aF<|aX aF<|aX (pt g)<|Qv (au v.o) (fun f d=>aM (t.cb d) 0)<|Qv (au a) (fun f d=>fZ)<|aX (pf g 2)<|Qv (pf g (a+2)) (fun f d=>iY 6 1)<|Qv (aC (v.deps a)) (fun f d=>aM (t.cb d) (a+2) (mQ _ (by omega) (by omega)))<|aX (pf g 1)<|Qv (aC v.seq) (fun f d=>aM (t.cb d) 1)<|Qv (aC (v.seq-1)) (fun f d=>fZ) ?_;by_cases y:(v.deps a)=(v.seq-1)
  ·refine Qv aF (fun f d=>ko y)<|aX aF<|Qn ?_;intro wb3 xS;have⟨q,W⟩:=fF xS t B;refine sN<|aK<|Wk<|sN<|Ws<|ay<|av (pf g 2)<|Lv (.slice (some ⟨g,2,none⟩) (6) (6)) (Fx.NM rfl rfl Tryz.underlying30 (s:=1) (by kernel_rfl))<|dQ (ahM v.deps g 2 _ (fun j x=>by have Q:=q.aI (2+j) (by omega); rw[G_]at Q; rw[Q,mQ v (p:=2+j) (j:=j) (by omega) x]; rfl)) _ rfl ?_;intro w2 hb1;have⟨r,I⟩:=fF hb1 q W;by_cases A:1099511627776<=(NQ v.deps 5)
   ·refine Lv aG (kM A)<|aD<|aL<|ay<|av aF<|aD<|Wr<|sR<|aJ aF ?_;have k:decide (1<=v.seq)=true:=f_ (by omega);have m:decide (v.seq<1099511627776)=true:=f_ (by omega);have q:decide (v.deps (v.o-1).toNat=v.seq-1)=true:=f_ (by rw[show(v.o-1).toNat=a by omega]; exact y);have r:=adP A;exact⟨iB (Eq.symm (by unfold bS; rw[l,k,m,q,r]; try rfl)),I⟩
   refine Lv aF (kg A)<|aD<|aK<|Wk<|sN<|ay<|Lv (.agg (aA 14 (bV v))) (fJ r.aI 0)<|av (.agg (aA 14 (aZ (fun c=>if c<1 then au 0 else if c<8 then aC 0 else if c<9 then .int .u8 (0)else if c<10 then aC 0 else if c<12 then au 0 else aC 0) 0 14 (bV v))))<|rE fun z w3 P u s6 z2 => ?_;have⟨C,Z⟩:=fF s6.old r I;have qW:=iT P I.size;have Pf:=cu P r.lt;have zY:=u.lt;refine av (pt z)<|aD<|Ws ?_;have L:aP w3 z 14 (bV v) 160:=u.congr (fun j x=>by rcases j with _|_|_|_|_|_|_|_|_|_|_|_|_|_|j <;> first|rfl|omega)
   refine Bp [0,1,2,3,4,5,7,9,11,13,6,8,10,12,14,15,16,17,18] [0,3,0,0,0,0,4,0,4,0,4,0,4,0,4,0,0,0,0] (Fx.GD [160]) Fx.GD.refl Fx.GD.trans (fO := [(2,1,[1]),(3,1,[2,1]),(4,1,[2,1]),(5,1,[2,1]),(7,1,[2,1]),(9,1,[2,1]),(11,1,[2,1]),(13,1,[2,1]),(6,1,[2,1]),(8,1,[2,1]),(10,1,[2,1]),(12,1,[2,1]),(14,1,[2,1]),(15,1,[2,1]),(16,1,[2,1]),(17,1,[2,1]),(18,1,[1])]) (by kernel_rfl) (by kernel_rfl) (by kernel_rfl) (by kernel_rfl) (by kernel_rfl) fun rG dZ iJ => ?_;have⟨m9,m10,M⟩:=jr dZ C L Z;refine bf (pt z)<|gQ<|lU (adQ v z _ m10) ?_;rintro e w4 ⟨b,v',E,R,S,F,hkv⟩;have H:=m9.cZ S (by omega);have J:=S.below M M.size (by omega)
   cases b
   ·refine⟨.bool false,E,?_⟩;clear E;refine Ln<|bf aF<|Rk (by rfl)<|Rk (by rfl)<|Rk (by rfl)<|Rk (by rfl)<|Rk (by rfl)<|Rk (by rfl)<|Rk (by rfl)<|Rk (by rfl)<|Rk (by rfl)<|Rk (by rfl)<|Rk (by rfl)<|Rk (by rfl)<|Rk (by rfl)<|Rk (by rfl)<|bf aF<|bf aF<|bT<|Wr<|aJ aF ?_;have k:decide (1<=v.seq)=true:=f_ (by omega);have m:decide (v.seq<1099511627776)=true:=f_ (by omega);have q:decide (v.deps (v.o-1).toNat=v.seq-1)=true:=f_ (by rw[show(v.o-1).toNat=a by omega]; exact y);have r:=JJ A;have u:om v=true->dz v=false:=fun h=>by rw[DU h,<- F]
    have C:(om v&&dz v)=false:=by cases h:om v with|false=>rfl|true=>exact u h
    have L:(true&&true&&true&&true&&true&&om v&&dz v)=false:=C;exact⟨iB (Eq.symm (by unfold bS; rw[l,k,m,q,r,L]; try rfl)),J⟩
   refine⟨.bool true,E,?_⟩;clear E;rw[hkv rfl]at R;refine Ln<|bf aG<|bf (pt z)<|bf (pt z)<|bf (pt z)<|bf (pt g)<|bf (pf g 1)<|bf (pf g 2)<|bf (pf g 8)<|Rs (.agg (aA 14 (bV (qZ v)))) (fJ R.aI 0) ?_;refine Rs (au v.o) (aM H.aI 0) ?_;refine Rs (aC v.seq) (aM H.aI 1) ?_;refine Rs (.agg (aA 6 (rv .u64 v.deps))) (fJ H.aI 2 (fun j x=>mQ _ (by omega) x)) ?_;refine Rs (.int .u8 (v.kind)) (aM H.aI 8) ?_;refine bf (.agg (aA 14 (aZ (aZ (aZ (aZ (fun c=>if c<1 then au 0 else if c<8 then aC 0 else if c<9 then .int .u8 (0)else if c<10 then aC 0 else if c<12 then au 0 else aC 0) 0 1 (fun _=>au v.o)) 1 1 (fun _=>aC v.seq)) 2 6 (rv .u64 v.deps)) 8 1 (fun _ => .int .u8 (v.kind))))) ?_;by_cases D : ∀ i,i<14->(bV (qZ v)) i=(aZ (aZ (aZ (aZ (fun c=>if c<1 then au 0 else if c<8 then aC 0 else if c<9 then .int .u8 (0)else if c<10 then aC 0 else if c<12 then au 0 else aC 0) 0 1 (fun _=>au v.o)) 1 1 (fun _=>aC v.seq)) 2 6 (rv .u64 v.deps)) 8 1 (fun _ => .int .u8 (v.kind))) i
   ·refine Rp aG (fun f=>Fx.wJ (n:=14) (ks := [(some .i64),(some .u64),(some .u64),(some .u64),(some .u64),(some .u64),(some .u64),(some .u64),(some .u8),(some .u64),(some .i64),(some .i64),(some .u64),(some .u64)]) (X:=bV (qZ v)) (Y:=aZ (aZ (aZ (aZ (fun c=>if c<1 then au 0 else if c<8 then aC 0 else if c<9 then .int .u8 (0)else if c<10 then aC 0 else if c<12 then au 0 else aC 0) 0 1 (fun _=>au v.o)) 1 1 (fun _=>aC v.seq)) 2 6 (rv .u64 v.deps)) 8 1 (fun _ => .int .u8 (v.kind))) 12 true rfl rfl rfl (Fx.SC D) (DC (Lr G)) (PE (DC (Lp G)) (fun j x=>by rcases j with _|_|_|_|_|_|_|_|_|_|_|_|_|_|j <;> first|rfl|exact M_ x (by simp))) rfl (by kernel_rfl) (by kernel_rfl) (by kernel_rfl) (by kernel_rfl) (by kernel_rfl))<|bf aG<|bf aG<|bT<|Wr<|aJ aG ?_
    have k:decide (1<=v.seq)=true:=f_ (by omega);have m:decide (v.seq<1099511627776)=true:=f_ (by omega);have q:decide (v.deps (v.o-1).toNat=v.seq-1)=true:=f_ (by rw[show(v.o-1).toNat=a by omega]; exact y);have r:=JJ A;have u:=(Ik F.symm).1 (fun i K=>(D i K).trans (by rcases i with _|_|_|_|_|_|_|_|_|_|_|_|_|_|i <;> first|rfl|omega))
    have C:=(DU u).trans F.symm;exact⟨iB (Eq.symm (by unfold bS; rw[l,k,m,q,r,u,C]; try rfl)),J⟩
   refine Rp aF (fun f=>Fx.wJ (n:=14) (ks := [(some .i64),(some .u64),(some .u64),(some .u64),(some .u64),(some .u64),(some .u64),(some .u64),(some .u8),(some .u64),(some .i64),(some .i64),(some .u64),(some .u64)]) (X:=bV (qZ v)) (Y:=aZ (aZ (aZ (aZ (fun c=>if c<1 then au 0 else if c<8 then aC 0 else if c<9 then .int .u8 (0)else if c<10 then aC 0 else if c<12 then au 0 else aC 0) 0 1 (fun _=>au v.o)) 1 1 (fun _=>aC v.seq)) 2 6 (rv .u64 v.deps)) 8 1 (fun _ => .int .u8 (v.kind))) 12 false rfl rfl rfl (Fx.nob D) (DC (Lr G)) (PE (DC (Lp G)) (fun j x=>by rcases j with _|_|_|_|_|_|_|_|_|_|_|_|_|_|j <;> first|rfl|exact M_ x (by simp))) rfl (by kernel_rfl) (by kernel_rfl) (by kernel_rfl) (by kernel_rfl) (by kernel_rfl))<|bf aF<|bf aF<|bT<|Wr<|aJ aF ?_
   have k:decide (1<=v.seq)=true:=f_ (by omega);have m:decide (v.seq<1099511627776)=true:=f_ (by omega);have q:decide (v.deps (v.o-1).toNat=v.seq-1)=true:=f_ (by rw[show(v.o-1).toNat=a by omega]; exact y);have r:=JJ A;have u:om v=false:=Bool.eq_false_iff.2 (fun h=>D (fun i K=>((Ik F.symm).2 h i K).trans (by rcases i with _|_|_|_|_|_|_|_|_|_|_|_|_|_|i <;> first|rfl|omega)))
   exact⟨iB (Eq.symm (by unfold bS; rw[l,k,m,q,r,u]; try rfl)),J⟩
  refine Qv aG (fun f d=>nN y)<|aX aG<|Qn ?_;intro wb4 BD;have b9:=bF BD B;refine sN<|aL<|ay<|av aF<|aD<|Wr<|sR<|aJ aF ?_;have k:decide (1<=v.seq)=true:=f_ (by omega);have m:decide (v.seq<1099511627776)=true:=f_ (by omega);have q:decide (v.deps (v.o-1).toNat=v.seq-1)=false:=g_ (by rw[show(v.o-1).toNat=a by omega]; exact y);exact⟨iB (Eq.symm (by unfold bS; rw[l,k,m,q]; try rfl)),b9⟩
 rw[U_]at l;refine qA (fun _ _=>BP v.o _) aF (by rw[l])<|aX aG<|aX aG<|aQ<|aQ<|aQ<|aX aG<|aX aG<|aQ<|aQ<|aQ<|aX aG<|aX aG<|aQ<|aQ<|aQ<|aQ<|aQ<|aQ<|aQ<|aQ<|aQ<|aQ<|aX aG<|Qn ?_;intro wb5 FC;have T:=bF FC B;refine sN<|aL<|ay<|av aF<|aD<|Wr<|sR<|aJ aF ?_;exact⟨iB (Eq.symm (by unfold bS; rw[l]; try rfl)),T⟩
namespace Rt
def uS(a b:Int):Int:=if b>a then b else a
def vx(X:Nat->Nat->Int):Nat->Value:=fun p=>aC (X (p / 6) (p % 6))
theorem Vz(X:Nat->Nat->Int){i p j:Nat}(a:p=6*i)(b:j<6):vx X (p+j)=rv .u64 (X i) j:=by
 subst a;show Value.int .u64 (X ((6*i+j) / 6) ((6*i+j) % 6))=aC (X i j);rw[show(6*i+j) / 6=i by omega,show(6*i+j) % 6=j by omega]
def Aq(c:Int->Int->Int)(X:Nat->Nat->Int):Nat->Nat->Int
 | 0=>X 0
 | k+1=>fun p=>c (Aq c X k p) (X (k+1) p)
def PG(c:Int->Int->Int)(X:Nat->Nat->Int):Nat->Nat->Int
 | 0=>fun _=>0
 | k+1=>Aq c X k
def Vcs(w:World)(a:Option Addr)(n cap:Nat)(X:Nat->Nat->Int):Prop:=0<n->n<=cap /\ ∃ b c,a=some ⟨b,c,none⟩/\jg w b c (6*n) (vx X)
def yZ(x:Nat->Int)(k:Nat):Nat->Int:=fun p=>if p<k then x p else 0
theorem NR(x:Nat->Int)(k:Nat):upd (yZ x k) k (x k)=yZ x (k+1):=by
 funext p; unfold upd yZ
 by_cases h:p=k
 ·subst h; rw[d_ rfl,d_ (by omega)]
 rw[b_ h];by_cases a:p<k
 ·rw[d_ a,d_ (by omega)]
 rw[b_ a,b_ (by omega)]
theorem Rx(x:Nat->Int):aA 6 (rv .u64 (yZ x 6))=aA 6 (rv .u64 x):=Fx.fB fun p a=>L_ (Value.int .u64) (by unfold yZ; rw[d_ a])
end Rt
theorem ahN(a b:Int)(w:World) :
 Calls Tryz.prog 128 #[aC a,aC b] w fun e w'=>e = .returned (aC (uS a b))/\w'=w:=by
 refine Kent Tryz.func128 8 ?_;refine ay<|av (aC 0)<|aD<|ay<|av (aC a)<|av (aC b)<|Lv (aC (uS a b)) (Fx.aao rfl rfl rfl)<|av (aC (uS a b))<|aD<|Wr<|aJ (aC (uS a b)) ?_;exact⟨rfl,rfl⟩
theorem VA(x y:Nat->Int)(gc go c q:Nat)(w:World)(k:q<6)(i:aP w gc 1 (fun _ => .func (.func 128) #[] #[]) 193)(d:aP w go 6 (rv .u64 x) 30)(j:aP w c 6 (rv .u64 y) 30) :
 Calls Tryz.prog 140 #[au (q:Int),(pt gc),(pt go),(pt c)] w fun e w'=>e = .returned (aC (uS (x q) (y q)))/\Below w.heap.size w w':=by
 refine Kent Tryz.func140 14 ?_;refine ay<|av (aC 0)<|aD<|Ws ?_;refine nu<|Qv (.func (.func 128) #[] #[]) (fun b a=>aM (i.cb a) 0)<|aX (au q)<|Qv (pf go q) (fun b a=>iY 6 1)<|Qv (aC (x q)) (fun b a=>aM (d.cb a) q)<|aX (au q)<|Qv (pf c q) (fun b a=>iY 6 1)<|Qv (aC (y q)) (fun b a=>aM (j.cb a) q)<|GA (v:=aC (uS (x q) (y q))) (by rfl) (fun b a=>Fx.Fe (args := [aC (x q),aC (y q)]) rfl rfl rfl (all := #[aC (x q),aC (y q)]) rfl Tryz.func128 rfl rfl) rfl (fun b a=>(ahN (x q) (y q) _).mono fun e v2 h=>⟨h.1,by rw[h.2]; exact a⟩) ?_;refine aX (aC (uS (x q) (y q)))<|Qn ?_;intro m g;have⟨l,f⟩:=fF g d (Below.refl w.heap.size w);refine sN<|Wr<|aJ (aC (uS (x q) (y q))) ?_;exact⟨rfl,f⟩
theorem NT(x y:Nat->Int)(gc go b:Nat)(w:World)(v:aP w gc 1 (fun _ => .func (.func 128) #[] #[]) 193)(A:aP w go 6 (rv .u64 x) 30)(B:aP w b 6 (rv .u64 y) 30) :
 Calls Tryz.prog 139 #[.func (.func 140) #[] #[(pt gc),(pt go),(pt b)]] w fun e w'=>e = .returned (.agg (aA 6 (rv .u64 (fun p=>uS (x p) (y p)))))/\Below w.heap.size w w':=by
 refine Kent Tryz.func139 14 ?_;refine ay<|Cg (m:=6) (y:=rv .u64 (fun _=>0)) (by rfl) rfl (by kernel_rfl) rfl fun a Z t C Y z1 => ?_;have⟨S,V,W,D⟩:=nO Y.old v A B (Below.refl w.heap.size w);have⟨nI,UR,za⟩:=Ed t v.lt A.lt B.lt;refine aD<|Ws<|ay<|av (au 0)<|aD<|Wb ?_;have X:=C;refine Wo (fun f g => ∃ k:Nat,k<=6/\f 0 = .func (.func 140) #[] #[(pt gc),(pt go),(pt b)]/\f 2=(pt a)/\f 4=au (k:Int)/\aP g gc 1 (fun _ => .func (.func 128) #[] #[]) 193/\aP g go 6 (rv .u64 x) 30/\aP g b 6 (rv .u64 y) 30/\aP g a 6 (rv .u64 (yZ (fun p=>uS (x p) (y p)) k)) 30/\Below w.heap.size w g) (fun f _=>(6-(intOf (f 4)).toNat)) ⟨0,by omega,(by rfl),(by rfl),Fx.ic,S,V,W,X,D⟩ ?_;rintro f1 w2 ⟨k,hk,u,c,d,l,n,o,q,j⟩;refine ay ?_;by_cases s:(k:Int)<6
 ·refine Lv aG (gN s (hx:=d))<|aD<|Ws<|aL<|Wk<|sN<|Ws<|Wb<|ay<|aT d<|av (au k)<|aD<|Wl<|av (au k)<|aT u<|av (au k)<|Bj (by rfl) (Fx.Fe (args := [au (k:Int)]) rfl rfl rfl (all := #[au (k:Int),(pt gc),(pt go),(pt b)]) rfl Tryz.func140 rfl rfl) rfl<|(VA x y gc go b k _ (by omega) l n o).mono ?_;rintro e w3 ⟨z,H⟩;refine⟨aC (uS (x k) (y k)),by rw[z],?_⟩;clear z;have⟨I,J,K,L,r⟩:=tQ H l n o q j;refine Lv (pf a k) (iY 6 1 (hx:=c))<|jh L k (aC (uS (x k) (y k))) fun w4 M h z2 => ?_;have N:=M.to (Fx.zw _ _ _ _);have O:=I.cZ h (by omega);have P:=J.cZ h (by omega);have Q:=K.cZ h (by omega);have E:=h.below r r.size (by omega);refine Ln<|bR<|sN<|Wl<|Lv (au ((k:Int)+1)) (eU (hx:=d))<|av (au ((k:Int)+1))<|Ln ?_;have R:=N.to (L_ (rv .u64) (NR (fun p=>uS (x p) (y p)) k));refine gL ⟨k+1,by omega,u,c,Fx.ic,O,P,Q,R,E⟩ ?_;show(6-(intOf (au ((k:Int)+1))).toNat)<_;simp only[d,intOf]; omega
 refine Lv aF (gP s (hx:=d))<|aD<|Ws<|aK<|Wx<|bY<|gJ<|bZ<|sN<|ay<|Lv (.agg (aA 6 (rv .u64 (yZ (fun p=>uS (x p) (y p)) k)))) (fJ q.aI 0 (ha:=c))<|fq q 0 (ha:=c) fun w5 T i z3 => ?_;have U:=aW T;have F:=i.below j j.size (by omega);refine aD (Wr (⟨.agg (aA 6 (rv .u64 (yZ (fun p=>uS (x p) (y p)) k))),rV Tryz.results139 ⟨_,c,aY U.aI (by kernel_rfl) (by kernel_rfl)⟩,?_⟩));have G:k=6:=by omega
 exact⟨by rw[G,Rx],F⟩
namespace Rt
def V2(x y:Nat->Int):Nat->Nat->Int
 | 0=>x
 | 1=>y
 | _=>fun _=>0
end Rt
theorem Ls(a:Option Addr)(cap:Nat)(w:World) :
 Calls Tryz.prog 127 #[.slice a (0) (cap),.func (.func 128) #[] #[]] w fun e w'=>e = .returned (.agg (aA 6 (rv .u64 (fun _=>0))))/\Below w.heap.size w w':=by
 refine Kent Tryz.func127 26 ?_;refine ay<|yM (.func (.func 128) #[] #[]) fun t C j b p E => ?_;have c:=bF p.old (Below.refl w.heap.size w);refine uW 6 (rv .u64 (fun _=>0)) fun k D f g q F => ?_;have⟨l,d⟩:=fF q.old b c;refine aD<|Ws<|ay<|av (.slice a (0) (cap))<|av (au 0)<|Lv aG (eX rfl)<|aD<|aL<|ay<|Lv (.agg (aA 6 (rv .u64 (fun _=>0)))) (Fx.Fh (vs := []) (s:=1) (m:=6) (x:=rv .u64 (fun _=>0)) rfl rfl Tryz.underlying30 (by kernel_rfl) (by kernel_rfl) (by rfl))<|fq g 0 fun r n h G => ?_;have o:=aW n;have i:=h.below d d.size (by omega);refine aD (Wr (sR (⟨.agg (aA 6 (rv .u64 (fun _=>0))),rV Tryz.results127 ⟨_,rfl,aY o.aI (by kernel_rfl) (by kernel_rfl)⟩,?_⟩)));exact⟨rfl,i⟩
theorem Lu(b off m cap:Nat)(X:Nat->Nat->Int)(w:World)(hcap:m+1<=cap)(hm:m<=1000000)(hx:jg w b off (6*(m+1)) (vx X)) :
 Calls Tryz.prog 127 #[.slice (some ⟨b,off,none⟩) (m+1) (cap),.func (.func 128) #[] #[]] w fun e w'=>e = .returned (.agg (aA 6 (rv .u64 (Aq uS X m))))/\Below w.heap.size w w':=by
 refine Kent Tryz.func127 26 ?_;refine ay<|yM (.func (.func 128) #[] #[]) fun c w1 Q F s1 z1 => ?_;have⟨T,K⟩:=fF s1.old hx (Below.refl w.heap.size w);have nI:b≠c:=by rw[Q]; exact u_ (hx.lt (by omega))
 have uM:=F.lt;refine uW 6 (rv .u64 (fun _=>0)) fun r w2 z I s2 z2 => ?_;have⟨J,Z,L⟩:=jr s2.old T F K;have qW:=iT z K.size;have ahO:b≠r:=by rw[z]; exact u_ (T.lt (by omega))
 have Pb:=cu z F.lt;have zY:=I.lt;refine aD<|Ws<|ay<|av (.slice (some ⟨b,off,none⟩) (m+1) (cap))<|av (au ((m+1:Nat):Int))<|Lv aF aav<|aD<|aK<|Wk<|sN<|ay<|av (.slice (some ⟨b,off,none⟩) (m+1) (cap))<|Lv (pf b off) (dh 6)<|Lv (.agg (aA 6 (rv .u64 (X 0)))) (fJ J 0 (fun j E=>Vz _ (i:=0) (p:=0) (by omega) E))<|uW 6 (rv .u64 (fun _=>0)) fun a w3 A m6 s3 z3 => ?_;have⟨m7,m8,m9,M⟩:=nO s3.old J Z I L;have Aj:=iT A L.size;have atv:b≠a:=by rw[A]; exact u_ (J.lt (by omega))
 have⟨ahP,ahQ⟩:=vH A Z.lt I.lt;have J6:=m6.lt;refine fq m6 0 fun w4 m10 x z4 => ?_;have m11:aP w4 a 6 (rv .u64 (X 0)) 30:=aW m10;have m12:=m7.cZ x (by omega);have m13:=m8.cZ x (by omega);have m14:=m9.cZ x (by omega);have b4:=x.below M M.size (by omega);refine aD<|Ws<|ay<|av (.slice (some ⟨b,off,none⟩) (m+1) (cap))<|Lv (.slice (if cap=1 then some ⟨b,off,none⟩else some ⟨b,off+6,none⟩) (m) (cap-1)) (Fx.Av (j:=1) (b:=b) (off:=off) (len:=m+1) (cap:=cap) (s:=6) rfl rfl rfl Tryz.underlying191 (by kernel_rfl) (by omega) rfl rfl rfl)<|av (au m)<|av (au 0)<|aD<|Wb ?_;have m15:aP w4 a 6 (rv .u64 (Aq uS X 0)) 30:=m11;refine Wo (fun f n => ∃ k:Nat,k<=m/\f 3=(pt c)/\f 4=(pt r)/\f 5=(pt a)/\f 16 = .slice (if cap=1 then some ⟨b,off,none⟩else some ⟨b,off+6,none⟩) (m) (cap-1)/\f 17=au (m:Int)/\f 18=au (k:Int)/\jg n b off (6*(m+1)) (vx X)/\aP n c 1 (fun _ => .func (.func 128) #[] #[]) 193/\aP n r 6 (rv .u64 (fun _=>0)) 30/\aP n a 6 (rv .u64 (Aq uS X k)) 30/\Below w.heap.size w n) (fun f _=>(m-(intOf (f 18)).toNat)) ⟨0,by omega,(by rfl),(by rfl),(by rfl),(by rfl),Fx.ic,Fx.ic,m12,m13,m14,m15,b4⟩ ?_;rintro f1 w5 ⟨k,hk,R,C,t,S,D,g,u,G,H,v,o⟩;refine ay ?_;by_cases P:(k:Int)<(m:Int)
 ·refine Lv aG (gN P (hx:=g) (hy:=D))<|aD<|Ws<|aL<|Wk<|sN<|Ws<|Wb<|ay<|Lv (pf b (6*k+off+6)) (dh 6 (hx:=(S.trans (L_ (fun q=>Value.slice q (m) (cap-1)) (b_ (by omega))))) (hi:=g))<|Lv (.agg (aA 6 (rv .u64 (X (k+1))))) (fJ u (6*k+6) (fun j E=>Vz _ (i:=k+1) (p:=6*k+6) (by omega) E))<|uW 6 (rv .u64 (fun _=>0)) fun d w6 B U s5 z5 => ?_;have⟨m21,m22,m23,m24,N⟩:=tQ s5.old u G H v o;have Rc:=iT B o.size;have adR:b≠d:=by rw[B]; exact u_ (u.lt (by omega))
  have⟨aoJ,aoK,aoL⟩:=Ed B G.lt H.lt v.lt;have Rf:=U.lt;refine fq U 0 fun w7 nP h z6 => ?_;have V:aP w7 d 6 (rv .u64 (X (k+1))) 30:=aW nP;have nY:=m21.cZ h (by omega);have W:=m22.cZ h (by omega);have oH:=m23.cZ h (by omega);have Y:=m24.cZ h (by omega);have b7:=h.below N N.size (by omega);refine aD<|Wl<|Lv (.func (.func 140) #[] #[(pt c),(pt a),(pt d)]) (Fx.nk (us := []) (vs := [(pt c),(pt a),(pt d)]) rfl rfl (Fx.OD R t rfl))<|dQ (NT (Aq uS X k) (X (k+1)) c a d _ W Y V) _ rfl ?_;intro w8 hb1;have⟨nA,m32,qg,oO,qh,O⟩:=tT hb1 nY W oH Y V b7;refine fq oO 0 (ha:=t) fun w9 qH l z7 => ?_;have nS:aP w9 a 6 (rv .u64 (fun p=>uS ((Aq uS X k) p) ((X (k+1)) p))) 30:=aW qH;have rU:=nA.cZ l (by omega);have pV:=m32.cZ l (by omega);have sJ:=qg.cZ l (by omega);have nJ:=qh.cZ l (by omega);have b9:=l.below O O.size (by omega);refine Ln<|bR<|sN<|Wl<|Lv (au ((k:Int)+1)) (eU (hx:=g))<|av (au ((k:Int)+1))<|Ln<|gL ⟨k+1,by omega,R,C,t,S,(D.trans Fx.ic),Fx.ic,rU,pV,sJ,nS,b9⟩ ?_;show(m-(intOf (au ((k:Int)+1))).toNat)<_;simp only[g,intOf]; omega
 refine Lv aF (gP P (hx:=g) (hy:=D))<|aD<|Ws<|aK<|Wx<|bY<|gJ<|bZ<|sN<|ay<|Lv (.agg (aA 6 (rv .u64 (Aq uS X k)))) (fJ v.aI 0 (ha:=t))<|fq H 0 (ha:=C) fun sI mJ y z8 => ?_;have nC:aP sI r 6 (rv .u64 (Aq uS X k)) 30:=aW mJ;have sK:=u.cZ y (by omega);have rJ:=G.cZ y (by omega);have og:=v.cZ y (by omega);have b10:=y.below o o.size (by omega);refine aD (Wr (⟨.agg (aA 6 (rv .u64 (Aq uS X k))),rV Tryz.results127 ⟨_,C,aY nC.aI (by kernel_rfl) (by kernel_rfl)⟩,?_⟩));have ek:k=m:=by omega
 exact⟨by rw[ek],b10⟩
theorem NU(a:Option Addr)(n cap:Nat)(X:Nat->Nat->Int)(w:World)(g:n<=1000000)(h:Vcs w a n cap X) :
 Calls Tryz.prog 127 #[.slice a n cap,.func (.func 128) #[] #[]] w fun e w'=>e = .returned (.agg (aA 6 (rv .u64 (PG uS X n))))/\Below w.heap.size w w':=by
 cases n with
 | zero=>exact Ls a cap w
 | succ m=>obtain⟨c,b,f,rfl,d⟩:=h (by omega); exact Lu b f m cap X w c (by omega) d
theorem adS{w w':World}{a:Option Addr}{n cap:Nat}{X:Nat->Nat->Int}(h:Vcs w a n cap X)(f:Below w.heap.size w w'):Vcs w' a n cap X:=fun d=>by
 obtain⟨g,b,i,e,c⟩:=h d;exact⟨g,b,i,e,c.below f (c.lt (by omega))⟩
theorem adT(a:Option Addr)(n cap:Nat)(X:Nat->Nat->Int)(w:World)(k:n<=1000000)(h:Vcs w a n cap X) :
 Calls Tryz.prog 119 #[.slice a (n) (cap)] w fun e w'=>e = .returned (.agg (aA 6 (rv .u64 (PG uS X n))))/\Below w.heap.size w w':=by
 refine Kent Tryz.func119 5 ?_;refine ay<|Cg (m:=6) (y:=rv .u64 (fun _=>0)) (by rfl) rfl (by kernel_rfl) rfl fun i v g d q z => ?_;have b:=bF q.old (Below.refl w.heap.size w);refine aD<|ay<|av (.slice a (n) (cap))<|dQ (NU a n cap X _ k (adS h b)) _ rfl ?_;intro x j;have⟨l,c⟩:=fF j d b;refine fq l 0 fun s o r A => ?_;have p:=aW o;have f:=r.below c c.size (by omega);refine aD (Wr (⟨.agg (aA 6 (rv .u64 (PG uS X n))),rV Tryz.results119 ⟨_,rfl,aY p.aI (by kernel_rfl) (by kernel_rfl)⟩,?_⟩));exact⟨rfl,f⟩
namespace Rt
theorem ahR(x y:Nat->Int):aZ (aZ (fun j=>rv .u64 (fun _=>0) (j % 6)) (0*6) 6 (rv .u64 x)) (1*6) 6 (rv .u64 y)=vx (V2 x y):=by
 funext p
 unfold aZ;by_cases b:1*6<=p/\p<1*6+6
 ·rw[d_ b];show _=Value.int .u64 (V2 x y (p / 6) (p % 6));rw[show p / 6=1 by omega,show p-1*6=p % 6 by omega]; rfl
 rw[b_ b];by_cases a:0*6<=p/\p<0*6+6
 ·rw[d_ a];show _=Value.int .u64 (V2 x y (p / 6) (p % 6));rw[show p / 6=0 by omega,show p-0*6=p % 6 by omega]; rfl
 rw[b_ a];show _=Value.int .u64 (V2 x y (p / 6) (p % 6));obtain⟨q,c⟩ : ∃ q,p / 6=q+2:=⟨p / 6-2,by omega⟩;rw[c]; rfl
end Rt
namespace Rt
def hasB(K:Nat->Int)(o a:Int):Bool:=mD o&&decide (0<a)&&decide (a<=K (o-1).toNat)
theorem Im{a b:Nat->Int}:yT a b=true <-> ∀ i,i<6->rv .u64 (fun p=>uS (a p) (b p)) i=rv .u64 b i:=by
 unfold yT;rw[List.all_eq_true];have e : ∀ i,rv .u64 (fun p=>uS (a p) (b p)) i=rv .u64 b i<->a i<=b i:=fun i=>by
  show Value.int .u64 (uS (a i) (b i))=aC (b i)<->_;simp only[Value.int.injEq,true_and]; unfold uS; split <;> omega
 constructor
 ·intro h i c; have:=h i (O_.2 c); rw[e]; exact h_ this
 intro h i c; have:=h i (O_.1 c); rw[e]at this; exact f_ this
def Kr(K:Nat->Int):Prop := ∀ i,i<6->jO (K i)
theorem Kr.kd{K:Nat->Int}(h:Kr K):Fx.Kd (List.replicate 6 (some .u64)) (rv .u64 K):=Fx.OG fun i a=>Fx.qQ (h i a)
theorem Kr.mx{K L:Nat->Int}(h:Kr K)(b:Kr L):Kr (fun p=>uS (K p) (L p)):=fun i a=>by
 have c:=h i a; have d:=b i a; show jO (uS (K i) (L i)); unfold uS; split <;> assumption
end Rt
theorem Y7{w:World}{g:Nat}{T:TypeId}{x:Nat->Value}(D K:Nat->Int)(h:aP w g (2*6) x T)(e:x=vx (V2 D K)) :
 Calls Tryz.prog 119 #[bO g 2 2] w fun e w'=>e = .returned (.agg (aA 6 (rv .u64 fun p=>uS (D p) (K p))))/\Below w.heap.size w w' :=
 adT (some ⟨g,0,none⟩) 2 2 (V2 D K) w (by omega) (fun _=>⟨A_ _,g,0,rfl,(h.to e).aI⟩)
theorem VB(n:Int)(w:World) :
 Calls Tryz.prog 118 #[au n] w fun e w'=>e = .returned (.bool (mD n))/\w'=w:=by
 refine Kent Tryz.func118 9 ?_;refine ay<|av aF<|aD<|ay<|av (au n) ?_;by_cases a:1<=n
 ·refine Lv aG (kM a)<|av aG<|av (au n) ?_;by_cases b:n<=6
  ·refine Lv aG (nM b)<|av aG<|av aG<|aD<|Wr<|aJ aG ?_;exact⟨iB (by simp only[mD]; first|(symm; simp; omega)|(symm; simp; done)),rfl⟩
  refine Lv aF (nV b)<|av aF<|av aF<|aD<|Wr<|aJ aF ?_;exact⟨iB (by simp only[mD]; first|(symm; simp; omega)|(symm; simp; done)),rfl⟩
 refine Lv aF (kg a)<|av aF<|dw<|dw<|av aF<|av aF<|aD<|Wr<|aJ aF ?_;exact⟨iB (by simp only[mD]; first|(symm; simp; omega)|(symm; simp; done)),rfl⟩
theorem abd(K:Nat->Int)(o q:Int)(w:World) :
 Calls Tryz.prog 91 #[.agg (aA 6 (rv .u64 K)),au o,aC q] w fun e w'=>e = .returned (.bool (hasB K o q))/\Below w.heap.size w w':=by
 refine Kent Tryz.func91 21 ?_;refine ay<|rE fun k s j i l t => ?_;have f:=bF l.old (Below.refl w.heap.size w);refine av aF<|aD<|ay<|av (au o) ?_;by_cases b:(mD o)=true
 ·obtain⟨a,n,m⟩:=fu b;refine mO (VB o _) aG (by rw[b])<|av aG<|av (aC q) ?_;by_cases c:0<q
  ·refine Lv aG (mK c)<|av aG<|av aG<|av (au o)<|Lv (au a) fZ<|Lv (pf k a) (iY 6 1)<|Lv (aC (K a)) (aM i.aI a)<|av (aC q) ?_;by_cases g:q<=(K a)
   ·refine Lv aG (kM g)<|av aG<|av aG<|aD<|Wr<|aJ aG ?_;have d:=f_ c;have h:decide (q<=K (o-1).toNat)=true:=f_ (by rw[show(o-1).toNat=a by omega]; exact g);exact⟨iB (Eq.symm (by unfold hasB; rw[b,d,h]; try rfl)),f⟩
   refine Lv aF (kg g)<|av aF<|av aF<|aD<|Wr<|aJ aF ?_;have d:=f_ c;have h:decide (q<=K (o-1).toNat)=false:=g_ (by rw[show(o-1).toNat=a by omega]; exact g);exact⟨iB (Eq.symm (by unfold hasB; rw[b,d,h]; try rfl)),f⟩
  refine Lv aF (mM c)<|av aF<|av aF<|dw<|dw<|dw<|dw<|dw<|dw<|av aF<|av aF<|aD<|Wr<|aJ aF ?_;have d:decide (0<q)=false:=g_ c;exact⟨iB (Eq.symm (by unfold hasB; rw[b,d]; try rfl)),f⟩
 rw[U_]at b;refine mO (VB o _) aF (by rw[b])<|av aF<|dw<|dw<|av aF<|av aF<|dw<|dw<|dw<|dw<|dw<|dw<|av aF<|av aF<|aD<|Wr<|aJ aF ?_;exact⟨iB (Eq.symm (by unfold hasB; rw[b]; try rfl)),f⟩
theorem VD(D K:Nat->Int)(w:World)(o:Kr D)(b:Kr K) :
 Calls Tryz.prog 92 #[.agg (aA 6 (rv .u64 D)),.agg (aA 6 (rv .u64 K))] w fun e w'=>e = .returned (.bool (yT D K))/\Below w.heap.size w w':=by
 refine Kent Tryz.func92 11 ?_;refine ay<|rE fun M w1 E d I z1 => ?_;have f:=bF I.old (Below.refl w.heap.size w);refine rE fun N w2 l r J z2 => ?_;have⟨H,B⟩:=fF J.old d f;refine av aF<|aD<|Ws ?_;refine kJ [0,1,4,2,3,5,6] [4,4,2,2,1,0,0] [(2,0,[0]),(3,0,[2,0]),(2,1,[1]),(3,1,[2,1]),(3,2,[2]),(5,2,[3,2]),(6,2,[2]),(5,3,[3]),(6,3,[3])] fun rG F P => ?_;have⟨t,c,g⟩:=jr F H r B;refine Rs (.agg (aA 6 (rv .u64 D))) (fJ t.aI 0) ?_;refine Rs (.agg (aA 6 (rv .u64 K))) (fJ c.aI 0) ?_;refine Rd (v := .agg (aA 6 (rv .u64 K))) (by rfl) (by rfl) (vB _) (fun A G=>fC (x:=rv .u64 K) (y:=rv .u64 K) rfl rfl (by kernel_rfl) (by kernel_rfl) (c.aI.below G (by have:=c.lt; omega)) (i:=0) (by omega) (by omega) (fun j _=>by rw[G_])) ?_;refine Dw<|xY (vs := [(0,.agg (aA 6 (rv .u64 D))),(1,.agg (aA 6 (rv .u64 K)))]) (s:=6) (zc:=rv .u64 (fun _=>0)) (y:=aZ (aZ (fun j=>(rv .u64 (fun _=>0)) (j % 6)) (0*6) 6 (rv .u64 D)) (1*6) 6 (rv .u64 K)) (by rfl) rfl rfl Tryz.underlying191 (by kernel_rfl) (by rfl) (by rfl) (by kernel_rfl) (by rw[aR (off:=0*6) (s:=6) (y:=rv .u64 D) rfl (bD _ _) (by rfl)]; rw[aR (off:=1*6) (s:=6) (y:=rv .u64 K) rfl (bD _ _) (by rfl)]; rfl) rfl fun O w3 m u z z3 => ?_;have C:=bF z.old g;have⟨U,V⟩:=vH m t.lt c.lt;refine Ln ⟨z.old,?_⟩;refine Dw<|dQ (Y7 D K u (ahR D K)) _ rfl ?_;intro w4 q;have L:=Sb q;have k:=bF q C;refine Ln ⟨L.old,?_⟩;by_cases a : ∀ i,i<6->(rv .u64 (fun p=>uS (D p) (K p))) i=(rv .u64 K) i
 ·refine Rp aG (fun A=>Fx.wJ (n:=6) (ks:=List.replicate 6 (some .u64)) (X:=rv .u64 (fun p=>uS (D p) (K p))) (Y:=rv .u64 K) 12 true rfl rfl rfl (Fx.SC a) (o.mx b).kd b.kd rfl (by kernel_rfl) (by kernel_rfl) (by kernel_rfl) (by kernel_rfl) (by kernel_rfl))<|bf aG<|bT<|Wr<|aJ aG ?_;exact⟨iB (Eq.symm (Im.2 a)),k⟩
 refine Rp aF (fun A=>Fx.wJ (n:=6) (ks:=List.replicate 6 (some .u64)) (X:=rv .u64 (fun p=>uS (D p) (K p))) (Y:=rv .u64 K) 12 false rfl rfl rfl (Fx.nob a) (o.mx b).kd b.kd rfl (by kernel_rfl) (by kernel_rfl) (by kernel_rfl) (by kernel_rfl) (by kernel_rfl))<|bf aF<|bT<|Wr<|aJ aF ?_;exact⟨iB (Eq.symm (Bool.eq_false_iff.2 (fun h=>a (Im.1 h)))),k⟩
theorem Rt.Lx{K:Nat->Int}{v:EvM}(h:bS v=true):mR K v=hasB K v.o v.seq:=by
 have a:=iO h; have b:=(EJ h).1;unfold mR hasB; rw[h,a,show decide (0<v.seq)=true from f_ (by omega)]; rfl
theorem VE(K:Nat->Int)(v:EvM)(w:World)(k:gU v) :
 Calls Tryz.prog 63 #[.agg (aA 6 (rv .u64 K)),.agg (aA 14 (bV v))] w fun e w'=>e = .returned (.bool (mR K v))/\Below w.heap.size w w':=by
 refine Kent Tryz.func63 15 ?_;refine ay<|rE fun B H q c z O => ?_;have f:=bF z.old (Below.refl w.heap.size w);refine rE fun j I i d A P => ?_;have⟨x,g⟩:=fF A.old c f;refine av aF<|aD<|ay<|Lv (.agg (aA 14 (bV v))) (fJ d.aI 0) ?_;by_cases a:(bS v)=true
 ·refine dQ (Il v _ k) aG (by rw[a]) ?_;intro J r;have⟨y,l,h⟩:=jr r x d g;refine av aG<|Lv (.agg (aA 6 (rv .u64 K))) (fJ y.aI 0)<|av (pt j)<|Lv (au v.o) (aM l.aI 0)<|av (pf j 1)<|Lv (aC v.seq) (aM l.aI 1) ?_;by_cases b:(hasB K v.o v.seq)=true
  ·refine dQ (abd K v.o v.seq _) aG (by rw[b]) ?_;intro L s;have m:=bF s h;refine av aG<|av aG<|aD<|Wr<|aJ aG ?_;exact⟨iB (Eq.symm ((Lx a).trans b)),m⟩
  rw[U_]at b;refine dQ (abd K v.o v.seq _) aF (by rw[b]) ?_;intro M t;have n:=bF t h;refine av aF<|av aF<|aD<|Wr<|aJ aF ?_;exact⟨iB (Eq.symm ((Lx a).trans b)),n⟩
 rw[U_]at a;refine dQ (Il v _ k) aF (by rw[a]) ?_;intro N u;have p:=bF u g;refine av aF<|dw<|dw<|dw<|dw<|dw<|dw<|av aF<|av aF<|aD<|Wr<|aJ aF ?_;exact⟨iB (Eq.symm (by unfold mR; rw[a]; rfl)),p⟩
theorem PK(K:Nat->Int)(v:EvM)(w:World)(i:gU v)(q:Kr K) :
 Calls Tryz.prog 64 #[.agg (aA 6 (rv .u64 K)),.agg (aA 14 (bV v))] w fun e w'=>e = .returned (.bool (dI K v))/\Below w.heap.size w w':=by
 refine Kent Tryz.func64 24 ?_;refine ay<|rE fun z Q y l F W => ?_;have m:=bF F.old (Below.refl w.heap.size w);refine rE fun k R p c G X => ?_;have⟨r,h⟩:=fF G.old l m;refine av aF<|aD<|Ws ?_;refine nu<|Qv (.agg (aA 14 (bV v))) (fun d b=>fJ (c.cb b) 0) ?_;by_cases f:(bS v)=true
 ·obtain⟨a,I,H⟩:=fu (iO f);have J:=EJ f;refine zT (fun _ _=>Il v _ i) aG (by rw[f])<|aX aG<|aX (pt k)<|Qv (au v.o) (fun d b=>aM (c.cb b) 0)<|Qv (au a) (fun d b=>fZ)<|Qv (pf z a) (fun d b=>iY 6 1)<|Qv (aC (K a)) (fun d b=>aM (r.cb b) a)<|aX (pf k 1)<|Qv (aC v.seq) (fun d b=>aM (c.cb b) 1)<|Qv (aC (v.seq-1)) (fun d b=>fZ) ?_;by_cases n:(K a)=(v.seq-1)
  ·refine Qv aG (fun d b=>eX n)<|aX aG<|aX aG<|aX (pf k 2)<|Qv (.agg (aA 6 (rv .u64 v.deps))) (fun d b=>fJ (c.cb b) 2 (fun j E=>mQ _ (by omega) E))<|Qv (.agg (aA 6 (rv .u64 K))) (fun d b=>fJ (r.cb b) 0) ?_;by_cases g:(yT v.deps K)=true
   ·refine zT (fun _ _=>VD v.deps K _ i.deps q) aG (by rw[g])<|aX aG<|aX aG<|Qn ?_;intro S A;have s:=bF A h;refine sN<|Wr<|aJ aG ?_;have c:decide (v.seq=K (v.o-1).toNat+1)=true:=f_ (by rw[show(v.o-1).toNat=a by omega]; omega);exact⟨iB (Eq.symm (by unfold dI; rw[f,c,g]; try rfl)),s⟩
   rw[U_]at g;refine zT (fun _ _=>VD v.deps K _ i.deps q) aF (by rw[g])<|aX aF<|aX aF<|Qn ?_;intro T B;have t:=bF B h;refine sN<|Wr<|aJ aF ?_;have c:decide (v.seq=K (v.o-1).toNat+1)=true:=f_ (by rw[show(v.o-1).toNat=a by omega]; omega);exact⟨iB (Eq.symm (by unfold dI; rw[f,c,g]; try rfl)),t⟩
  refine Qv aF (fun d b=>fT n)<|aX aF<|aX aF<|aQ<|aQ<|aQ<|aQ<|aX aF<|aX aF<|Qn ?_;intro U C;have u:=bF C h;refine sN<|Wr<|aJ aF ?_;have c:decide (v.seq=K (v.o-1).toNat+1)=false:=g_ (by rw[show(v.o-1).toNat=a by omega]; omega);exact⟨iB (Eq.symm (by unfold dI; rw[f,c]; try rfl)),u⟩
 rw[U_]at f;refine zT (fun _ _=>Il v _ i) aF (by rw[f])<|aX aF<|aQ<|aQ<|aQ<|aQ<|aQ<|aQ<|aQ<|aQ<|aQ<|aX aF<|aX aF<|aQ<|aQ<|aQ<|aQ<|aX aF<|aX aF<|Qn ?_;intro V D;have x:=bF D h;refine sN<|Wr<|aJ aF ?_;exact⟨iB (Eq.symm (by unfold dI; rw[f]; try rfl)),x⟩
namespace Rt
def jI(m:dU)(v:EvM):Int:=if m.T.has v.node=false then 9 else if 140737488355328<m.R (m.idx v.node) (aO v)+v.aU then 6 else 0
def CV(m:dU)(k:Int)(r:Nat->Int):dU := { m with R:=aN m.R (m.idx k) r }
def uT(m:dU)(v:EvM):dU:=CV m v.node (upd (m.R (m.idx v.node)) (aO v) (m.R (m.idx v.node) (aO v)+v.aU))
def tF(m:dU)(v:EvM):(Nat->Int) × Int:=cK (m.R (m.idx v.node)) v.o v.dst v.aU
def kR(m:dU)(v:EvM):Int:=if m.T.has v.node=false then 9 else if m.inn (v.dst-1).toNat=false then 10 else(tF m v).2
def DV(m:dU)(v:EvM):dU:=CV m v.node (tF m v).1
def Io(m:dU)(v:EvM):dU := { m with inn:=aH m.inn (v.dst-1).toNat true }
def CW(m:dU)(v:EvM):dU := { m with left:=aH m.left (aO v) true }
theorem ET{R:Nat->Nat->Int}{j:Nat}{r:Nat->Int} : ∀ n x w b,Mp w b n x (aN (xI R) j (.agg (aA 54 (rv .i64 r))))->Mp w b n x (xI (aN R j r)):=fun n x w b h=>h.vI fun i _=>⟨rfl,by unfold xI aN; split <;> rfl⟩
end Rt
theorem GV:Fx.wQ Tryz.prog 113:=⟨by kernel_rfl,by kernel_rfl,by kernel_rfl⟩
theorem VF(m:dU)(lp B:Nat)(w:World)(h:mh w B lp m)(v:EvM)(Y:bS v=true)(b:Nat)(D:b<6)(X:v.dst=(b:Int)+1)(i:Nat)(f:Nat)(l:aP w i 1 (fun _=>(pt lp)) 37)(k:aP w f 14 (bV v) 32) :
 Calls Tryz.prog 183 #[(pt i),(pt f)] w fun e w'=>e = .returned (.tuple #[])/\mh w' B lp (Io m v)/\jZ (F6 m lp) w w':=by
 have x:=h.c;have C:=h.t;have z:=h.p;have A:=h.r;have y:=h.g;have u:=h.a;have d:=h.ne;have E:(v.dst-1).toNat=b:=by omega
 refine Kent Tryz.func183 9 ?_;refine kJ [1,0,4,5,2,3,6,7] [4,0,4,0,0,0,0,3] [(7,0,[0]),(7,2,[2])] fun W j Z => ?_;have U:=Sb j;have⟨n,M,N,O,P,Q,R,S⟩:=kW j x C z A y u l k;have q:=(vw (F6 m lp) w).then U (.inr (vw (F6 m lp) w).size);refine bf (pf f 10)<|Rs (pt lp) (aM R.aI 0) ?_;refine bf (pt lp)<|bf (pt lp)<|Rs (au v.dst) (aM S.aI 10) ?_;refine Rp (au b) (fun _=>fZ)<|Rp (pf lp b) (fun _=>iY 6 1)<|gQ<|jh n b aG fun V T o z1 => ?_;have G:=T.to (Vs D _);have F:=gX o n.ty;have⟨H,I,J,K,L⟩:=rF F M N O P Q;have s:=q.then o (.inl (.inl rfl));refine Ln (Rn (⟨.tuple #[],iI Tryz.results183,?_⟩));unfold Io; rw[E];exact⟨rfl,{ c:=G,t:=H,p:=I,r:=J,g:=K,a:=L,ne:=⟨d.mp,d.mr,d.mg,d.ma,d.pr,d.pg,d.pa,d.rg,d.ra,d.ga⟩,lB:=h.lB,pB:=h.pB,rB:=h.rB,gB:=h.gB,aB:=h.aB },s⟩
theorem Ry(m:dU)(lp B:Nat)(w:World)(h:mh w B lp m)(v:EvM)(H:bS v=true)(f:Nat)(d:Nat)(l:aP w f 1 (fun _=>(pt lp)) 37)(k:aP w d 14 (bV v) 32) :
 Calls Tryz.prog 184 #[(pt f),(pt d)] w fun e w'=>e = .returned (.tuple #[])/\mh w' B lp (CW m v)/\jZ (F6 m lp) w w':=by
 have y:=h.c;have D:=h.t;have A:=h.p;have C:=h.r;have z:=h.g;have x:=h.a;have b:=h.ne;obtain⟨a,E,Z⟩ : ∃ a:Nat,a<6/\v.o=(a:Int)+1:=fu (iO H);have G:aO v=a:=by unfold aO; omega
 refine Kent Tryz.func184 9 ?_;refine kJ [1,0,4,5,2,3,6,7] [4,0,4,0,0,0,0,3] [(7,0,[0]),(7,2,[2])] fun Y j aa => ?_;have W:=Sb j;have⟨n,O,P,Q,R,S,T,U⟩:=kW j y D A C z x l k;have s:=(vw (F6 m lp) w).then W (.inr (vw (F6 m lp) w).size);refine bf (pt d)<|Rs (pt lp) (aM T.aI 0) ?_;refine bf (pt lp)<|bf (pf lp 6)<|Rs (au v.o) (aM U.aI 0) ?_;refine Rp (au a) (fun _=>fZ)<|Rp (pf lp (a+6)) (fun _=>iY 6 1)<|gQ<|jh n (a+6) aG fun X V q z1 => ?_;have I:=V.to (Vt (i:=a) E (by omega) _);have F:=gX q n.ty;have⟨J,K,L,M,N⟩:=rF F O P Q R S;have u:=s.then q (.inl (.inl rfl));refine Ln (Rn (⟨.tuple #[],iI Tryz.results184,?_⟩));unfold CW; rw[G];exact⟨rfl,{ c:=I,t:=J,p:=K,r:=L,g:=M,a:=N,ne:=⟨b.mp,b.mr,b.mg,b.ma,b.pr,b.pg,b.pa,b.rg,b.ra,b.ga⟩,lB:=h.lB,pB:=h.pB,rB:=h.rB,gB:=h.gB,aB:=h.aB },u⟩
theorem Rz(m:dU)(lp B:Nat)(w:World)(h:mh w B lp m)(v:EvM)(hv:bS v=true)(P:m.T.has v.node=true)(r:Nat->Int)(k:Nat)(j:Nat)(f:Nat)(hr:aP w k 54 (rv .i64 (r)) 59)(s:aP w j 1 (fun _=>(pt lp)) 37)(o:aP w f 14 (bV v) 32) :
 Calls Tryz.prog 173 #[(pt k),(pt j),(pt f)] w fun e w'=>e = .returned (.tuple #[])/\mh w' B lp (CV m v.node r)/\jZ (F6 m lp) w w':=by
 have J:=h.c;have O:=h.t;have M:=h.p;have N:=h.r;have K:=h.g;have I:=h.a;have b:=h.ne;obtain⟨u,q,i⟩:=gT P;have H:m.idx v.node=u:=mZ h.t.inv.inj q i;refine Kent Tryz.func173 10 ?_;refine kJ [4,0,1,2,3,5,6,7] [4,0,0,4,0,4,4,3] [(7,0,[0]),(7,3,[3]),(7,5,[5]),(7,6,[6])] fun rG l iJ => ?_;have s1:Stp w.heap.size w rG:=Sb l;have⟨y,Z,m3,z,m5,m6,A,C,D⟩:=Br l J O M N K I hr s o;have F:=(vw (F6 m lp) w).then s1 (.inr (vw (F6 m lp) w).size);refine bf (pf f 9)<|Rs (pt lp) (aM C.aI 0) ?_;refine bf (pt lp)<|bf (pf lp 20)<|Rs (.map (some m.rb)) (aM y.aI 20) ?_;refine Rs (aC v.node) (aM D.aI 9) ?_;refine Rs (.agg (aA 54 (rv .i64 (r)))) (fJ A.aI 0) ?_;refine gQ<|Fx.L.abT (by rfl) rfl rfl rfl rfl rfl z Tryz.underlying101 Tryz.underlying28 q i fun w1 Q E z1 => ?_;have d:=z.Cj E;have S:=y.dW d;have U:=Z.dW d (b.mr);have V:=m3.dW d (b.pr);have W:=m5.dW d (Ne.symm b.rg);have X:=m6.dW d (Ne.symm b.ra);have m16:=A.dW d;have m17:=C.dW d;have m18:=D.dW d;have G:=F.then E (.inl (.inr (.inr (.inr (.inl rfl)))));have Y:Mp w1 m.rb m.T.n m.T.x (xI (aN m.R u (r))):=ET _ _ _ _ Q;refine Ln (Rn (⟨.tuple #[],iI Tryz.results173,?_⟩));unfold CV; rw[H];exact⟨rfl,{ c:=S,t:=U,p:=V,r:=Y,g:=W,a:=X,ne:=⟨b.mp,b.mr,b.mg,b.ma,b.pr,b.pg,b.pa,b.rg,b.ra,b.ga⟩,lB:=h.lB,pB:=h.pB,rB:=h.rB,gB:=h.gB,aB:=h.aB },G⟩
theorem VG(m:dU)(lp B:Nat)(w:World)(h:mh w B lp m)(v:EvM)(hv:bS v=true)(P:m.T.has v.node=true)(r:Nat->Int)(k:Nat)(j:Nat)(f:Nat)(hr:aP w k 54 (rv .i64 (r)) 59)(s:aP w j 1 (fun _=>(pt lp)) 37)(o:aP w f 14 (bV v) 32) :
 Calls Tryz.prog 182 #[(pt k),(pt j),(pt f)] w fun e w'=>e = .returned (.tuple #[])/\mh w' B lp (CV m v.node r)/\jZ (F6 m lp) w w':=by
 have J:=h.c;have O:=h.t;have M:=h.p;have N:=h.r;have K:=h.g;have I:=h.a;have b:=h.ne;obtain⟨u,q,i⟩:=gT P;have H:m.idx v.node=u:=mZ h.t.inv.inj q i;refine Kent Tryz.func182 10 ?_;refine kJ [4,0,1,2,3,5,6,7] [4,0,0,4,0,4,4,3] [(7,0,[0]),(7,3,[3]),(7,5,[5]),(7,6,[6])] fun rG l iJ => ?_;have s1:Stp w.heap.size w rG:=Sb l;have⟨y,Z,m3,z,m5,m6,A,C,D⟩:=Br l J O M N K I hr s o;have F:=(vw (F6 m lp) w).then s1 (.inr (vw (F6 m lp) w).size);refine bf (pf f 9)<|Rs (pt lp) (aM C.aI 0) ?_;refine bf (pt lp)<|bf (pf lp 20)<|Rs (.map (some m.rb)) (aM y.aI 20) ?_;refine Rs (aC v.node) (aM D.aI 9) ?_;refine Rs (.agg (aA 54 (rv .i64 (r)))) (fJ A.aI 0) ?_;refine gQ<|Fx.L.abT (by rfl) rfl rfl rfl rfl rfl z Tryz.underlying101 Tryz.underlying28 q i fun w1 Q E z1 => ?_;have d:=z.Cj E;have S:=y.dW d;have U:=Z.dW d (b.mr);have V:=m3.dW d (b.pr);have W:=m5.dW d (Ne.symm b.rg);have X:=m6.dW d (Ne.symm b.ra);have m16:=A.dW d;have m17:=C.dW d;have m18:=D.dW d;have G:=F.then E (.inl (.inr (.inr (.inr (.inl rfl)))));have Y:Mp w1 m.rb m.T.n m.T.x (xI (aN m.R u (r))):=ET _ _ _ _ Q;refine Ln (Rn (⟨.tuple #[],iI Tryz.results182,?_⟩));unfold CV; rw[H];exact⟨rfl,{ c:=S,t:=U,p:=V,r:=Y,g:=W,a:=X,ne:=⟨b.mp,b.mr,b.mg,b.ma,b.pr,b.pg,b.pa,b.rg,b.ra,b.ga⟩,lB:=h.lB,pB:=h.pB,rB:=h.rB,gB:=h.gB,aB:=h.aB },G⟩
namespace Rt
theorem PL{v:EvM}(h:bS v=true)(c:v.kind=5) : ∃ b:Nat,b<6/\v.dst=(b:Int)+1:=by
 unfold bS at h;simp only[T_]at h;have a:=h.2;unfold dz at a;rw[b_ (by omega),b_ (by omega),b_ (by omega),b_ (by omega),d_ c]at a;unfold kN at a;simp only[T_]at a;exact fu a.2.1
end Rt
theorem adU(x:Nat->Int)(i j n:Int)(w:World)(hi:1<=i/\i<=6)(a:1<=j/\j<=6) :
 Calls Tryz.prog 181 #[.agg (aA 54 (rv .i64 x)),au i,au j,au n] w fun e w'=>e = .returned (.tuple #[.agg (aA 54 (rv .i64 (cK x i j n).1)),au (cK x i j n).2])/\Below w.heap.size w w' :=
 UJ x i j n w (by omega) (by omega)
theorem adV(x:Nat->Int)(i n:Int)(w:World)(hi:1<=i/\i<=6) :
 Calls Tryz.prog 176 #[.agg (aA 54 (rv .i64 x)),au i,au n] w fun e w'=>e = .returned (.tuple #[.agg (aA 54 (rv .i64 (bJ x i n).1)),au (bJ x i n).2])/\Below w.heap.size w w' :=
 UE x i n w (by omega)
theorem adW(x:Nat->Int)(i n:Int)(w:World)(hi:1<=i/\i<=6) :
 Calls Tryz.prog 179 #[.agg (aA 54 (rv .i64 x)),au i,au n] w fun e w'=>e = .returned (.tuple #[.agg (aA 54 (rv .i64 (bK x i n).1)),au (bK x i n).2])/\Below w.heap.size w w' :=
 UH x i n w (by omega)
theorem VH(m:dU)(lp B:Nat)(w:World)(h:mh w B lp m)(v:EvM)(N:bS v=true)(hkd:v.kind=2)(hRb : ∀ i,i<m.T.n -> ∀ p,p<54->0<=m.R i p/\m.R i p<=1125899906842624) :
 Calls Tryz.prog 163 #[(pt lp),.agg (aA 14 (bV v))] w fun e w'=>Sd w B lp m (uT m v) (jI m v) e w':=by
 have hC:=h.c;have hP:=h.p;have hR:=h.r;have hG:=h.g;have hA:=h.a;obtain⟨a,ha,ho⟩ : ∃ a:Nat,a<6/\v.o=(a:Int)+1:=fu (iO N);have M:aO v=a:=by unfold aO; omega
 refine Kent Tryz.func163 39 ?_;refine ay<|yM (pt lp) fun l w1 aa O s1 z1 => ?_;have⟨m2,m4,m5,m6,m7,W⟩:=tT s1.old hC hP hR hG hA (Below.refl w.heap.size w);have⟨nI,za,xX,BQ,Am⟩:=Ee aa hC.lt hP.lt hR.lt hG.lt hA.lt;refine rE fun f w2 ab m8 s2 z2 => ?_;have⟨m9,m11,m12,m13,m14,m15,b2⟩:=jM s2.old m2 m4 m5 m6 m7 O W;have⟨PN,F7,CX,ze,CY,AB⟩:=Je ab m2.lt m4.lt m5.lt m6.lt m7.lt O.lt;refine av (.nilFunc)<|av (au 0)<|aD<|Ws ?_;refine kJ [4,0,1,2,3,5,6,7,8,9,10,11,12] [1,0,0,1,0,1,1,0,0,0,2,3,0] [(11,0,[0]),(11,3,[3]),(11,5,[5]),(11,6,[6]),(11,10,[10]),(12,10,[10]),(12,11,[11])] fun rG dZ iJ => ?_;have⟨E,m18,F,m20,m21,s,u,y⟩:=kW dZ m9 m11 m12 m13 m14 m15 m8 b2;refine bf (pf f 9)<|Rd (v:=(pt lp)) (by rfl) (by rfl) (vB _) (fun G j=>bB (x:=fun _=>(pt lp)) rfl rfl (by kernel_rfl) (s.aI.below j (by have:=s.lt; omega)) (i:=0) (by omega) (by omega) rfl) ?_;refine bf (pt lp)<|bf (pf lp 20)<|Rd (v := .map (some m.rb)) (by rfl) (by rfl) (vB _) (fun G j=>bB (x:=vY m) rfl rfl (by kernel_rfl) (E.aI.below j (by have:=E.lt; omega)) (i:=20) (by omega) (by omega) rfl) ?_;refine Rd (v:=aC v.node) (by rfl) (by rfl) (vB _) (fun G j=>bB (x:=bV v) rfl rfl (by kernel_rfl) (u.aI.below j (by have:=u.lt; omega)) (i:=9) (by omega) (by omega) rfl) ?_
 rcases Fx.sG m.T.x m.T.n v.node with ⟨b,D,J⟩|jC
 ·refine Rd (v := .tuple #[.agg (aA 54 (rv .i64 (m.R b))),.bool true]) (by rfl) (by rfl) (vB _) (fun G j=>Fx.Fv (z := .agg (aA 54 (rv .i64 (fun _=>0)))) rfl rfl rfl (F.up j) Tryz.underlying101 Tryz.underlying28 (by kernel_rfl) D J rfl) ?_;refine bf (.tuple #[.agg (aA 54 (rv .i64 (m.R b))),.bool true])<|bf (.agg (aA 54 (rv .i64 (m.R b))))<|bf aG<|Dw<|uW 54 (rv .i64 (fun _=>0)) fun d w3 ac P s4 z3 => ?_;have⟨nA,m32,X⟩:=jr s4.old s u y;have⟨NV,NW,VI,VJ,VK,adX,adY⟩:=M5 ac E.lt m18.lt F.lt m20.lt m21.lt s.lt u.lt;refine Ln ⟨s4.old,?_⟩;refine gQ<|fq P 0 fun w4 qg s5 z4 => ?_;have oO:aP w4 d 54 (rv .i64 (m.R b)) 59:=aW qg;have gD:=gX s5 P.ty;have⟨nJ,mJ⟩:=Bt gD nA m32;have b5:=s5.below X X.size (by omega);refine Ln<|bf aG<|bT<|Ws<|ay<|av aG<|av aF<|aD<|aK<|Wk<|sN<|Ws<|Ws ?_;have K:m.idx v.node=b:=mZ h.t.inv.inj D J;have q:m.T.has v.node=true:=jN D J;have q1:=hRb b D a (by omega);have q2:=lI N (.inl hkd);refine kJ [0,3,6,9,1,2,4,5,7,8,10,11] [0,4,0,0,0,4,0,4,0,0,0,3] [(11,1,[1]),(11,5,[5]),(11,7,[7])] fun Dx gI nX => ?_;have⟨tV,Q,S,Y⟩:=nO gI nJ mJ oO b5;refine bf (pt f)<|bf (pt d)<|bf (pf f 11)<|bf (pt d)<|Rs (au v.o) (aM Q.aI 0) ?_;refine Rp (au a) (fun _=>fZ)<|Rp (pf d a) (fun _=>iY 6 1)<|Rs (au ((m.R b) a)) (aM S.aI a) ?_;refine Rs (au v.aU) (aM Q.aI 11) ?_;refine Rp (au (((m.R b) a)+v.aU)) (fun _=>eU)<|Rp (pf d a) (fun _=>iY 6 1)<|gQ<|jh S a (au (((m.R b) a)+v.aU)) fun w5 uX s7 z5 => ?_;have U:aP w5 d 54 (rv .i64 (upd (m.R b) a (((m.R b) a)+v.aU))) 59:=uX.to (Fx.zw _ _ _ _);have jv:=gX s7 S.ty;have⟨qI,V⟩:=Bt jv tV Q;have H:=s7.below Y Y.size (by omega);refine Ln<|bT<|ay<|av (pt f)<|Lv (au v.o) (aM V.aI 0)<|Lv (au a) fZ<|av (pt d)<|Lv (pf d a) (iY 6 1)<|Lv (au ((upd (m.R b) a (((m.R b) a)+v.aU)) a)) (aM U.aI a) ?_;by_cases A:140737488355328<((upd (m.R b) a (((m.R b) a)+v.aU)) a)
  ·refine Lv aG (mK A)<|aD<|aL<|ay<|av (.nilFunc)<|av (au 6)<|aD<|Wr<|sR<|aJ (.tuple #[.nilFunc,au 6]) ?_;have k:jI m v=6:=(by unfold jI; rw[b_ (by rw[q]; decide)]; exact d_ (by rw[K,M]; simpa [upd] using A));exact⟨⟨.nilFunc,0,#[],by rw[k],rfl,fun I=>M_ (k.symm.trans I) (by first|decide|omega|assumption)⟩,H⟩
  refine Lv aF (mM A)<|aD<|aK<|Wk<|sN<|ay<|Lv (.func (.func 173) #[] #[(pt d),(pt l),(pt f)]) (Fx.nk (us := []) (vs := [(pt d),(pt l),(pt f)]) rfl rfl rfl)<|av (.func (.func 173) #[] #[(pt d),(pt l),(pt f)])<|av (au 0)<|aD<|Wr<|aJ (.tuple #[.func (.func 173) #[] #[(pt d),(pt l),(pt f)],au 0]) ?_;have em:uT m v=CV m v.node (upd (m.R b) a (m.R b a+v.aU)):=by unfold uT; rw[K,M]
  rw[em];have k:jI m v=0:=by unfold jI; rw[b_ (by rw[q]; decide)]; exact b_ (by rw[K,M]; simpa [upd] using A)
  exact⟨⟨_,173,#[(pt d),(pt l),(pt f)],by rw[k],rfl,fun _=>⟨rfl,⟨_,_,Tryz.func173,rfl,rfl⟩,fun w2 C=>(Rz m lp B w2 ((h.up H).up C) v N q _ _ _ _ (U.cZ (Sb C) (u_ U.lt)) (qI.cZ (Sb C) (u_ qI.lt)) (V.cZ (Sb C) (u_ V.lt))).mono fun _ _ L=>⟨L.1,L.2.1,L.2.2.mono fun _ q => .inl q⟩⟩⟩,H⟩
 refine Rd (v := .tuple #[.agg (aA 54 (rv .i64 (fun _=>0))),.bool false]) (by rfl) (by rfl) (vB _) (fun G j=>Fx.Fu (z := .agg (aA 54 (rv .i64 (fun _=>0)))) rfl rfl rfl (F.up j) Tryz.underlying101 Tryz.underlying28 (by kernel_rfl) jC) ?_;refine bf (.tuple #[.agg (aA 54 (rv .i64 (fun _=>0))),.bool false])<|bf (.agg (aA 54 (rv .i64 (fun _=>0))))<|bf aF<|Dw<|uW 54 (rv .i64 (fun _=>0)) fun g4 w6 ad oh s8 z6 => ?_;have Z:=bF s8.old y;have Rc:=iT ad y.size;have⟨aoM,aoN,VL,VN,adZ,aea,aeb⟩:=M5 ad E.lt m18.lt F.lt m20.lt m21.lt s.lt u.lt;have Rf:=oh.lt;refine Ln ⟨s8.old,?_⟩;refine gQ<|fq oh 0 fun w7 uD s9 z7 => ?_;have wC:aP w7 g4 54 (rv .i64 (fun _=>0)) 59:=aW uD;have b9:=s9.below Z Z.size (by omega);refine Ln<|bf aF<|bT<|Ws<|ay<|av aF<|av aG<|aD<|aL<|ay<|av (.nilFunc)<|av (au 9)<|aD<|Wr<|sR<|aJ (.tuple #[.nilFunc,au 9]) ?_;have k:jI m v=9:=by unfold jI; exact d_ (zB jC)
 exact⟨⟨.nilFunc,0,#[],by rw[k],rfl,fun I=>M_ (k.symm.trans I) (by first|decide|omega|assumption)⟩,b9⟩
theorem Y8(m:dU)(lp B:Nat)(w:World)(h:mh w B lp m)(v:EvM)(Q:bS v=true)(hkd:v.kind=5) :
 Calls Tryz.prog 166 #[(pt lp),.agg (aA 14 (bV v))] w fun e w'=>Sd w B lp m (DV m v) (kR m v) e w':=by
 have hC:=h.c;have hP:=h.p;have hR:=h.r;have hG:=h.g;have hA:=h.a;obtain⟨a,ha,ho⟩ : ∃ a:Nat,a<6/\v.o=(a:Int)+1:=fu (iO Q);have hra:aO v=a:=by unfold aO; omega
 obtain⟨b,hb,hd⟩:=PL Q hkd;have N:(v.dst-1).toNat=b:=by omega
 refine Kent Tryz.func166 47 ?_;refine ay<|yM (pt lp) fun y w1 aa S s1 z1 => ?_;have⟨m2,m4,m5,m6,m7,V⟩:=tT s1.old hC hP hR hG hA (Below.refl w.heap.size w);have tN:=iy aa;have⟨nI,za,xX,BQ,Am⟩:=Ee aa hC.lt hP.lt hR.lt hG.lt hA.lt;have uM:=S.lt;refine rE fun f w2 ab m8 s2 z2 => ?_;have⟨m9,m11,m12,m13,m14,m15,b2⟩:=jM s2.old m2 m4 m5 m6 m7 S V;have qW:=iT ab V.size;have⟨PN,F7,CX,ze,CY,AB⟩:=Je ab m2.lt m4.lt m5.lt m6.lt m7.lt S.lt;have zY:=m8.lt;refine av (.nilFunc)<|av (au 0)<|aD<|Ws ?_;refine kJ [4,0,1,2,3,5,6,7,8,9,10,11,12] [1,0,0,1,0,1,1,0,0,0,2,3,0] [(11,0,[0]),(11,3,[3]),(11,5,[5]),(11,6,[6]),(11,10,[10]),(12,10,[10]),(12,11,[11])] fun rG dZ iJ => ?_;have⟨A,m18,I,m20,m21,C,D,F⟩:=kW dZ m9 m11 m12 m13 m14 m15 m8 b2;refine bf (pf f 9)<|Rd (v:=(pt lp)) (by rfl) (by rfl) (vB _) (fun J k=>bB (x:=fun _=>(pt lp)) rfl rfl (by kernel_rfl) (C.aI.below k (by have:=C.lt; omega)) (i:=0) (by omega) (by omega) rfl) ?_;refine bf (pt lp)<|bf (pf lp 20)<|Rd (v := .map (some m.rb)) (by rfl) (by rfl) (vB _) (fun J k=>bB (x:=vY m) rfl rfl (by kernel_rfl) (A.aI.below k (by have:=A.lt; omega)) (i:=20) (by omega) (by omega) rfl) ?_;refine Rd (v:=aC v.node) (by rfl) (by rfl) (vB _) (fun J k=>bB (x:=bV v) rfl rfl (by kernel_rfl) (D.aI.below k (by have:=D.lt; omega)) (i:=9) (by omega) (by omega) rfl) ?_
 rcases Fx.sG m.T.x m.T.n v.node with ⟨d,P,M⟩|jC
 ·refine Rd (v := .tuple #[.agg (aA 54 (rv .i64 (m.R d))),.bool true]) (by rfl) (by rfl) (vB _) (fun J k=>Fx.Fv (z := .agg (aA 54 (rv .i64 (fun _=>0)))) rfl rfl rfl (I.up k) Tryz.underlying101 Tryz.underlying28 (by kernel_rfl) P M rfl) ?_;refine bf (.tuple #[.agg (aA 54 (rv .i64 (m.R d))),.bool true])<|bf (.agg (aA 54 (rv .i64 (m.R d))))<|bf aG<|Dw<|uW 54 (rv .i64 (fun _=>0)) fun l w3 ac U s4 z3 => ?_;have⟨nP,nA,m32,W⟩:=nO s4.old A C D F;have Aj:=iT ac F.size;have⟨NV,NW,VI,VJ,VK,adX,adY⟩:=M5 ac A.lt m18.lt I.lt m20.lt m21.lt C.lt D.lt;have J6:=U.lt;refine Ln ⟨s4.old,?_⟩;refine gQ<|fq U 0 fun w4 qg s5 z4 => ?_;have oO:aP w4 l 54 (rv .i64 (m.R d)) 59:=aW qg;have gD:=gX s5 U.ty;have⟨qh,nJ,mJ⟩:=Ec gD nP nA m32;have b5:=s5.below W W.size (by omega);refine Ln<|bf aG<|bT<|Ws<|Wb<|ay<|av aG<|av aF<|av aF<|aD<|aK<|Ws ?_;have ex:m.idx v.node=d:=mZ h.t.inv.inj P M;have s:m.T.has v.node=true:=jN P M;refine kJ [1,0,4,5,2,3,6,7,8,9] [4,0,4,0,0,0,0,4,0,0] [] fun Dx gI nX => ?_;have⟨nC,tV,E,wu,X⟩:=tQ gI qh nJ mJ oO b5;refine bf (pf f 10)<|Rs (pt lp) (aM tV.aI 0) ?_;refine bf (pt lp)<|bf (pt lp)<|Rs (au v.dst) (aM E.aI 10) ?_;refine Rp (au b) (fun _=>fZ)<|Rp (pf lp b) (fun _=>iY 6 1) ?_;by_cases q:(m.inn b)=true
  ·refine Rs aG (aM nC.aI b ((CU (by omega)).trans (L_ Value.bool q))) ?_;refine bf aF<|bf aF<|bT<|aK<|Wk<|bR<|sN<|ay<|Lv (.agg (aA 54 (rv .i64 (m.R d)))) (fJ wu.aI 0)<|av (pt f)<|Lv (au v.o) (aM E.aI 0)<|av (pf f 10)<|Lv (au v.dst) (aM E.aI 10)<|av (pf f 11)<|Lv (au v.aU) (aM E.aI 11)<|dQ (adU (m.R d) v.o v.dst v.aU _ (by omega) (by omega)) _ rfl ?_;intro w5 hb1;have⟨uz,wU,qI,Y⟩:=nO hb1 tV E wu X;refine av (.tuple #[.agg (aA 54 (rv .i64 ((cK (m.R d) v.o v.dst v.aU).1))),au ((cK (m.R d) v.o v.dst v.aU).2)])<|av (.agg (aA 54 (rv .i64 ((cK (m.R d) v.o v.dst v.aU).1))))<|av (au ((cK (m.R d) v.o v.dst v.aU).2))<|fq qI 0 fun w6 vM s8 z5 => ?_;have oh:aP w6 l 54 (rv .i64 ((cK (m.R d) v.o v.dst v.aU).1)) 59:=aW vM;have jv:=gX s8 qI.ty;have⟨sM,uY⟩:=Bt jv uz wU;have K:=s8.below Y Y.size (by omega);refine av (au ((cK (m.R d) v.o v.dst v.aU).2))<|aD<|Ws<|ay<|av (au ((cK (m.R d) v.o v.dst v.aU).2)) ?_;by_cases L:((cK (m.R d) v.o v.dst v.aU).2)=0
   ·refine Lv aF (ko L)<|aD<|aK<|Wk<|sN<|ay<|Lv (.func (.func 182) #[] #[(pt l),(pt y),(pt f)]) (Fx.nk (us := []) (vs := [(pt l),(pt y),(pt f)]) rfl rfl rfl)<|av (.func (.func 182) #[] #[(pt l),(pt y),(pt f)])<|av (au 0)<|aD<|Wr<|aJ (.tuple #[.func (.func 182) #[] #[(pt l),(pt y),(pt f)],au 0]) ?_;have G:tF m v=cK (m.R d) v.o v.dst v.aU:=(by unfold tF; rw[ex]);show Sd w B lp m (CV m v.node (tF m v).1) _ _ _;rw[G];have j:kR m v=0:=(by unfold kR; rw[b_ (by rw[s]; decide),b_ (by rw[N,q]; decide),G]; exact L);exact⟨⟨_,182,#[(pt l),(pt y),(pt f)],by rw[j],rfl,fun _=>⟨rfl,⟨_,_,Tryz.func182,rfl,rfl⟩,fun w2 H=>(VG m lp B w2 ((h.up K).up H) v Q s _ _ _ _ (oh.cZ (Sb H) (u_ oh.lt)) (sM.cZ (Sb H) (u_ sM.lt)) (uY.cZ (Sb H) (u_ uY.lt))).mono fun _ _ O=>⟨O.1,O.2.1,O.2.2.mono fun _ s => .inl s⟩⟩⟩,K⟩
   refine Lv aG (nN L)<|aD<|aL<|ay<|av (au ((cK (m.R d) v.o v.dst v.aU).2))<|av (.nilFunc)<|av (au ((cK (m.R d) v.o v.dst v.aU).2))<|aD<|Wr<|sR<|aJ (.tuple #[.nilFunc,au ((cK (m.R d) v.o v.dst v.aU).2)]) ?_;have G:tF m v=cK (m.R d) v.o v.dst v.aU:=(by unfold tF; rw[ex]);have j:kR m v=(cK (m.R d) v.o v.dst v.aU).2:=(by unfold kR; rw[b_ (by rw[s]; decide),b_ (by rw[N,q]; decide),G]);exact⟨⟨.nilFunc,0,#[],by rw[j],rfl,fun u=>M_ (j.symm.trans u) (by first|decide|omega|assumption)⟩,K⟩
  rw[U_]at q;refine Rs aF (aM nC.aI b ((CU (by omega)).trans (L_ Value.bool q))) ?_;refine bf aG<|bf aG<|bT<|aL<|ay<|av (.nilFunc)<|av (au 10)<|aD<|Wr<|bP<|sR<|aJ (.tuple #[.nilFunc,au 10]) ?_;have j:kR m v=10:=by unfold kR; rw[b_ (by rw[s]; decide)]; exact d_ (by rw[N]; exact q)
  exact⟨⟨.nilFunc,0,#[],by rw[j],rfl,fun u=>M_ (j.symm.trans u) (by first|decide|omega|assumption)⟩,X⟩
 refine Rd (v := .tuple #[.agg (aA 54 (rv .i64 (fun _=>0))),.bool false]) (by rfl) (by rfl) (vB _) (fun J k=>Fx.Fu (z := .agg (aA 54 (rv .i64 (fun _=>0)))) rfl rfl rfl (I.up k) Tryz.underlying101 Tryz.underlying28 (by kernel_rfl) jC) ?_;refine bf (.tuple #[.agg (aA 54 (rv .i64 (fun _=>0))),.bool false])<|bf (.agg (aA 54 (rv .i64 (fun _=>0))))<|bf aF<|Dw<|uW 54 (rv .i64 (fun _=>0)) fun g4 w7 ad uD s9 z6 => ?_;have Z:=bF s9.old F;have Rc:=iT ad F.size;have⟨aec,aoO,aed,aoP,aee,aef,aeg⟩:=M5 ad A.lt m18.lt I.lt m20.lt m21.lt C.lt D.lt;have Rf:=uD.lt;refine Ln ⟨s9.old,?_⟩;refine gQ<|fq uD 0 fun w8 wE s10 z7 => ?_;have vg:aP w8 g4 54 (rv .i64 (fun _=>0)) 59:=aW wE;have b10:=s10.below Z Z.size (by omega);refine Ln<|bf aF<|bT<|Ws<|Wb<|ay<|av aF<|av aG<|av aG<|aD<|aL<|ay<|av (.nilFunc)<|av (au 9)<|aD<|Wr<|bP<|sR<|aJ (.tuple #[.nilFunc,au 9]) ?_;have j:kR m v=9:=by unfold kR; exact d_ (zB jC)
 exact⟨⟨.nilFunc,0,#[],by rw[j],rfl,fun u=>M_ (j.symm.trans u) (by first|decide|omega|assumption)⟩,b10⟩
theorem Y9(m:dU)(lp B:Nat)(w:World)(h:mh w B lp m)(v:EvM)(I:bS v=true)(b:Nat)(F:b<6)(G:v.dst=(b:Int)+1) :
 Calls Tryz.prog 167 #[(pt lp),.agg (aA 14 (bV v))] w fun e w'=>Sd w B lp m (Io m v) (0) e w':=by
 have x:=h.c;have z:=h.p;have A:=h.r;have y:=h.g;have u:=h.a;refine Kent Tryz.func167 7 ?_;refine ay<|yM (pt lp) fun d w1 q k O z1 => ?_;have⟨J,K,L,M,N,n⟩:=tT O.old x z A y u (Below.refl w.heap.size w);have⟨aa,ab,ac,ad,ae⟩:=Ee q x.lt z.lt A.lt y.lt u.lt;refine rE fun f D s l P z2 => ?_;have⟨C,o⟩:=fF P.old k n;have⟨ak,af,ag,ah,ai,aj⟩:=Je s J.lt K.lt L.lt M.lt N.lt k.lt;refine av (.nilFunc)<|av (au 0)<|aD<|ay<|Lv (.func (.func 183) #[] #[(pt d),(pt f)]) (Fx.nk (us := []) (vs := [(pt d),(pt f)]) rfl rfl rfl)<|av (.func (.func 183) #[] #[(pt d),(pt f)])<|av (au 0)<|aD<|Wr<|aJ (.tuple #[.func (.func 183) #[] #[(pt d),(pt f)],au 0]) ?_;have E:(0:Int)=0:=rfl;exact⟨⟨_,183,#[(pt d),(pt f)],by rw[E],rfl,fun _=>⟨rfl,⟨_,_,Tryz.func183,rfl,rfl⟩,fun D i=>(VF m lp B D ((h.up o).up i) v I b F G _ _ (C.cZ (Sb i) (u_ C.lt)) (l.cZ (Sb i) (u_ l.lt))).mono fun _ _ j=>⟨j.1,j.2.1,j.2.2.mono fun _ H => .inl H⟩⟩⟩,o⟩
theorem VO(m:dU)(lp B:Nat)(w:World)(h:mh w B lp m)(v:EvM)(F:bS v=true) :
 Calls Tryz.prog 168 #[(pt lp),.agg (aA 14 (bV v))] w fun e w'=>Sd w B lp m (CW m v) (0) e w':=by
 have u:=h.c;have y:=h.p;have z:=h.r;have x:=h.g;have s:=h.a;refine Kent Tryz.func168 7 ?_;refine ay<|yM (pt lp) fun b w1 o j L z1 => ?_;have⟨G,H,I,J,K,l⟩:=tT L.old u y z x s (Below.refl w.heap.size w);have⟨X,Y,Z,aa,ab⟩:=Ee o u.lt y.lt z.lt x.lt s.lt;refine rE fun d C q k M z2 => ?_;have⟨A,n⟩:=fF M.old j l;have⟨ah,ac,ad,ae,af,ag⟩:=Je q G.lt H.lt I.lt J.lt K.lt j.lt;refine av (.nilFunc)<|av (au 0)<|aD<|ay<|Lv (.func (.func 184) #[] #[(pt b),(pt d)]) (Fx.nk (us := []) (vs := [(pt b),(pt d)]) rfl rfl rfl)<|av (.func (.func 184) #[] #[(pt b),(pt d)])<|av (au 0)<|aD<|Wr<|aJ (.tuple #[.func (.func 184) #[] #[(pt b),(pt d)],au 0]) ?_;have D:(0:Int)=0:=rfl;exact⟨⟨_,184,#[(pt b),(pt d)],by rw[D],rfl,fun _=>⟨rfl,⟨_,_,Tryz.func184,rfl,rfl⟩,fun C f=>(Ry m lp B C ((h.up n).up f) v F _ _ (A.cZ (Sb f) (u_ A.lt)) (k.cZ (Sb f) (u_ k.lt))).mono fun _ _ i=>⟨i.1,i.2.1,i.2.2.mono fun _ E => .inl E⟩⟩⟩,n⟩
section
open Rt
theorem aoQ(o q:Nat)(w:World)(a:1<=o/\o<=6)(c:1<=q/\q<1099511627776) :
 Calls Tryz.prog 169 #[au (o:Int),aC (q:Int)] w fun e w'=>e = .returned (aC (1099511627776*(o:Int)+(q:Int)))/\w'=w:=by
 refine Kent Tryz.func169 24 ?_;refine ay<|av (aC 0)<|aD<|Ws<|ay<|av (au o)<|Lv aF Hf<|av aF<|av (au o)<|Lv aF yL<|av aF<|av aF<|av (aC q)<|Lv aF Hf<|av aF<|av aF<|av (aC q)<|Lv aF Km<|av aF<|aD<|aK<|Wk<|sN<|ay<|av (au o)<|Lv (aC o) (dG rfl rfl (by kernel_rfl) Tryz.underlying28 (jL (by omega) rfl))<|Lv (aC (1099511627776*(o:Int))) (Fx.Kj (b:=40) rfl rfl rfl (by decide) (jL (by omega) (by omega)))<|av (aC q)<|Lv (aC (1099511627776*(o:Int)+(q:Int))) (Fx.acU rfl rfl rfl (by omega) (by omega))<|av (aC (1099511627776*(o:Int)+(q:Int)))<|aD<|Wr<|aJ (aC (1099511627776*(o:Int)+(q:Int))) ?_;exact⟨rfl,rfl⟩
end
end Go.Proofs.YtahbiajdgealnaaGreatDoor
namespace Go.Proofs.YtahbiajdgealnaaGreatDoor
open Go.RowKit Go
namespace Rt
theorem CZ : ∀(n m:Nat) (f:Nat->Nat),(∀ i,i<m->f i<n)->(∀ i j,i<m->j<m->f i=f j->i=j)->m<=n
 | 0,m,f,h1,_=>by
   rcases Nat.eq_zero_or_pos m with h|h
   ·omega
   ·have:=h1 0 h; omega
 | n+1,m,f,h1,h2=>by
   rcases Nat.eq_zero_or_pos m with h|h
   ·omega
   by_cases d : ∃ a,a<m/\f a=n
   ·obtain⟨a,b,e⟩:=d;have:=CZ n (m-1) (fun j=>f (if j=a then m-1 else j)) (fun j o=>by
     have g:=h1 (if j=a then m-1 else j) (by split <;> omega)
     have k:f (if j=a then m-1 else j)≠n:=fun c=>by
      have:=h2 _ a (by split <;> omega) b (c.trans e.symm)
      split at this <;> omega
     show f _<n;omega) (fun i j l p c=>by
     have:=h2 _ _ (by split <;> omega) (by split <;> omega) c
     split at this <;> split at this <;> omega)
    omega
   ·have:=CZ n m f (fun i b=>by
     have:=h1 i b;have:f i≠n:=fun e=>d ⟨i,b,e⟩;omega) h2
    omega
section
variable {T U:dN} {id pa k:Int} {i:Nat}
theorem dN.EU(h:T.err id pa=0):T.add id pa=T.put id pa:=d_ h
theorem dN.aeh(h : ¬ T.err id pa=0):T.add id pa=T:=b_ h
theorem dN.Ar(hi:i<T.n):T.has (T.x i)=true:=jN hi rfl
theorem dN.LA(h:T.ok)(hi:i<T.n):T.par (T.x i)=T.p i:=Bu h.inj hi rfl
theorem dN.step(h:T.ok)(a:T.has k=true):T.path k=k::T.path (T.par k):=by
 have b:jB T.x T.p T.n 3 (T.par k):=h.stop k a;show(if dR T.x T.n k=true then k::jE T.x T.p T.n 3 (T.par k)else [])=_;rw[d_ (show dR T.x T.n k=true from a),<- (Jg b (show 3<=4 by omega)).1]; rfl
theorem dN.aei(h:T.ok)(hi:i<T.n):T.path (T.x i)=T.x i::T.path (T.p i):=by rw[dN.step h (dN.Ar hi),dN.LA h hi]
theorem dN.zN:(T.path k).length<=4:=zC
theorem dN.aej(h:T.ok):T.path 0 = []:=Cb.agr h 4
theorem vO.zero(T:dN):vO dN.zero T:=⟨fun _ h=>(nomatch h),fun _ h=>(nomatch h)⟩
theorem vO.path(b:T.ok)(a:U.ok)(h:vO U T) : ∀(d:Nat) (k:Int),(k=0\/U.has k=true)->jE U.x U.p U.n d k=jE T.x T.p T.n d k
 | 0,_,_=>rfl
 | d+1,k,hk=>by
   rcases hk with rfl|hk
   ·rw[kZ (Cb.Yf a),kZ (Cb.Yf b)]
   ·unfold jE;have c:dR U.x U.n k=true:=hk;have e:dR T.x T.n k=true:=h.has k hk;have f:iD U.x U.p U.n k=iD T.x T.p T.n k:=h.par k hk;rw[d_ c,d_ e,<- f,vO.path b a h d];exact Cb.up a hk
theorem vO.lt(s:U.ok)(h:vO U T)(hi:i<T.n)(m:U.has (T.x i)=false):U.n<T.n:=by
 have p : ∀ j,∃ q,j<U.n->q<T.n/\T.x q=U.x j:=fun j=>by
  by_cases g:j<U.n
  ·obtain⟨q,c,d⟩:=gT (h.has _ (dN.Ar g));exact⟨q,fun _=>⟨c,d⟩⟩
  ·exact⟨0,fun h=>M_ h g⟩
 obtain⟨f,k⟩:=Classical.axiomOfChoice p;have:=CZ T.n (U.n+1) (fun j=>if j=U.n then i else f j) (fun j g=>by
  show(if j=U.n then i else f j)<T.n;split
  ·exact hi
  ·exact(k j (by omega)).1) (fun a b t u e=>by
  have o : ∀ j,j<U.n->f j≠i:=fun j g e=>by
   have c:=(k j g).2;rw[e]at c;rw[c,dN.Ar g]at m; cases m
  have e:=e;by_cases c:a=U.n
  ·by_cases d:b=U.n
   ·omega
   ·rw[d_ c,b_ d]at e; exact M_ e.symm (o b (by omega))
  ·by_cases d:b=U.n
   ·rw[b_ c,d_ d]at e; exact M_ e (o a (by omega))
   ·rw[b_ c,b_ d]at e;have l:=(k a (by omega)).2;have r:=(k b (by omega)).2;rw[e]at l;exact s.inj a b (by omega) (by omega) (l.symm.trans r))
 omega
theorem vO.add(d:T.ok)(g:U.ok)(h:vO U T)(hi:i<T.n)(j:T.p i=0\/U.has (T.p i)=true) :
 vO (U.add (T.x i) (T.p i)) T/\(U.add (T.x i) (T.p i)).has (T.x i)=true /\ ∀ k,U.has k=true->(U.add (T.x i) (T.p i)).has k=true:=by
 cases hh:U.has (T.x i)with
 | true =>
   have e:U.add (T.x i) (T.p i)=U:=by
    refine dN.aeh fun m => ?_;have:=(Fy m).2.1;rw[show dR U.x U.n (T.x i)=U.has (T.x i)from rfl,hh]at this; cases this
   rw[e]; exact⟨h,hh,fun _ h=>h⟩
 | false =>
   have s:=(d.pos i hi).1;have q:=vO.lt g h hi hh;have r:=d.small;have l:U.err (T.x i) (T.p i)=0:=by
    unfold dN.err rH;rw[b_ (by omega),b_ (by rw[show dR U.x U.n (T.x i)=U.has (T.x i)from rfl,hh]; decide),b_,b_]
    ·rintro (b|b)
     ·omega
     ·have f:=vO.path d g h 4 (T.p i) j;rw[f]at b;have c:=dN.aei d hi;have o:(T.path (T.x i)).length<=4:=dN.zN;rw[c,List.length_cons]at o;have b:4<=(T.path (T.p i)).length:=b;omega
    ·rintro ⟨b,f⟩
     rcases j with c|c
     ·exact b c
     ·rw[show dR U.x U.n (T.p i)=U.has (T.p i)from rfl,c]at f; cases f
   rw[dN.EU l];refine⟨⟨fun k a => ?_,fun k a => ?_⟩,?_,fun k a => ?_⟩
   ·rw[dN.jH,Bool.or_eq_true]at a
    rcases a with a|a
    ·exact h.has k a
    ·rw[<- h_ a]; exact dN.Ar hi
   ·rw[dN.jH,Bool.or_eq_true]at a;rw[dN.um];split
    ·rename_i e; subst e; exact(dN.LA d hi).symm
    ·rename_i e
     rcases a with a|a
     ·exact h.par k a
     ·exact M_ (h_ a) e
   ·rw[dN.jH,f_ rfl,Bool.or_true]
   ·rw[dN.jH,a,Bool.true_or]
structure LB(T U:dN)(r k:Nat):Prop where
 sub:vO U T
 fst : ∀ j,j<r->j<T.n->U.has (T.x j)=true
 nxt:k<=r->r<T.n->U.has (T.x r)=true
theorem LB.start(T:dN) : ∀ {r:Nat},r=0->LB T dN.zero r T.n:=fun e=>⟨vO.zero T,fun j h=>by omega,fun a b=>by omega⟩
theorem LB.add{r k:Nat}(f:T.ok)(g:U.ok)(h:LB T U r k)(m:0<k)(o:k<=T.n)(l:T.p (k-1)=0\/U.has (T.p (k-1))=true):LB T (U.add (T.x (k-1)) (T.p (k-1))) r (k-1):=by
 obtain⟨c,d,b⟩:=vO.add f g h.sub (show k-1<T.n by omega) l;refine⟨c,fun j i a=>b _ (h.fst j i a),fun q a => ?_⟩;by_cases e:k<=r
 ·exact b _ (h.nxt e a)
 obtain rfl:r=k-1:=by omega
 exact d
theorem LB.skip{r k:Nat}(b:T.ok)(h:LB T U r k)(f:0<k)(g:k<=T.n)(d : ¬ T.p (k-1)=0)(a:U.has (T.p (k-1))=false):LB T U r (k-1):=by
 refine⟨h.sub,h.fst,fun j c => ?_⟩;by_cases e:k<=r
 ·exact h.nxt e c
 obtain rfl:r=k-1:=by omega
 rcases b.par (k-1) (by omega)with h1|⟨i,hi,h1⟩
 ·exact M_ h1 d
 rw[<- h1,h.fst i hi (by omega)]at a; cases a
theorem LB.next{r:Nat}(h:LB T U r 0):LB T U (r+1) T.n :=
 ⟨h.sub,fun j d a=>by
  by_cases e:j=r
  ·subst e; exact h.nxt (K_ _) a
  ·exact h.fst j (by omega) a,fun b c=>by omega⟩
theorem LB.all{r k:Nat}(h:LB T U r k)(hr:T.n<=r) : ∀ k,T.has k=true->U.has k=true:=fun k b=>by
 obtain⟨j,a,rfl⟩:=gT b;exact h.fst j (by omega) a
theorem LB.path{r k:Nat}(h:LB T U r k)(hr:T.n<=r)(q:Int):U.path q=T.path q:=h.sub.same (h.all hr) q
theorem LB.list{r k:Nat}(h:LB T U r k)(hr:T.n<=r){l m:List Int}(a:l.Pairwise (· < ·) /\ ∀ k,k∈l<->T.has k=true)(b:m.Pairwise (· < ·) /\ ∀ k,k∈m<->U.has k=true):m=l :=
 vJ b.1 a.1 fun k=>(b.2 k).trans (Iff.trans ⟨h.sub.has k,h.all hr k⟩ (a.2 k).symm)
end
def Sg(l:List Int)(v:Int)(n:Nat)(b:Bool):Prop:=b=true <-> ∃ j,j<n/\j<l.length/\l.getD j 0=v
theorem Sg.zero(l:List Int)(v:Int):Sg l v 0 false:=⟨fun h=>(nomatch h),fun⟨j,h,_⟩=>M_ h (z_ _)⟩
theorem Sg.keep{l:List Int}{v:Int}{n:Nat}(h:Sg l v n true):Sg l v (n+1) true:=⟨fun _=>by obtain⟨j,b,a⟩:=h.1 rfl; exact⟨j,by omega,a⟩,fun _=>rfl⟩
theorem Sg.yes{l:List Int}{v:Int}{n:Nat}(a:n<l.length)(e:l.getD n 0=v):Sg l v (n+1) true:=⟨fun _=>⟨n,by omega,a,e⟩,fun _=>rfl⟩
theorem Sg.no{l:List Int}{v:Int}{n:Nat}(h:Sg l v n false)(e : ¬ l.getD n 0=v):Sg l v (n+1) false:=⟨fun h=>(nomatch h),fun⟨j,d,c,a⟩=>by
 by_cases b:j=n
 ·subst b; exact M_ a e
 ·exact h.2 ⟨j,by omega,c,a⟩⟩
theorem Sg.mem{l:List Int}{v:Int}{n:Nat}{b:Bool}(h:Sg l v n b)(i:l.length<=n):b=true<->v∈l:=by
 constructor
 ·intro f;obtain⟨j,_,c,d⟩:=h.1 f;exact vK c d
 intro g;obtain⟨j,a,e⟩:=List.getElem_of_mem g;refine h.2 ⟨j,by omega,a,?_⟩;rw[r_,o_ a]; exact e
end Rt
namespace Rt
def Za(x:Nat->Int)(v:Int)(j aq:Nat):Prop:=(aq=0 /\ ∀ q,q<j->x q≠v)\/(0<aq/\aq<=j/\x (aq-1)=v)
section
variable {x:Nat->Int} {v:Int} {j aq:Nat}
theorem Za.zero:Za x v 0 0 := .inl ⟨rfl,fun _ h=>M_ h (z_ _)⟩
theorem Za.yes(e:x j=v):Za x v (j+1) (j+1) := .inr ⟨by omega,by omega,e⟩
theorem Za.no(h:Za x v j aq)(e : ¬ x j=v):Za x v (j+1) aq:=by
 rcases h with ⟨a,b⟩|⟨a,b,h3⟩
 ·refine .inl ⟨a,fun q d => ?_⟩;by_cases c:q=j
  ·subst c; exact e
  exact b q (by omega)
 exact .inr ⟨a,by omega,h3⟩
end
section
variable {x p:Nat->Int} {n:Nat}
theorem rZ : ∀ {d:Nat} {v:Int},jB x p n d v -> ∀ k,k<(jE x p n d v).length->dR x n ((jE x p n d v).getD k 0)=true /\
 (k+1<(jE x p n d v).length->(jE x p n d v).getD (k+1) 0=iD x p n ((jE x p n d v).getD k 0))/\(k+1=(jE x p n d v).length->dR x n (iD x p n ((jE x p n d v).getD k 0))=false)
 | 0,v,h,k,hk=>M_ hk (z_ _)
 | d+1,v,h,k,hk=>by
   cases hv:dR x n v with
   | false=>rw[kZ hv]at hk; exact M_ hk (z_ _)
   | true =>
     have e:jE x p n (d+1) v=v::jE x p n d (iD x p n v):=(by show(if _ then _ else _)=_; rw[d_ hv]);have c:=h hv;have i := @rZ d (iD x p n v) c;have g:0<(jE x p n d (iD x p n v)).length->(jE x p n d (iD x p n v)).getD 0 0=iD x p n v:=fun a=>by
      cases d with
      | zero=>exact M_ a (z_ _)
      | succ d =>
        unfold jE at a ⊢;split at a
        ·rename_i hq; rw[d_ hq]; rfl
        ·exact M_ a (z_ _)
     rw[e]at hk ⊢;rw[List.length_cons]at hk ⊢
     cases k with
     | zero =>
       rw[List.getD_cons_zero,List.getD_cons_succ];refine⟨hv,fun b=>g (by omega),fun b => ?_⟩
       cases hq:dR x n (iD x p n v)with
       | false=>rfl
       | true =>
         obtain⟨j,_,_,f⟩:=Ho c hq;rw[f,List.length_cons]at b; omega
     | succ k =>
       rw[List.getD_cons_succ,List.getD_cons_succ];have:=i k (by omega);exact⟨this.1,fun b=>this.2.1 (by omega),fun b=>this.2.2 (by omega)⟩
end
section
variable {T:dN} {id pa k v:Int} {i j aq:Nat} {pl:List Int}
theorem Za.get(h:Za T.x v T.n aq)(d:T.has v=true):0<aq/\aq-1<T.n/\T.x (aq-1)=v:=by
 rcases h with ⟨a,b⟩|⟨a,b,h3⟩
 ·obtain⟨q,c,e⟩:=gT d;exact M_ e (b q c)
 exact⟨a,by omega,h3⟩
theorem dN.NY(h:T.ok)(e:pl=T.path v){q:Nat}(a:q<pl.length):T.has (pl.getD q 0)=true:=by
 subst e; exact(rZ (h.stop v) q a).1
theorem dN.Zb(h:T.ok)(e:pl=T.path v){q:Nat}(b:q+1<pl.length)(ha:aq-1<T.n)(hx:T.x (aq-1)=pl.getD q 0):T.p (aq-1)=pl.getD (q+1) 0:=by
 subst e;have:=(rZ (h.stop v) q (Nat.lt_of_succ_lt b)).2.1 b;have a:=dN.LA h ha;rw[hx]at a;exact a.symm.trans this.symm
theorem dN.Zc(h:T.ok)(e:pl=T.path v){q:Nat}(c:q+1=pl.length)(ha:aq-1<T.n)(hx:T.x (aq-1)=pl.getD q 0):T.p (aq-1)=0:=by
 subst e;have a:=(rZ (h.stop v) q (Nat.lt_of_succ_le (Nat.le_of_eq c))).2.2 c;have b:=dN.LA h ha;rw[hx]at b;rw[show iD T.x T.p T.n ((jE T.x T.p T.n 4 v).getD q 0)=T.p (aq-1)from b]at a
 rcases h.par _ ha with h4|⟨i,hi,h4⟩
 ·exact h4
 rw[<- h4,jN (by omega) rfl]at a; cases a
theorem dN.aek(d : ¬ id=0)(e:pa=0\/T.has pa=true):T.err id pa=if T.has id=true then 14 else if 32<=T.n\/4<=(T.path pa).length then 6 else 0:=by
 show rH T.x T.p T.n id pa=_;unfold rH;rw[b_ d];have c : ¬ (¬ pa=0/\dR T.x T.n pa=false):=by
  rintro ⟨b,a⟩
  rcases e with h3|h3
  ·exact b h3
  ·rw[show dR T.x T.n pa=T.has pa from rfl,h3]at a; cases a
 rw[b_ c]; rfl
end
def Apt(v1 v2:Value):Prop := ∀ g,v1.ownBlock=some g->v2.ownBlock≠some g
section
variable {w w':World} {v v2:Value} {B s n g m c:Nat} {E:TypeId} {x:Nat->Value}
theorem Apt.symm(h:Apt v v2):Apt v2 v:=fun g a b=>h g b a
theorem Apt.nil:Apt (.slice none 0 0) v:=fun g h=>nomatch h
theorem Apt.app(h:Apt v v2)(b:Fx.Own w B E s v n x)(d:v2.ownBlock=some g\/g=w.heap.size):Apt v (bO g m c):=fun q a e=>by
 have e:some g=some q:=e;obtain rfl:=C_ e
 rcases d with h1|h1
 ·exact h _ a h1
 ·have:=(b.ge a).2; omega
end
end Rt
namespace Rt
def GH(n:Nat):Nat->List Nat
 | 0 => []
 | j+1=>GH n j ++ [n-1-j]
theorem PO(n:Nat) : ∀ j,(GH n j).length=j
 | 0=>rfl
 | j+1=>by unfold GH; rw[E_,PO n j]; rfl
def MJ(T:dN)(l:List Int)(a:List Nat):dN:=a.foldl (fun U x=>U.add (l.getD x 0) (T.par (l.getD x 0))) dN.zero
theorem F8(T:dN)(l:List Int)(a:List Nat)(x:Nat):MJ T l (a ++ [x])=(MJ T l a).add (l.getD x 0) (T.par (l.getD x 0)):=by unfold MJ; rw[List.foldl_append]; rfl
def lK(l ll:List Int)(U:dN):Nat->dN
 | 0=>U
 | i+1=>if ll.getD i 0∈l then lK l ll U i else(lK l ll U i).add (ll.getD i 0) 0
section
variable {T U:dN} {l ll:List Int} {id pa k v:Int} {i j n:Nat}
theorem has_lt(t:U.ok)(h : ∀ k,U.has k=true->T.has k=true)(hx:T.has v=true)(o:U.has v=false):U.n<T.n:=by
 obtain⟨i,u,rfl⟩:=gT hx;have r : ∀ j,∃ q,j<U.n->q<T.n/\T.x q=U.x j:=fun j=>by
  by_cases g:j<U.n
  ·obtain⟨q,c,d⟩:=gT (h _ (dN.Ar g));exact⟨q,fun _=>⟨c,d⟩⟩
  ·exact⟨0,fun h=>M_ h g⟩
 obtain⟨f,l⟩:=Classical.axiomOfChoice r;have:=CZ T.n (U.n+1) (fun j=>if j=U.n then i else f j) (fun j g=>by
  show(if j=U.n then i else f j)<T.n;split
  ·exact u
  ·exact(l j (by omega)).1) (fun a b w y e=>by
  have p : ∀ j,j<U.n->f j≠i:=fun j g e=>by
   have c:=(l j g).2;rw[e]at c;rw[c,dN.Ar g]at o; cases o
  have e:=e;by_cases c:a=U.n
  ·by_cases d:b=U.n
   ·omega
   ·rw[d_ c,b_ d]at e; exact M_ e.symm (p b (by omega))
  ·by_cases d:b=U.n
   ·rw[b_ c,d_ d]at e; exact M_ e (p a (by omega))
   ·rw[b_ c,b_ d]at e;have m:=(l a (by omega)).2;have s:=(l b (by omega)).2;rw[e]at m;exact t.inj a b (by omega) (by omega) (m.symm.trans s))
 omega
theorem VP(p:U.ok)(h : ∀ k,U.has k=true->T.has k=true):U.n<=T.n:=by
 have l : ∀ j,∃ q,j<U.n->q<T.n/\T.x q=U.x j:=fun j=>by
  by_cases i:j<U.n
  ·obtain⟨q,m,o⟩:=gT (h _ (dN.Ar i));exact⟨q,fun _=>⟨m,o⟩⟩
  ·exact⟨0,fun h=>M_ h i⟩
 obtain⟨f,c⟩:=Classical.axiomOfChoice l;exact CZ T.n U.n f (fun q r=>(c q r).1) fun a b d g e=>p.inj a b d g (by rw[<- (c a d).2,<- (c b g).2,e])
structure BwI(T U:dN)(l:List Int)(j:Nat):Prop where
 ok:U.ok
 sub:vO U T
 has : ∀ x,l.length-j<=x->x<l.length->U.has (l.getD x 0)=true
 only : ∀ k,U.has k=true->k∈l
theorem VQ(a:T.ok)(hi:i<T.n):0<=T.x i/\T.x i<=18446744073709551615:=by have:=a.pos i hi; omega
theorem Zd(U:dN)(id pa k:Int)(h:(U.add id pa).has k=true):U.has k=true\/k=id:=by
 unfold dN.add at h;split at h
 ·rw[dN.jH,Bool.or_eq_true]at h
  rcases h with h|h
  ·exact .inl h
  exact .inr (h_ h).symm
 exact .inl h
theorem VR(a:T.ok)(e:l=T.path pa) : ∀ j,j<=l.length->BwI T (MJ T l (GH l.length j)) l j
 | 0,_=>⟨Cb.zero _ _,vO.zero T,fun x g c=>by omega,fun k h=>nomatch h⟩
 | j+1,hj=>by
   have d:=VR a e j (by omega);have m:l.length-1-j<l.length:=(by omega);have t:=dN.NY a e m;obtain⟨i,f,b⟩:=gT t;have n:T.par (l.getD (l.length-1-j) 0)=T.p i:=(by rw[<- b]; exact dN.LA a f);show BwI T (MJ T l (GH l.length j ++ [l.length-1-j])) l (j+1);rw[F8,n,<- b];have s:T.p i=0\/(MJ T l (GH l.length j)).has (T.p i)=true:=by
    by_cases r:l.length-1-j+1=l.length
    ·exact .inl (dN.Zc (aq:=i+1) a e r f b)
    ·have c:=dN.Zb (aq:=i+1) a e (show l.length-1-j+1<l.length by omega) f b;have c:T.p i=l.getD (l.length-1-j+1) 0:=c;right;rw[c];exact d.has _ (by omega) (by omega)
   obtain⟨u,v,w⟩:=vO.add a d.ok d.sub f s;refine⟨dN.Jj d.ok (VQ a f),u,fun x g c => ?_,fun k q => ?_⟩
   ·by_cases o:x=l.length-1-j
    ·rw[o,<- b]; exact v
    ·exact w _ (d.has x (by omega) c)
   ·rcases Zd _ _ _ _ q with g|rfl
    ·exact d.only k g
    ·rw[b];rw[r_,o_ m]; exact R_ m
structure RtI(T U:dN)(l ll:List Int)(i:Nat):Prop where
 ok:U.ok
 sub : ∀ k,U.has k=true->T.has k=true
 par : ∀ k,k∈l->U.has k=true/\U.par k=T.par k
 has : ∀ q,q<i->q<ll.length->U.has (ll.getD q 0)=true
 only : ∀ k,U.has k=true->k∈l \/ ∃ q,q<i/\q<ll.length/\ll.getD q 0=k
theorem ael(d:ll.Pairwise (· < ·)){a b:Nat}(ha:a<ll.length)(c:b<ll.length)(e:ll.getD a 0=ll.getD b 0):a=b:=by
 rw[r_,r_,o_ ha,o_ c]at e;have e:ll[a]=ll[b]:=e
 rcases Nat.lt_trichotomy a b with h1|h1|h1
 ·have:=List.pairwise_iff_getElem.1 d a b ha c h1; omega
 ·exact h1
 have:=List.pairwise_iff_getElem.1 d b a c ha h1; omega
theorem VT(d:T.ok)(g:ll.Pairwise (· < ·) /\ ∀ k,k∈ll<->T.has k=true)(n:RtI T U l ll 0) : ∀ i,i<=ll.length->RtI T (lK l ll U i) l ll i
 | 0,_=>n
 | i+1,hi=>by
   have b:=VT d g n i (by omega);unfold lK;have s:ll.getD i 0∈ll:=(by rw[r_,o_ (by omega)]; exact R_ _);have f:=(g.2 _).1 s;by_cases c:ll.getD i 0∈l
   ·rw[d_ c];refine⟨b.ok,b.sub,b.par,fun q v h => ?_,fun k a => ?_⟩
    ·by_cases e:q=i
     ·rw[e]; exact(b.par _ c).1
     ·exact b.has q (by omega) h
    ·rcases b.only k a with h1|⟨q,h1,h2,h3⟩
     ·exact .inl h1
     ·exact .inr ⟨q,by omega,h2,h3⟩
   ·rw[b_ c];obtain⟨z,r,m⟩:=gT f;have o:=VQ d r;rw[m]at o;have u:=d.pos z r;rw[m]at u;have p:(lK l ll U i).has (ll.getD i 0)=false:=by
     cases hh:(lK l ll U i).has (ll.getD i 0)with
     | false=>rfl
     | true =>
       rcases b.only _ hh with h1|⟨q,h1,h2,h3⟩
       ·exact M_ h1 c
       ·have:=ael g.1 h2 (by omega) h3; omega
    have w:=has_lt b.ok b.sub f p;have x:=d.small;have j:(lK l ll U i).err (ll.getD i 0) 0=0:=by
     rw[dN.aek (by omega) (.inl rfl),b_ (by rw[p]; decide),b_];rw[dN.aej b.ok];rintro (h1|h1)
     ·omega
     ·simp at h1
    rw[dN.EU j];have t : ∀ k,k∈l -> ¬ ll.getD i 0=k:=fun k a e=>c (e ▸ a);refine⟨by have:=dN.Jj (pa:=0) b.ok o; rwa [dN.EU j]at this,fun k a => ?_,fun k a => ?_,fun q v h => ?_,fun k a => ?_⟩
    ·rw[dN.jH,Bool.or_eq_true]at a
     rcases a with a|a
     ·exact b.sub k a
     ·rw[<- h_ a]; exact f
    ·rw[dN.jH,dN.um,b_ (t k a),(b.par k a).1,Bool.true_or];exact⟨rfl,(b.par k a).2⟩
    ·rw[dN.jH];by_cases e:q=i
     ·rw[e,f_ rfl,Bool.or_true]
     ·rw[b.has q (by omega) h,Bool.true_or]
    ·rw[dN.jH,Bool.or_eq_true]at a
     rcases a with a|a
     ·rcases b.only k a with h1|⟨q,h1,h2,h3⟩
      ·exact .inl h1
      ·exact .inr ⟨q,by omega,h2,h3⟩
     ·exact .inr ⟨i,by omega,by omega,h_ a⟩
theorem Iq(c : ∀ k,U.has k=T.has k) : ∀(d:Nat) (k:Int),(∀ q,q∈jE T.x T.p T.n d k->U.par q=T.par q)->jE U.x U.p U.n d k=jE T.x T.p T.n d k
 | 0,_,_=>rfl
 | d+1,k,h=>by
   have a:dR U.x U.n k=dR T.x T.n k:=c k
   cases hk:dR T.x T.n k with
   | false=>rw[kZ hk,kZ (a.trans hk)]
   | true =>
     have b:jE T.x T.p T.n (d+1) k=k::jE T.x T.p T.n d (iD T.x T.p T.n k):=(by show(if _ then _ else _)=_; rw[d_ hk]);have e:jE U.x U.p U.n (d+1) k=k::jE U.x U.p U.n d (iD U.x U.p U.n k):=(by show(if _ then _ else _)=_; rw[d_ (a.trans hk)]);rw[b]at h;have f:iD U.x U.p U.n k=iD T.x T.p T.n k:=h k (List.mem_cons_self ..);rw[b,e,f,Iq c d _ fun q g=>h q (List.mem_cons_of_mem _ g)]
theorem Ze(i:T.ok)(e:l=T.path pa)(m:ll.Pairwise (· < ·) /\ ∀ k,k∈ll<->T.has k=true):(lK l ll (MJ T l (GH l.length l.length)) ll.length).err id pa=T.err id pa:=by
 have d:=VR i e l.length (A_ _);have t : ∀ k,k∈l -> ∃ x,x<l.length/\l.getD x 0=k:=fun k a=>by
  obtain⟨x,h,r⟩:=List.getElem_of_mem a;exact⟨x,h,by rw[r_,o_ h]; exact r⟩
 have s:RtI T (MJ T l (GH l.length l.length)) l ll 0:=⟨d.ok,d.sub.has,fun k a=>by
  obtain⟨x,h,rfl⟩:=t k a;have:=d.has x (by omega) h;exact⟨this,d.sub.par _ this⟩,fun q b=>by omega,fun k a => .inl (d.only k a)⟩
 have c:=VT i m s ll.length (A_ _);generalize lK l ll (MJ T l (GH l.length l.length)) ll.length=V at c;have g : ∀ k,V.has k=T.has k:=fun k=>by
  cases f:T.has k with
  | false =>
    cases j:V.has k with
    | false=>rfl
    | true=>rw[c.sub k j]at f; cases f
  | true =>
    obtain⟨q,b,o⟩:=List.getElem_of_mem ((m.2 k).2 f);have:=c.has q b b;rw[r_,o_ b]at this;rw[<- o]; exact this
 have u:V.n=T.n:=by
  have f:=VP c.ok c.sub;have j:=VP i (fun k a=>by rw[g]; exact a : ∀ k,T.has k=true->V.has k=true);omega
 have v:=Iq g 4 pa fun q b=>(c.par q (by rw[e]; exact b)).2;show rH V.x V.p V.n id pa=rH T.x T.p T.n id pa;unfold rH;have w:=v;rw[show dR V.x V.n id=dR T.x T.n id from g id,show dR V.x V.n pa=dR T.x T.n pa from g pa,w,u]
end
end Rt
namespace Fx
abbrev zf:=Exit->(Nat->Value)->List Deferred->World->Prop
def VU(n:Nat)(Q:zf):Exit->Act->World->Prop:=fun e a w => ∃ f,Bf a n f/\Q e f a.defers w
def W0(ro:Option Nat)(m:Nat)(P:Program)(n:Nat)(c:Code)(Q:zf)(f:Nat->Value)(ds:List Deferred)(w:World):Prop := ∀ a,Bf a n f->a.defers=ds->c.wpIn (FR ro) m P (VU n Q) a w
def VW(ro:Option Nat)(m:Nat)(P:Program)(n:Nat)(y:Code)(Q:zf):zf:=fun e f ds w=>match e with | .normal=>W0 ro m P n y Q f ds w|e=>Q e f ds w
def BR(id:Nat)(Q:zf):zf:=fun e f ds w=>match e with | .exit id'=>if id'=id then Q .normal f ds w else Q (.exit id') f ds w|e=>Q e f ds w
def NZ(I:(Nat->Value)->World->Prop)(b:(Nat->Value)->World->Nat)(k:Nat)(ds:List Deferred)(Q:zf):zf:=fun e f a w=>match e with | .normal=>a=ds/\I f w/\b f w<k|e=>Q e f a w
section
variable {ro:Option Nat} {m:Nat} {ds:List Deferred} {P:Program} {n:Nat} {Q:zf} {f:Nat->Value} {w:World}
theorem W0.seq{x y:Code}(h:W0 ro m P n x (VW ro m P n y Q) f ds w):W0 ro m P n (.seq x y) Q f ds w:=fun a i j =>
 wpIn_seq (wpIn_mono (h a i j) fun e d w' b=>by
  obtain⟨g,c,b⟩:=b
  cases e <;> first|exact b d c rfl|exact⟨g,c,b⟩)
theorem W0.skip(h:Q .normal f ds w):W0 ro m P n .skip Q f ds w:=fun _ a b=>wpIn_skip ⟨f,a,b ▸ h⟩
theorem W0.ret(h:Q .ret f ds w):W0 ro m P n .ret Q f ds w:=fun _ a b=>wpIn_ret ⟨f,a,b ▸ h⟩
theorem W0.exit{id:Nat}(h:Q (.exit id) f ds w):W0 ro m P n (.exit id) Q f ds w:=fun _ a b=>wpIn_exit ⟨f,a,b ▸ h⟩
theorem W0.block{id:Nat}{c:Code}(h:W0 ro m P n c (BR id Q) f ds w):W0 ro m P n (.block id c) Q f ds w:=fun a i j =>
 wpIn_block (wpIn_mono (h a i j) fun e k w' b=>by
  obtain⟨d,g,b⟩:=b
  cases e <;> first
   | exact⟨d,g,b⟩
   | (simp only[BR]at b; simp only[Exit.inBlock]; split at b <;> rename_i hid <;> simp only[hid,if_true,if_false] <;> exact⟨d,g,b⟩))
theorem W0.cond{c:Operand}{x y:Code}{b:Bool}(h:ev f c = .bool b)(j:b=true->W0 ro m P n x Q f ds w)(i:b=false->W0 ro m P n y Q f ds w):W0 ro m P n (.cond c x y) Q f ds w:=fun a d g =>
 wpIn_cond_split (t:=b) (by rw[d.ev]; exact h) (fun e=>j e a d g) (fun e=>i e a d g)
theorem W0.loop{c:Code}(I:(Nat->Value)->World->Prop)(k:(Nat->Value)->World->Nat)(r:I f w)(hr : ∀ f w,I f w->W0 ro m P n c (NZ I k (k f w) ds Q) f ds w):W0 ro m P n (.loop c) Q f ds w:=fun a s h =>
 wpIn_loop (fun a w => ∃ f,Bf a n f/\a.defers=ds/\I f w) (fun a w=>k (fun i=>a.tmps.getD i undef) w) ⟨f,s,h,r⟩ (fun a w g=>by
  obtain⟨f,l,h,g⟩:=g;have e:=funext l.get;refine wpIn_mono (hr f w g a l h)<|fun p o w' b => ?_;obtain⟨d,j,b⟩:=b
  cases p <;> first
   | exact⟨d,j,b⟩
   | (have q:=funext j.get
      exact⟨⟨d,j,b.1,b.2.1⟩,by rw[e,q]; exact b.2.2⟩))
theorem W0.list{id:Nat}{ops:List Oper}(h:L P n ops.toArray (fun e f w=>Q e f ds w) ops f w)(k:ops.all kr=true:=by rfl):W0 ro m P n (.region id ops.toArray false) Q f ds w:=fun a i j =>
 Hl i h k fun e l w' ⟨b,c,d,g⟩=>⟨b,c,by rw[d,j]; exact g⟩
theorem ru{y:Code}(h:W0 ro m P n y Q f ds w):VW ro m P n y Q .normal f ds w:=h
theorem ahT{id:Nat}{y:Code}(h:Q (.exit id) f ds w):VW ro m P n y Q (.exit id) f ds w:=h
theorem LC{id:Nat}(h:Q .normal f ds w):BR id Q .normal f ds w:=h
theorem ahU{id:Nat}(h:Q .normal f ds w):BR id Q (.exit id) f ds w:=by simp only[BR,if_true]; exact h
theorem aoT{I:(Nat->Value)->World->Prop}{a:(Nat->Value)->World->Nat}{k id:Nat}(h:Q (.exit id) f ds w):NZ I a k ds Q (.exit id) f ds w:=h
theorem ahV{I:(Nat->Value)->World->Prop}{a:(Nat->Value)->World->Nat}{k:Nat}(h:I f w)(b:a f w<k):NZ I a k ds Q .normal f ds w:=⟨rfl,h,b⟩
def abg(P:Program)(m:Nat)(b:Func)(R:Ending->World->Prop):zf:=fun e f ds w => ∀ a,Bf a b.ntmps f->a.defers=ds->bodyPostM (FR none) m P b R e a w
theorem aem{g:FuncId}{b:Func}{c:Code}{args:Array Value}{R:Ending->World->Prop}(m:Nat)(k:P.funcs[g]? = some b)(j:b.body=some c)(f:b.ntmps=n)(ha:Nat.ble args.size n=true)(h:W0 none m P n c (abg P m b R) (start args) [] w):Calls P g args w R:=by
 have q:args.size<=n:=Nat.le_of_ble_eq_true ha;refine(callsIn_wide (n:=m)).1 (callsIn_of_wp_marks (F:=FR none) k j trivial ?_ rfl);refine wpIn_mono (h _ ⟨?_,?_⟩ rfl) fun e a w' ⟨p,l,o⟩=>o a (by rw[f]; exact l) rfl
 ·simp[f]; omega
 intro i;simp only[start,Array.getD_eq_getD_getElem?,Array.getElem?_append,Array.getElem?_replicate];by_cases d:i<args.size
 ·simp[d]
 rw[b_ d];split
 ·rw[Array.getElem?_eq_none (by omega)]; rfl
 rw[Array.getElem?_eq_none (by omega)]
theorem leaveD{b:Func}{R:Ending->World->Prop}{D:Nat}{v:Value}(c:w.heap[D]? = some (.deferred (some [])))(h:(Bl b f).run P (w.putObj D (.deferred none)) = .ok v (w.putObj D (.deferred none)))(d:R (.returned v) (w.putObj D (.deferred none))) :
 abg P m b R .ret f [{ target := .collected D,args := #[] }] w:=fun a e g=>leave1 e g c h d
variable {ops:List Oper} {cs:List Nat} {S:World->World->Prop}
theorem R.ahW(T:lX n ops=true)(hsel:Region.noSelect ops.toArray=true)(aa:ops.all kr=true)(hS : ∀ w,S w w)(hT : ∀ a b c,S a b->S b c->S a c){fO:List (Nat × Nat × List Nat)} : ∀(k:Nat) (u:List Nat) (p:Array Bool) (a:Act) (f:Nat->Value) (w:World),u.length=k->p.size=ops.length->J4 ops.toArray .any p ->
 (∀ i,i∈u<->i<ops.length/\p.getD i false=false)->u.Nodup->(u.Pairwise fun i j=>qF ops cs fO i j=true)->Bf a n f->a.defers=ds->R P n ops cs S (fun e f w=>Q e f ds w) u f w->wpAnyIn (FR ro) m P .any ops.toArray (VU n Q) k p a w:=by
 intro k
 induction k with
 | zero =>
   intro u p a f w F ac J x G H A L h;have:u = []:=List.eq_nil_of_length_eq_zero F;subst this;refine⟨?_,f,A,by rw[L]; exact h⟩;rw[List.eq_nil_iff_forall_not_mem];intro j E;obtain⟨z,s,_,_⟩:=fM E;exact M_ ((x j).2 ⟨s,z⟩) (by simp)
 | succ k ih =>
   intro u p a f w F ac J x G H A L h;refine⟨fun hr => ?_,fun j E => ?_⟩
   ·cases u with
    | nil=>simp at F
    | cons r alv =>
      exfalso;obtain⟨z,s⟩:=(x r).1 (List.mem_cons_self ..);have:r∈Region.ready .any ops.toArray p:=by
       refine mem_ready.2 ⟨getD_in (by omega) s,opAt ops r,by unfold opAt; rw[List.getElem?_toArray,r_,o_ z]; rfl,fun e M C => ?_⟩;have B:dJ (opAt ops r) e.on=true:=by
        unfold dJ; rw[Array.any_eq_true']; exact⟨e,M,by rw[C,Nat.beq_refl]; rfl⟩
       have hlt:=(fE T z).2.2.2 e.on B
       cases hle:p.getD e.on false with
       | true=>rfl
       | false =>
         have g:=(x e.on).2 ⟨by omega,hle⟩
         rcases List.mem_cons.1 g with e1|e1
         ·omega
         ·have o:=(List.pairwise_cons.1 H).1 _ e1;unfold qF at o;rw[B]at o; simp at o
      rw[hr]at this; simp at this
   ·obtain⟨z,s,W,X⟩:=fM E;have hjm:=(x j).2 ⟨s,z⟩;obtain⟨t,y,rfl⟩:=List.append_of_mem hjm;have C:=bubble (P:=P) (cs:=cs) (S:=S) (Q:=fun e f w=>Q e f ds w) T hsel hS hT s (l:=y) t (fun i N=>by
     obtain⟨h5,Y⟩:=(x i).1 (List.mem_append_left _ N);have O:i≠j:=fun e=>by
      subst e;exact(List.nodup_append.1 G).2.2 i N i (List.mem_cons_self ..) rfl
     have o:=(List.pairwise_append.1 H).2.2 i N j (List.mem_cons_self ..);unfold qF at o;rw[T_,Bool.or_eq_true]at o;have abP:dJ (opAt ops j) i=false:=by
      cases hq:dJ (opAt ops j) i with
      | false=>rfl
      | true=>have:=X i hq; rw[Y]at this; cases this
     refine⟨h5,O,abP,by simpa using o.1,?_⟩
     rcases o.2 with o|o
     ·rw[T_,Bool.or_eq_true]at o;refine⟨o.1,?_⟩
      rcases o.2 with q|q
      ·rw[Bool.or_eq_true]at q;exact q.elim (fun q => .inl (B_ q)) (fun q => .inr (.inl q))
      ·rw[T_]at q;exact .inr (.inr ⟨B_ q.1,B_ q.2⟩)
     ·exfalso;rw[List.any_eq_true]at o;obtain⟨c,_,Z⟩:=o;rw[T_,T_]at Z;obtain⟨m,g⟩:=jc Z.2
      cases m with
      | zero=>unfold reach at g; simp at g; exact O g.symm
      | succ m =>
        unfold reach at g;rw[Bool.or_eq_true]at g
        rcases g with g|g
        ·simp at g; exact O g.symm
        ·rw[W]at g;simp only at g;rw[Array.any_eq_true']at g;obtain⟨e,M,g⟩:=g;rw[T_]at g;have B:dJ (opAt ops j) e.on=true:=by
          unfold dJ; rw[Array.any_eq_true']; exact⟨e,M,by rw[g.1,Nat.beq_refl]; rfl⟩
         have:=J.reach _ _ g.2 (X e.on B);rw[Y]at this; cases this) f w h
    have hperm:(t++y).length=k:=(by simp at F ⊢; omega);have hnd':(t++y).Nodup:=by
     refine G.sublist ?_;exact List.Sublist.append_left (List.sublist_cons_self ..) t
    have abQ:=H.sublist (List.Sublist.append_left (List.sublist_cons_self ..) t);have hmem' : ∀ i,i∈t++y<->i<ops.length/\(p.setIfInBounds j true).getD i false=false:=fun i=>by
     by_cases e:j=i
     ·subst e;rw[set_self (by omega)];constructor
      ·intro g;exfalso;have D:=List.nodup_append.1 G
       rcases List.mem_append.1 g with q|q
       ·exact D.2.2 j q j (List.mem_cons_self ..) rfl
       ·exact(List.nodup_cons.1 D.2.1).1 q
      ·intro q; cases q.2
     ·rw[kI e,<- x i];simp only[List.mem_append,List.mem_cons];constructor
      ·rintro (q|q)
       ·exact .inl q
       ·exact .inr (.inr q)
      ·rintro (q|q|q)
       ·exact .inl q
       ·exact M_ q.symm e
       ·exact .inr q
    have U : ∀(v:Value) (w':World),R P n ops cs S (fun e f w=>Q e f ds w) (t++y) (put f (opAt ops j).dst v) w'->wpAnyIn (FR ro) m P .any ops.toArray (VU n Q) k (p.setIfInBounds j true) (a.put (opAt ops j).dst v) w':=fun v w' hR =>
     ih (t++y) _ _ _ w' hperm (by simp[ac]) (J.set E) hmem' hnd' abQ (A.put (by
      cases D:(opAt ops j).dst with
      | none=>rfl
      | some d=>have:=((fE T s).1 d D).2; simpa [inn,Nat.blt_eq] using this) v) (by rw[put_defers]; exact L) hR
    have ab:kr (opAt ops j)=true:=by
     rw[List.all_eq_true]at aa;refine aa _ ?_;unfold opAt;rw[r_,o_ s];exact R_ s
    unfold wpOpIn;rw[W];simp only;rw[A.yf];unfold R at C
    rcases C with ⟨I,V⟩|⟨I,⟨V,v,q3,q4⟩|⟨V,q3⟩⟩
    ·rw[b_ (by rw[I]; decide)]; exact⟨fun _ _=>trivial,U _ _ V⟩
    ·rw[d_ I];refine Out.wpIn (K:=fun v' w'=>v'=v/\w'=w) A ab (.inl ⟨v,w,q3 w (.inr (.inr rfl)),rfl,rfl⟩) ?_;rintro v' w' ⟨rfl,rfl⟩;exact U _ _ q4
    ·rw[d_ I];exact Out.wpIn A ab q3 fun v w' hk=>U v w' hk.2
theorem W0.ahX{f:Nat->Value}{w:World}{id:Nat}(l:List Nat)(cs:List Nat)(S:World->World->Prop)(o : ∀ w,S w w)(p : ∀ a b c,S a b->S b c->S a c)(fO:List (Nat × Nat × List Nat))(x:P.follows .mixedOrders=true)(z:lX n ops=true)(B:Region.noSelect ops.toArray=true)(g:Aw ops l=true)(A:wM ops cs fO l=true)
 (h : ∀ j,Below w.heap.size w j->j.heap.size=w.heap.size->R P n ops cs S (fun e f w=>Q e f ds w) l f j) (y:ops.all kr=true:=by rfl):W0 ro m P n (.region id ops.toArray true) Q f ds w:=fun a q r=>by
 refine wpIn_region_any x ?_;unfold Aw at g;rw[T_,T_,T_,List.all_eq_true,List.all_eq_true]at g;obtain⟨⟨⟨C,D⟩,p3⟩,p4⟩:=g;have v:=B_ C;have E:=h_ p3;have:=R.ahW (ro:=ro) (m:=m) (ds:=ds) (P:=P) (Q:=Q) (fO:=fO) z B y o p ops.length l (Array.replicate ops.length false) a f { w with drawn:=w.drawn+1 } v (by simp) (J4.start _ _ _) (fun i=>by
  have s : ∀ i,(Array.replicate ops.length false).getD i false=false:=fun i=>getD_replicate_false _ _;constructor
  ·intro d; exact⟨by simpa [Nat.blt_eq] using D i d,s i⟩
  ·intro d;obtain⟨k,t,u⟩:=List.any_eq_true.1 (p4 i (by simpa using d.1));rw[B_ u]; exact t) E (wN A) q r (h { w with drawn:=w.drawn+1 } (Below.refl _ _).drew rfl)
 simpa using this
end
end Fx
namespace Rgx
def PS{b:Type}(J:b->World->Prop):Prop := ∀ s W a,J s W->W.grownBy a none->J s a
def aen{d:Type}(F:Fence)(n:Nat)(P:Program)(g:Nat)(lb:Array Value)(j:d->Array Value)(i:World->World->Prop)(S:List d->Prop)(N:Nat)(h:World->Prop):Prop :=
 ∀(l:Nat) (J:List d->World->Prop) (W:World),h W->PS J ->
  (∀ c x b,J c b->c.length<N->YieldAt F (n-1) P l (j x) b fun e a=>e = .returned (.bool true)/\J (c ++ [x]) a/\i b a) ->
  J [] W ->
  CallsIn F n P g (#[.func (.yield l) #[] #[]]++lb) W fun e a=>(∃ v,e = .returned v) /\ ∃ f,S f/\J f a
def N7{c:Type}(B:Nat)(I:c->World->Prop):Prop :=
 ∀ s W a b,I s W->W.grownBy a b->(∀ r,b=some r->B<=r /\ ∃ o:Obj,W.heap[r]? = some o/\o.isCells=false)->I s a
variable {F:Fence} {n:Nat} {P:Program}
theorem N7.putObj{a:Type}{B:Nat}{I:a->World->Prop}(h:N7 B I){s:a}{W:World}{l:Nat}{o:Obj}(o':Obj)(f:I s W)(b:B<=l)(c:W.heap[l]? = some o)(d:o.isCells=false):I s (W.putObj l o') :=
 h s W _ (some l) f (grownBy_putObj' W l o') (fun r e=>by cases e; exact⟨b,o,c,d⟩)
theorem N7.alloc{a:Type}{B:Nat}{I:a->World->Prop}(h:N7 B I){s:a}{W:World}(o:Obj)(b:I s W):I s (W.alloc o) :=
 h s W _ none b (World.grownBy_alloc W o none) (fun r e=>by cases e)
def KeepsFrom(B:Nat)(W a:World):Prop:=W.heap.size<=a.heap.size /\ ∀ k,B<=k->k<W.heap.size->a.heap[k]? = W.heap[k]?
def ahY{a:Type}(B:Nat)(b:World->World->Prop)(I:List a->World->Prop)(c:List a)(W:World):Exit->Act->World->Prop
 | .normal,_,W'=>KeepsFrom B W W'/\b W W'/\I c W'
 | _,_,_=>False
theorem Ez{α:Type}{g:Operand}{ps:Array Tmp}{assign body:Code}{Q:Exit->Act->World->Prop}{a:Act}{w:World}
 (hro:F.round=none) (h1:1<=n) {gf:Nat} {lb:Array Value} (hg:a.eval g = .func (.func gf) #[] lb) (hFg:F.fn gf) (eg : ∀ args w,(callFunc gf args).run P w = .ok (.enter gf args) w)
 {encs:α->Array Value} {Kp:World->World->Prop} {S:List α->Prop} {N:Nat} {Ip:World->Prop} (hseq:aen F (n-1) P gf lb encs Kp S N Ip)
 (hIp:Ip w) (M7 : ∀ W o,w.heap.size<=W.heap.size->Ip W->Ip (W.alloc o))
 (hKt : ∀ {A B C:World},Kp A B->Kp B C->Kp A C) (hKb : ∀(W:World) (l:Nat) (o o':Obj),w.heap.size<=l->W.heap[l]? = some o->o.isCells=false->Kp W (W.putObj l o')) (hps : ∀ x,(encs x).size=ps.size)
 (I:List α->World->Prop) (hI:N7 w.heap.size I) (h0:I [] w) (A₁:α->Act->Prop)
 (hassign : ∀(l:Nat) (x:α) (W:World),assign.wpIn (F.inRound l) (n-1-1) P (Exit.then (fun a' W'=>A₁ x a'/\W'=W) (fun _ _ _=>False)) { tmps:=(ps.zip (encs x)).foldl (fun t (p,v)=>t.setIfInBounds p v) a.tmps,defers := [] } W)
 (hbody : ∀(l:Nat) (pre:List α) (x:α) (W:World) (a':Act),A₁ x a'->I pre W->pre.length<N->w.heap.size<=W.heap.size->body.wpIn (F.inRound l) (n-1-1) P (ahY w.heap.size Kp I (pre ++ [x]) W) a' W)
 (hdone : ∀(D:Nat) (xs:List α) (W:World),w.heap.size<=D->S xs->I xs W->W.heap[D]? = some (.deferred (some []))->Q .normal { a with defers := { target := .collected D,args := #[] }::a.defers } W) :
 (Code.rangeFunc g ps assign body).wpIn F n P Q a w:=by
 refine wpIn_rangeFunc ?_;intro fn hfn;rw[hro];obtain⟨rec,hrec⟩ : ∃ rec:LoopState->Option Code->Loop,rec=fun st pe => { state:=st,pending:=pe,fn,tmps:=a.tmps,params:=ps,assign,body,defers:=w.heap.size }:=⟨_,rfl⟩;obtain⟨W1,hW1⟩ : ∃ W1,(w.alloc (.deferred (some []))).alloc (.loop (rec .ready none))=W1:=⟨_,rfl⟩;have hL1:W1.heap[w.heap.size+1]? = some (.loop (rec .ready none)):=by
  rw[<- hW1]; have:=World.alloc_heap_new (w.alloc (.deferred (some []))) (.loop (rec .ready none)); rwa [World.size_alloc]at this
 have hK1:W1.heap[w.heap.size]? = some (.deferred (some [])):=by
  rw[<- hW1]; exact(Below.heap_alloc _ _ _ (by simp)).trans (World.alloc_heap_new w _)
 have hI1:I [] W1:=by rw[<- hW1]; exact hI.alloc _ (hI.alloc _ h0)
 have hp1:Ip W1:=by rw[<- hW1]; exact M7 _ _ (by simp) (M7 _ _ (A_ _) hIp)
 refine⟨w.heap.size+1,[{ target := .collected w.heap.size,args := #[] }],W1,{ target := .fn (.func gf) lb,args := #[.func (.yield (w.heap.size+1)) #[] #[]] },W1,gf,
  #[.func (.yield (w.heap.size+1)) #[] #[]]++lb,W1,?_,?_,?_,?_,fun _=>h1,?_⟩
 ·rw[<- hW1,hrec]; exact run_enterLoop_outer _ _ _ _ _
 ·simp only[resolve,hg];simp[go_sem]
 ·intro f' hf'; simp[Target.leads]at hf'; subst hf'; exact hFg
 ·simp[invoke,go_sem,eg]
 refine(hseq (w.heap.size+1)
  (fun pre W=>I pre W/\W.heap[w.heap.size+1]? = some (.loop (rec .ready none))/\W.heap[w.heap.size]? = some (.deferred (some [])))
  W1 hp1
  (fun s A B hs hg'=>⟨hI s A B none hs.1 hg' (fun r e=>nomatch e),(hg'.block _ (t_.1 hs.2.1).1 (fun e=>nomatch e)).trans hs.2.1,(hg'.block _ (t_.1 hs.2.2).1 (fun e=>nomatch e)).trans hs.2.2⟩)
  ?_ ⟨hI1,hL1,hK1⟩).mono ?_
 ·-- one round
  rintro pre x W ⟨hi,hl,hk⟩ hlen;have hlt:=(t_.1 hl).1;have hy:=run_yield (P:=P) (args:=encs x) hl (by rw[hrec]; exact hps x);rw[hrec]at hy;refine⟨fn,_,assign,body,hy,roundIn_of_wpIn hfn (wpIn_mono (hassign _ x W) ?_)⟩;rintro e1 a1 w1 hq1
  cases e1 with
  | exit id=>exact hq1.elim
  | goto t=>exact hq1.elim
  | ret=>exact hq1.elim
  | panic ch=>exact hq1.elim
  | outgrown=>exact hq1.elim
  | normal =>
  obtain⟨hA1,ew⟩:=hq1;rw[ew];refine⟨_,run_beginRound hl (by rw[hrec]),?_⟩;have hl2:(W.putObj (w.heap.size+1) (.loop { rec .ready none with state := .busy })).heap[w.heap.size+1]? = some (.loop { rec .ready none with state := .busy }):=World.putObj_heap_same hlt;have hk2:(W.putObj (w.heap.size+1) (.loop { rec .ready none with state := .busy })).heap[w.heap.size]? = some (.deferred (some [])):=(World.putObj_heap_other (by omega)).trans hk;have hw2:Kp W (W.putObj (w.heap.size+1) (.loop { rec .ready none with state := .busy })):=hKb _ _ _ _ (by omega) hl rfl;refine wpIn_mono (hbody _ pre x _ a1 hA1 (hI.putObj _ hi (by omega) hl rfl) hlen (by simp; omega)) ?_;rintro e a3 W3 hp
  cases e with
  | normal =>
    obtain⟨hk3,hkp3,hi3⟩:=hp;have hl3:=(hk3.2 _ (by omega) (t_.1 hl2).1).trans hl2;have aoU:=(hk3.2 _ (by omega) (t_.1 hk2).1).trans hk2;have hr:=run_endRound (P:=P) none hl3;rw[hrec]at hr hl3;refine⟨_,_,hr,rfl,⟨hI.putObj _ hi3 (by omega) hl3 rfl,?_,(World.putObj_heap_other (by omega)).trans aoU⟩,hKt (hKt hw2 hkp3) (hKb _ _ _ _ (by omega) hl3 rfl)⟩;rw[hrec]; exact World.putObj_heap_same (t_.1 hl3).1
  | ret=>exact hp.elim
  | exit id=>exact hp.elim
  | goto t=>exact hp.elim
  | panic ch=>exact hp.elim
  | outgrown=>exact hp.elim
 rintro e W2 ⟨⟨v,rfl⟩,xs,hS,hi,hl,hk⟩;exact⟨none,_,by have:=run_endLoop (P:=P) hl (by rw[hrec]; simp); rw[hrec]at this; exact this,hdone _ xs _ (A_ _) hS (hI.putObj _ hi (by omega) hl rfl) ((World.putObj_heap_other (by omega)).trans hk)⟩
end Rgx
namespace Fx
theorem LD{a:Act}{n p q:Nat}{u v:Value}{f:Nat->Value}(h:Bf a n f)(c:p<n)(g:q<n):Bf { tmps:=(#[p,q].zip #[u,v]).foldl (fun t (p,v)=>t.setIfInBounds p v) a.tmps,defers := [] } n (put (put f (some p) u) (some q) v):=by
 have b:=(h.put (d:=some p) (by simpa [inn,Nat.blt_eq] using c) u).put (d:=some q) (by simpa [inn,Nat.blt_eq] using g) v;have e:(#[p,q].zip #[u,v]).foldl (fun t (p,v)=>t.setIfInBounds p v) a.tmps=((a.put (some p) u).put (some q) v).tmps:=by simp[Array.zip,Act.put]
 rw[e]; exact⟨b.size,b.get⟩
theorem W0.aeo{P:Program}{n m:Nat}{Q:zf}{f:Nat->Value}{ds:List Deferred}{w:World}{c:Type}{g:Operand}{p q:Tmp}{E G:Code}{gf:Nat}{lb:Array Value}(h1:1<=m)(hg:ev f g = .func (.func gf) #[] lb)(J : ∀ z w,(callFunc gf z).run P w = .ok (.enter gf z) w)
 {eu ev2:c->Value} {d:World->World->Prop} {S:List c->Prop} {N:Nat} {s:World->Prop} (hseq:Rgx.aen (FR none) (m-1) P gf lb (fun x => #[eu x,ev2 x]) d S N s)
 (R:s w) (T : ∀ W o,w.heap.size<=W.heap.size->s W->s (W.alloc o)) (V : ∀ {A B C:World},d A B->d B C->d A C) (U : ∀(W:World) (l:Nat) (o o':Obj),w.heap.size<=l->W.heap[l]? = some o->o.isCells=false->d W (W.putObj l o')) (hp:p<n) (hq:q<n)
 (I:List c->World->Prop) (O:Rgx.N7 w.heap.size I) (L:I [] w) (A:c->(Nat->Value)->Prop)
 (X : ∀(l:Nat) (x:c) (W:World),W0 (some l) (m-1-1) P n E (fun e b H h=>e = .normal/\H = []/\A x b/\h=W) (put (put f (some p) (eu x)) (some q) (ev2 x)) [] W)
 (Y : ∀(l:Nat) (r:List c) (x:c) (W:World) (b:Nat->Value),A x b->I r W->r.length<N->w.heap.size<=W.heap.size->W0 (some l) (m-1-1) P n G (fun e K H h=>e = .normal/\Rgx.KeepsFrom w.heap.size W h/\d W h/\I (r ++ [x]) h) b [] W)
 (aa : ∀(D:Nat) (u:List c) (W:World),w.heap.size<=D->S u->I u W->W.heap[D]? = some (.deferred (some []))->Q .normal f ({ target := .collected D,args := #[] }::ds) W):W0 none m P n (.rangeFunc g #[p,q] E G) Q f ds w:=fun a t Z=>by
 refine Rgx.Ez (F:=FR none) rfl h1 (by rw[t.ev]; exact hg) trivial J hseq R T V U (fun _=>rfl) I O L (fun x i => ∃ b,Bf i n b/\i.defers = []/\A x b) ?_ ?_ ?_
 ·intro l x W;refine wpIn_mono (X l x W _ (LD t hp hq) rfl) ?_;rintro e i w' ⟨b,y,rfl,j,k,rfl⟩;exact⟨⟨b,y,j,k⟩,rfl⟩
 ·rintro l r x W i ⟨b,y,j,k⟩ hi hl hs;refine wpIn_mono (Y l r x W b k hi hl hs i y j) ?_;rintro e a'' w' ⟨K,awC,rfl,v⟩;exact v
 ·intro D u W j k v M;refine⟨f,⟨t.size,t.get⟩,?_⟩;show Q .normal f (_::a.defers) W;rw[Z]; exact aa D u W j k v M
end Fx
end Go.Proofs.YtahbiajdgealnaaGreatDoor
namespace Go.Proofs.YtahbiajdgealnaaGreatDoor
open Go.RowKit Rt
open Fx (dO eZ bB dX Lv sN Ln Ws Wl Wr Sb Wk rV Rs Rn Wb Wx Wo gX nR vB aP Stp Mp iI nT dM bR bY bZ gJ gL)
namespace Rt
structure PU(sb:Nat)(v:Value)(W W':World):Prop where
 size:W.heap.size<=W'.heap.size
 b:W'.heap[sb]? = W.heap[sb]?
 g : ∀ g,v.ownBlock=some g->W'.heap[g]? = W.heap[g]?
theorem PU.trans{a:Nat}{v:Value}{A B C:World}(h:PU a v A B)(k:PU a v B C):PU a v A C:=⟨m_ h.size k.size,k.b.trans h.b,fun g c=>(k.g g c).trans (h.g g c)⟩
theorem PU.put{a B:Nat}{v:Value}(e:a<B)(c : ∀ g,v.ownBlock=some g->g<B)(W:World)(l:Nat)(o o':Obj)(d:B<=l):PU a v W (W.putObj l o'):=⟨by simp,World.putObj_heap_other (by omega),fun g b=>World.putObj_heap_other (by have:=c g b; omega)⟩
theorem PU.Cn{a b:Nat}{v:Value}{W c:World}(h:Stp b W c)(h1:a<W.heap.size)(f:a≠b)(e : ∀ g,v.ownBlock=some g->g<W.heap.size/\g≠b):PU a v W c:=⟨h.size,h.block a h1 f,fun g d=>h.block g (e g d).1 (e g d).2⟩
theorem aep{q n c s:Nat}{a:Option Addr}{x:Nat->Value}{W d:World}(l:nT W a n s x)(r:0<s)(k:PU q (.slice a n c) W d):nT d a n s x:=fun h=>by
 obtain⟨b,p,e,m⟩:=l h;refine⟨b,p,e,fun i o => ?_⟩;have f:=m i o;have j:=k.g b (by rw[e]; rfl);unfold World.cell? at f ⊢;rw[j]; exact f
def BwP(b:Nat)(a:Option Addr)(n c:Nat)(l:List Int)(W:World):Prop:=aP W b 1 (fun _ => .slice a n c) 63/\nT W a n 1 (yw l)
theorem BwP.alloc{f n c:Nat}{a:Option Addr}{l:List Int}{W:World}(h:BwP f a n c l W)(o:Obj):BwP f a n c l (W.alloc o) :=
 ⟨(Below.heap_alloc W o f h.1.lt).trans h.1,fun g=>by
   obtain⟨b,p,e,k⟩:=h.2 g;refine⟨b,p,e,fun i m => ?_⟩;have d:=k i m;have j:=Below.heap_alloc W o b (block_lt_of_cell d);unfold World.cell? at d ⊢;rw[j]; exact d⟩
theorem VX{h f B:Nat}{c:World}{F:List Nat->dN}(h1:h<c.heap.size)(j:f<c.heap.size):Rgx.N7 c.heap.size (fun(n:List Nat) W=>sP W B h f (F n)/\Stp f c W):=fun s W i o a b m=>by
 have g : ∀ k,k<c.heap.size->i.heap[k]? = W.heap[k]? := fun k d=>b.block k (n_ d a.2.size) fun e=>by
  have:=(m k e.symm).1; omega
 exact⟨sP.keep a.1 (g h h1) (g f j),⟨b.os.trans a.2.os,b.tape.trans a.2.tape,b.output.trans a.2.output,m_ a.2.size b.size,fun k d l=>(g k d).trans (a.2.block k d l)⟩⟩
theorem Zf{w:World}{B E s n b m:Nat}{v:Value}{x:Nat->Value}{k:Nat->Int}{y:Nat->Value}(a:Fx.Own w B E s v n x)(d:Mp w b m k y){g:Nat}(c:v.ownBlock=some g):g<w.heap.size/\g≠b:=⟨(a.ge c).2,fun e=>d.sF (by rw[<- e]; exact a.ty c)⟩
theorem aer{T:dN}{k:Int}(h : ∀ i,i<T.n->T.x i≠k):T.par k=0:=by
 have : ∀ n,(∀ i,i<n->T.x i≠k)->iD T.x T.p n k=0:=fun n=>by
  induction n with
  | zero=>exact fun _=>rfl
  | succ n ih=>exact fun h=>by unfold iD; rw[b_ (h n (by omega))]; exact ih fun i a=>h i (by omega)
 exact this _ h
structure JB(J:List Nat->World->Prop)(pre:List Nat)(w:World):Prop where
 ab:Rgx.PS J
 j:J pre w
end Rt
theorem aoW(a:Option Addr)(n c:Nat)(w:World) :
 Calls Tryz.prog 185 #[.slice a (n) (c)] w fun e w' => ∃ d,e = .returned (.func (.func 196) #[] #[(pt d)])/\w.heap.size<=d/\aP w' d 1 (fun _ => .slice a n c) 63/\Below w.heap.size w w':=by
 refine Kent Tryz.func185 4 ?_;refine ay<|yM (.slice a (n) (c)) fun b l h f j m => ?_;have g:=bF j.old (Below.refl w.heap.size w);have i:=iy h;refine av (.nilFunc)<|aD<|ay<|Lv (.func (.func 196) #[] #[(pt b)]) (Fx.nk (us := []) (vs := [(pt b)]) rfl rfl rfl)<|av (.func (.func 196) #[] #[(pt b)])<|aD<|Wr<|aJ (.func (.func 196) #[] #[(pt b)]) ?_;exact⟨b,rfl,i,f,g⟩
theorem ahZ(J:List Nat->World->Prop)(h d c:Nat)(a:Option Addr)(l:List Int)(w:World)(o:aP w d 1 (fun _ => .slice a (l.length) (c)) 63)(I:nT w a l.length 1 (yw l))(n:JB J [] w)(U:l.length<=1000)
 (L : ∀ r x m,J r m->r.length<l.length->Go.YieldAt (Fx.FR none) 1 Tryz.prog h #[au (x:Nat),aC (l.getD x 0)] m fun e y=>e = .returned (.bool true)/\J (r ++ [x]) y/\PU d (.slice a l.length c) m y) :
  Calls Tryz.prog 196 #[.func (.yield h) #[] #[],(pt d)] w fun e w'=>(∃ v,e = .returned v) /\ ∃ F,F=GH l.length l.length/\J F w':=by
 have n:JB J (GH l.length (l.length-l.length)) w:=by rw[Nat.sub_self]; exact n
 refine Kent Tryz.func196 19 ?_;refine ay<|Lv (.slice a (l.length) (c)) (aM o.aI 0)<|av (au l.length)<|Lv (au ((l.length:Int)-1)) fZ<|av (au ((l.length:Int)-1))<|aD<|Wb<|Wo (fun f u => ∃ k:Nat,k<=l.length/\f 0 = .func (.yield h) #[] #[]/\f 1=(pt d)/\f 3=au ((k:Int)-1)/\aP u d 1 (fun _ => .slice a (l.length) (c)) 63/\nT u a l.length 1 (yw l)/\JB J (GH l.length (l.length-k)) u) (fun f _=>(intOf (f 3)+1).toNat) ⟨l.length,(A_ _),(by rfl),(by rfl),Fx.ic,o,I,n⟩ ?_;rintro S X ⟨k,T,A,B,g,D,E,p⟩;refine Ws<|ay<|aT g ?_;by_cases z:0<=((k:Int)-1)
 ·refine Lv aG (kM z)<|aD<|aL<|Wk<|sN<|Ws<|Wb<|Ws<|Fx.W.aaz 2<|Fx.Ly.v (.func (.yield h) #[] #[]) (dO rfl A) ?_;refine Fx.Ly.v (au ((k:Int)-1)) (dO rfl g) ?_;refine Fx.Ly.v (.slice a (l.length) (c)) (bB (x:=fun _ => .slice a (l.length) (c)) rfl B (by kernel_rfl) D.aI (i:=0) (by omega) (by omega) rfl) ?_;refine Fx.Ly.v (au ((k:Int)-1)) (dO rfl g) ?_;obtain⟨G,Q,H,M⟩:=E (by omega);refine Fx.Ly.v (pf G (k+Q-1)) (dX rfl (rfl.trans (L_ (fun q=>Value.slice q (l.length) (c)) H)) rfl Tryz.underlying63 (s:=1) (by kernel_rfl) (by omega) (by omega) (by omega)) ?_;refine Fx.Ly.v (aC (l.getD (k-1) 0)) (bB (x:=yw l) rfl rfl (by kernel_rfl) M (i:=k-1) (by omega) (by omega) rfl) ?_;refine Fx.Ly.yield (l:=h) (args := [au ((k:Int)-1),aC (l.getD (k-1) 0)]) rfl rfl rfl (Fx.args2 rfl rfl) rfl (by have:=L (GH l.length (l.length-k)) (k-1) _ p.j (by rw[PO]; omega); rw[show((k-1:Nat):Int)=(k:Int)-1 by omega]at this; exact this) ?_;rintro R t ⟨rfl,K,C⟩;refine⟨.bool true,rfl,?_⟩;have N:=C.b.trans D;have O:=aep E (by decide) C;have P:JB J (GH l.length (l.length-(k-1))) t:=⟨p.ab,by rw[show l.length-(k-1)=(l.length-k)+1 by omega]; unfold GH; rw[show l.length-1-(l.length-k)=k-1 by omega]; exact K⟩;refine Fx.Ly.v (.bool false) (Fx.Sy rfl rfl) ?_;refine Fx.Ly.nil ?_;refine sN<|aK<|Wk<|bR<|sN<|Wl<|aT g<|Lv (au ((k:Int)-2)) fZ<|av (au ((k:Int)-2))<|Ln<|gL ⟨k-1,(by omega),A,B,Fx.ic,N,O,P⟩ ?_;show(intOf (au ((k:Int)-2))+1).toNat<_;simp only[g,intOf]; omega
 refine Lv aF (kg z) (aD (aK (Wx (bY (gJ (bZ (⟨.tuple #[],iI Tryz.results196,?_⟩)))))));exact⟨⟨_,rfl⟩,_,rfl,by have:=p.j; rw[show l.length-k=l.length by omega]at this; exact this⟩
theorem aes(b c:Nat)(a:Option Addr)(l:List Int)(i:l.length<=1000) :
 Rgx.aen (Fx.FR none) 2 Tryz.prog 196 #[(pt b)] (fun x:Nat => #[au (x:Int),aC (l.getD x 0)]) (PU b (.slice a l.length c)) (fun k=>k=GH l.length l.length) l.length (BwP b a l.length c l) :=
 fun j J W ⟨h,e⟩ g f d=>callsIn_wide.2 (ahZ J j b c a l W h e ⟨g,d⟩ i f)
namespace Rt
theorem PV{l:List Int}{T:dN}(b:T.ok)(h : ∀ k,k∈l->T.has k=true)(x:Nat):0<=l.getD x 0/\l.getD x 0<=18446744073709551615:=by
 by_cases a:x<l.length
 ·have d:l.getD x 0∈l:=by rw[r_,o_ a]; exact R_ a
  obtain⟨i,c,e⟩:=gT (h _ d);rw[<- e]; exact VQ b c
 rw[r_,List.getElem?_eq_none (by omega)]; decide
theorem PW{l:List Int}{T:dN}{pa:Int}(a:T.ok)(e:l=T.path pa)(x:Nat):0<=l.getD x 0/\l.getD x 0<=18446744073709551615:=PV a (fun k d=>by
 obtain⟨i,b,c⟩:=List.getElem_of_mem d;have:=dN.NY a e b;rw[r_,o_ b]at this;rw[<- c]; exact this) x
theorem Zg{l:List Int}{T:dN}(a:T.ok)(h : ∀ k,k∈l<->T.has k=true)(x:Nat):0<=l.getD x 0/\l.getD x 0<=18446744073709551615:=PV a (fun k b=>(h k).1 b) x
end Rt
theorem aeu(m:dU)(lp B:Nat)(w:World)(h:mh w B lp m)(id pa:Int)(hid:0<=id/\id<=18446744073709551615) :
 Calls Tryz.prog 170 #[(pt lp),aC id,aC pa] w fun e w'=>e = .returned (au (m.T.err id pa))/\Below w.heap.size w w':=by
 have hC:=h.c;have hT:=h.t;have hP:=h.p;have hR:=h.r;have hG:=h.g;have hA:=h.a;refine Fx.aem 3 Tryz.func170 rfl (n:=55) rfl (by rfl) ?_;refine Fx.W0.seq<|Fx.W0.list<|yM (pt lp) fun g1 w1 lN m1 s1 z1 => ?_;have⟨m2,m3,m4,m5,m6,m7,b1⟩:=jM s1.old hC hT hP hR hG hA (Below.refl w.heap.size w);have⟨nI,za,xX,BQ,Am⟩:=Ee lN hC.lt hP.lt hR.lt hG.lt hA.lt;have uM:=m1.lt;refine av (au 0)<|Ln<|Fx.ru<|Fx.W0.seq<|Fx.W0.list<|lU (aaP _) ?_;rintro e9 w2 ⟨v,j,u,hg1,m8,hb1⟩;refine⟨_,u,?_⟩;clear u;have nem.atx:m.mb≠j:=u_ (n_ m3.lt hg1);have⟨m9,m10,m11,m12,m13,m14,m15,b2⟩:=kW hb1 m2 m3 m4 m5 m6 m7 m1 b1;have m16:sP w2 (w.heap.size) v j dN.zero:=m8.weak b1.size;clear m8 hg1;refine uW 1 (fun _ => .pointer none) fun L w3 yD m17 s3 z2 => ?_;have⟨m18,m19,m24,nP,b3⟩:=tQ s3.old m9 m10 m15 m16 b2;have qW:=iT yD b2.size;have⟨aev,aoX,aoY,aoZ,apa,apb⟩:=Je yD m9.lt m11.lt m12.lt m13.lt m14.lt m15.lt;have zY:=m17.lt;refine jh m17 0 (pt v) fun w4 oG s4 z3 => ?_;have nY:aP w4 L 1 (fun _=>(pt v)) 98:=dM oG;have gD:=gX s4 m17.ty;have⟨nZ,oH,oO,qh⟩:=Kn gD m18 m19 m24 nP;have b4:=s4.below b3 b3.size (by omega);refine Ln<|Fx.ru<|Fx.W0.seq<|Fx.W0.list<|Lv (pt lp) (aM oO.aI 0)<|av (pt lp)<|av (pf lp 18)<|Lv (pt m.tp) (aM nZ.aI 18)<|av (aC pa)<|lU (Nf pa oH) ?_;rintro e9 w5 ⟨F,G,u,qH,hb2⟩;refine⟨_,u,?_⟩;clear u;have⟨nC,sK,rJ,b5⟩:=nO hb2 oO qh nY b4;obtain⟨l,J⟩ : ∃ q,q=dN.path m.T pa:=⟨_,rfl⟩;rw[<- J]at qH ⊢;have hl4:l.length<=4:=by rw[J]; exact dN.zN
 refine av (.slice F (l.length) (G))<|Ln<|Fx.ru<|Fx.W0.seq<|Fx.W0.seq<|Fx.W0.list<|av (.slice F (l.length) (G))<|lU (aoW F l.length G _) ?_;rintro e9 w6 ⟨sb1,u,hg2,og,hb3⟩;refine⟨_,u,?_⟩;clear u;have⟨uN,E,wz,uw,U⟩:=tQ hb3 nC sK rJ qH b5;refine Ln<|Fx.ru<|Fx.W0.block ?_;have aia:g1≠j:=E.map.ne uN.ty;have awD:=uN.lt;have aib:L≠j:=E.map.ne wz.ty;have awE:=wz.lt;have abj:sb1≠j:=E.map.ne og.ty;have aic:=og.lt;have hgm:=E.gm;have ltm:=E.lt;have ltt:=E.blk.lt;have K : ∀ g,(.slice F (l.length) (G):Value).ownBlock=some g->g<w6.heap.size/\g≠j:=fun g y=>Zf uw E.map y;refine Fx.W0.aeo (gf:=196) (lb := #[(pt sb1)]) (eu:=fun x:Nat=>au (x:Int)) (ev2:=fun x=>aC (l.getD x 0)) (by decide) rfl (fun args w=>kH Tryz.func196 (by kernel_rfl) rfl args w) (aes sb1 G F l (by omega)) ⟨og,Fx.acV uw⟩ (fun W o _ hi=>hi.alloc o) (fun h k=>h.trans k) (fun W l o o' J _ _=>PU.put aic (fun g y=>(K g y).1) W l o o' J) (by decide) (by decide) (fun xs W=>sP W (w.heap.size) v j (MJ m.T l xs)/\Stp j w6 W) (VX ltt ltm) ⟨E,nR _ _⟩ (fun x f=>f 3=(pt g1)/\f 7=(pt L)/\f 10=aC (l.getD x 0)) ?_ ?_ ?_
 ·intro ly x W;exact Fx.W0.list (Lv (aC (l.getD x 0)) (eZ rfl rfl) (Ln ⟨rfl,rfl,⟨rfl,rfl,rfl⟩,rfl⟩))
 ·rintro ly pre x W f9 ⟨q3,q7,q10⟩ ⟨hT2,s⟩ hpl hWs;have H:Below w.heap.size w W:=s.below U U.size hgm;have C:=h.up H;have hPW:=C.p;have M:=C.c;have N:=C.t;have Q:=uN.cZ s aia;have aie:=Q.lt;have R:=wz.cZ s aib;have aif:=R.lt;have lWm:j<W.heap.size:=n_ ltm s.size;have lWt:w6.heap.size<=W.heap.size:=s.size;have lCW:=M.lt;have lPW:=hPW.lt;have lTW:=N.lt;have lh0:=h.t.lt;have lh1:=h.p.lt;refine Fx.W0.block ?_;refine Fx.W0.ahX [1,6,0,2,3,4,5,7,8] [4,0,4,0,0,4,0,4,3] Fx.Mk vB Fx.Mk.trans (fO := [(8,0,[0]),(8,2,[7,5,4,3,2]),(8,5,[7,5]),(8,7,[7])]) (by kernel_rfl) (by kernel_rfl) (by kernel_rfl) (by kernel_rfl) (by kernel_rfl) fun rG dZ iJ => ?_;have s7:Stp W.heap.size W rG:=Sb dZ;have⟨uy,uz,wU,qI,vM,oh⟩:=tT dZ M hPW N Q R hT2;have b7:=(nR j W).then s7 (.inr (nR j W).size);refine bW q10<|bW q10<|Rs (pt v) (aM vM.aI 0 (ha:=q7)) ?_;refine Rs (pt lp) (aM qI.aI 0 (ha:=q3)) ?_;refine bf (pt lp)<|bf (pf lp 19)<|Rs (.map (some m.pb)) (aM uy.aI 19) ?_
  rcases Fx.sG m.T.x m.T.n (l.getD x 0)with ⟨VY,DW,DX⟩|jC
  ·refine Rs (aC (m.T.p VY)) (Fx.wO (z:=aC 0) rfl rfl rfl uz Tryz.underlying100 Tryz.underlying28 (by rfl) DW DX rfl) ?_;refine gQ<|dQ (KN (l.getD x 0) (m.T.p VY) oh (PW h.t.inv J x)) _ rfl ?_;rintro w7 ⟨tX,s8⟩;have O:=oh.Cj s8;have m64:=uy.dW O;have wV:=uz.dW O (by omega);have wB:=wU.dW O (by omega);have wW:=qI.dW O;have wX:=vM.dW O;have V:=b7.then s8 (.inl rfl);refine Ln<|Rn<|Fx.LC ?_;have ep:m.T.par (l.getD x 0)=m.T.p VY:=Bu C.t.inv.inj DW DX;refine⟨rfl,⟨V.size,fun q hq hq2=>V.block q hq2 (by omega)⟩,PU.Cn V (by omega) abj (fun g y=>⟨n_ (K g y).1 lWt,(K g y).2⟩),?_,s.then V (.inl rfl)⟩;rw[F8,ep]; exact tX
  refine Rs (aC 0) (Fx.OT (z:=aC 0) rfl rfl rfl uz Tryz.underlying100 Tryz.underlying28 (by rfl) jC) ?_;refine gQ<|dQ (KN (l.getD x 0) 0 oh (PW h.t.inv J x)) _ rfl ?_;rintro w8 ⟨sM,s9⟩;have P:=oh.Cj s9;have uY:=uy.dW P;have uD:=uz.dW P (by omega);have wC:=wU.dW P (by omega);have uZ:=qI.dW P;have yx:=vM.dW P;have X:=b7.then s9 (.inl rfl);refine Ln<|Rn<|Fx.LC ?_;have ep:m.T.par (l.getD x 0)=0:=aer jC;refine⟨rfl,⟨X.size,fun q hq hq2=>X.block q hq2 (by omega)⟩,PU.Cn X (by omega) abj (fun g y=>⟨n_ (K g y).1 lWt,(K g y).2⟩),?_,s.then X (.inl rfl)⟩;rw[F8,ep]; exact sM
 rintro D xs W hD rfl ⟨hT2,s⟩ hK;have H:Below w.heap.size w W:=s.below U U.size hgm;have C:=h.up H;have hPW:=C.p;have M:=C.c;have N:=C.t;have Q:=uN.cZ s aia;have aie:=Q.lt;have R:=wz.cZ s aib;have aif:=R.lt;have lWm:j<W.heap.size:=n_ ltm s.size;have lWt:w6.heap.size<=W.heap.size:=s.size;have lCW:=M.lt;have lPW:=hPW.lt;have lTW:=N.lt;have lh0:=h.t.lt;have lh1:=h.p.lt;have lDW:=(t_.1 hK).1;have oW:=uw.cZ s (fun e=>(K _ e).2 rfl);refine Fx.LC<|Fx.ru<|Fx.W0.seq<|Fx.W0.seq<|Fx.W0.list<|Lv (pt lp) (aM Q.aI 0) ?_;refine av (pt lp)<|av (pf lp 18)<|Lv (pt m.tp) (aM M.aI 18)<|lU (Uu N) ?_;rintro e9 w9 ⟨la1,A,d,u,wD,hq1,aii,hb4⟩;refine⟨_,u,?_⟩;clear u;have s10:=Sb hb4;have⟨wE,vg,vN⟩:=jr hb4 R hT2 oW;have b10:=(nR j W).then s10 (.inr (nR j W).size);refine av (au d.length)<|av (au 0)<|Ln<|Fx.ru<|Fx.W0.block<|Fx.W0.loop (fun f S => ∃ i:Nat,i<=d.length/\f 1=aC id/\f 2=aC pa/\f 7=(pt L)/\f 8 = .slice F (l.length) (G)/\f 37 = .slice la1 (d.length) (A)/\f 38=au (d.length:Int)/\f 39=au (i:Int)/\aP S L 1 (fun _=>(pt v)) 98/\sP S (w.heap.size) v j (lK l d (MJ m.T l (GH l.length l.length)) i)/\Fx.Own S W.heap.size 28 1 (.slice la1 (d.length) (A)) d.length (yw d)/\Fx.Own S w4.heap.size 28 1 (.slice F (l.length) (G)) l.length (yw l)/\Stp j W S) (fun f _=>((d.length:Int)-intOf (f 39)).toNat) ⟨0,(by omega),Fx.ic,Fx.ic,(by rfl),(by rfl),(by rfl),Fx.ic,Fx.ic,wE,vg,wD,vN,b10⟩ ?_;rintro f1 sI ⟨i,hi,h1,h2,h3,h4,h5,h6,I,yR,xV,AA,zW,b11⟩;refine Fx.W0.seq<|Fx.W0.list ?_;by_cases c40:(i:Int)<(d.length:Int)
 ·refine Lv aG (gN c40 (hx:=I) (hy:=h6)) (Ln (Fx.ru (Fx.W0.seq (Fx.W0.cond (b:=true) rfl (fun _=>Fx.W0.skip (Fx.ru (Fx.W0.seq (Fx.W0.block (Fx.W0.seq (Fx.W0.list ?_)))))) (fun h=>nomatch h)))));obtain⟨DL,Z⟩:=AA.addr (by omega);have zX:Fx.Own sI W.heap.size 28 1 (bO DL d.length A) d.length (yw d):=AA.eH (L_ (fun q=>Value.slice q d.length A) Z);refine Lv (pf DL i) (dh 1 (hx:=(h5.trans (L_ (fun q=>Value.slice q (d.length) (A)) Z))) (hi:=I))<|Lv (aC (d.getD i 0)) (aM zX.aI i)<|av (aC (d.getD i 0))<|Ln<|Fx.ru<|Fx.W0.seq<|Fx.W0.list<|aT h4<|av (aC (d.getD i 0))<|dQ (alE l (d.getD i 0) _ _ _ _ zW (by omega)) (ax := #[.slice F (l.length) (G),aC (d.getD i 0)]) _ rfl ?_;intro xU hb5;have s11:=Sb hb5;have⟨yS,zD,Al,Dz⟩:=nO hb5 yR xV zW zX;have b12:=b11.then s11 (.inr b11.size);by_cases Y:d.getD i 0∈l
  ·skip
   refine Lv aF (Fx.Sy rfl (L_ Value.bool (f_ Y)))<|Ln<|Fx.ru<|Fx.W0.cond (b:=false) rfl (fun h=>nomatch h)<|fun _=>Fx.W0.skip<|Fx.LC<|Fx.ru<|Fx.W0.list<|Lv (au ((i:Int)+1)) (eU (hx:=I))<|av (au ((i:Int)+1))<|Ln ?_;have Cc:Fx.Own xU W.heap.size 28 1 (.slice la1 (d.length) (A)) d.length (yw d):=Dz.eH (L_ (fun q=>Value.slice q d.length A) Z.symm);have Ao:sP xU (w.heap.size) v j (lK l d (MJ m.T l (GH l.length l.length)) (i+1)):=by unfold lK; rw[d_ Y]; exact zD
   skip
   refine Fx.ahV ⟨i+1,(by omega),(h1.trans Fx.ic),(h2.trans Fx.ic),h3,h4,h5,(h6.trans Fx.ic),Fx.ic,yS,Ao,Cc,Al,b12⟩ ?_;show((d.length:Int)-intOf (au ((i:Int)+1))).toNat<_;simp only[I,intOf]; omega
  skip
  refine Lv aG (Fx.abB rfl (L_ Value.bool (g_ Y))) (Ln (Fx.ru (Fx.W0.cond (b:=true) rfl (fun _=>Fx.W0.list (Lv (pt v) (aM yS.aI 0 (ha:=h3)) ?_)) (fun h=>nomatch h))));refine av (aC (d.getD i 0))<|dQ (KN (d.getD i 0) 0 zD (Zg h.t.inv hq1.2 i)) _ rfl ?_;rintro Dy ⟨Bg,s12⟩;have aew:=zD.Cj s12;have yE:=yS.dW aew;have DJ:=Al.dW aew;have Ce:=Dz.dW aew;have b13:=b12.then s12 (.inl rfl);refine Ln<|Fx.LC<|Fx.ru<|Fx.W0.list<|Lv (au ((i:Int)+1)) (eU (hx:=I))<|av (au ((i:Int)+1))<|Ln ?_;have DK:Fx.Own Dy W.heap.size 28 1 (.slice la1 (d.length) (A)) d.length (yw d):=Ce.eH (L_ (fun q=>Value.slice q d.length A) Z.symm);have Eo:sP Dy (w.heap.size) v j (lK l d (MJ m.T l (GH l.length l.length)) (i+1)):=by unfold lK; rw[b_ Y]; exact Bg
  skip
  refine Fx.ahV ⟨i+1,(by omega),(h1.trans Fx.ic),(h2.trans Fx.ic),h3,h4,h5,(h6.trans Fx.ic),Fx.ic,yE,Eo,DK,DJ,b13⟩ ?_;show((d.length:Int)-intOf (au ((i:Int)+1))).toNat<_;simp only[I,intOf]; omega
 refine Lv aF (gP c40 (hx:=I) (hy:=h6))<|Ln<|Fx.ru<|Fx.W0.seq<|Fx.W0.cond (b:=false) rfl (fun h=>nomatch h)<|fun _=>Fx.W0.exit<|Fx.ahT<|Fx.aoT<|Fx.ahU<|Fx.ru<|Fx.W0.seq ?_;have hil:i=d.length:=by omega
 refine Fx.W0.list<|Lv (pt v) (aM yR.aI 0 (ha:=h3)) ?_;refine aT h1<|aT h2<|dQ (KN id pa xV hid) _ rfl ?_;rintro EI ⟨uO,s13⟩;have aex:=xV.Cj s13;have xB:=yR.dW aex;have uP:=AA.dW aex;have rM:=zW.dW aex;have b14:=b11.then s13 (.inl rfl);refine av (au (dN.err (lK l d (MJ m.T l (GH l.length l.length)) i) id pa))<|Ln<|Fx.ru<|Fx.W0.ret ?_;have hKD:=(b14.block D lDW (by omega)).trans hK;have eD:dN.err (lK l d (MJ m.T l (GH l.length l.length)) d.length) id pa=m.T.err id pa:=Ze h.t.inv J hq1;refine Fx.leaveD hKD (rV Tryz.results170 (show Fx.MS Tryz.prog _ _ (.tmp 6) (au (dN.err (lK l d (MJ m.T l (GH l.length l.length)) i) id pa))from rfl)) ⟨by rw[hil,eD],?_⟩;exact(b14.below H H.size hgm).grown (grownBy_putObj' _ D _) (b14.below H H.size hgm).size fun r e=>by cases e; omega
end Go.Proofs.YtahbiajdgealnaaGreatDoor
