/-
  What the proof of the law rests on, part 5: walks of functions, and plain laws; each says its conditions itself.
-/
import Derived.Test.YtcbedgfikejkoaaGreatDoorRows
import Derived.OrdersIn
import Derived.Test.YtcbedgfikejkoaaGreatDoorZA4
set_option maxRecDepth 20000
set_option linter.unusedVariables false
set_option maxHeartbeats 1600000
set_option linter.unusedSimpArgs false
namespace Go.Proofs.YtcbedgfikejkoaaGreatDoor
open Go.RowKit Rt
open Fx (Lv sN Ln Ws Qv Wl Wr Sb Wk sR Wb Wx Wo Qn gP rv aA aR ev cB Stp aS flat down mY bL bR bZ cu gL ig pO)
section
namespace Rt
structure Inv0(L:eY)(T:Nat):Prop where
 BH:L.tn=L.nn
 nn:L.nn<=32
 tid : ∀ i,i<L.nn->L.t i 0=L.id i/\L.t i 1=L.par i
 rise : ∀ i j,i<j->j<L.nn->L.id i<L.id j
 pos : ∀ i,i<L.nn->1<=L.id i
 top : ∀ i,i<L.nn->L.id i<7696581394432
 up : ∀ i,i<L.nn->L.par i=0 \/ ∃ j,j<L.nn/\L.id j=L.par i
 dep : ∀ x,∃ D,D<=4/\bF L.t L.tn (aT L.t L.tn D x)<0
 gn:L.gn<=T
 rn : ∀ i,i<6->L.rn i<=T
 may : ∀ k,k<L.nn->may (L.R k)=true
 g47 : ∀ k,k<L.nn -> ∀ a,a<6->L.R k a<=140737488355328
 kn:BX L.known
theorem ilt(a:Int):a<0\/0<=a:=by omega
theorem gZ{t:Nat->Nat->Int}{tn:Nat}{x:Int}:0<=bF t tn x <-> ∃ i,i<tn/\t i 0=x:=by
 constructor
 ·intro h;obtain⟨j,c,_,e⟩:=uY h;exact⟨j,c,e⟩
 rintro ⟨i,b,e⟩
 rcases jh (fun i=>decide (t i 0=x)) tn with ⟨k,_,a,_⟩|⟨_,h2⟩
 ·unfold bF; rw[a]; omega
 have:=h2 i b; rw[f_ e]at this; cases this
theorem vB{t:Nat->Nat->Int}{tn:Nat}{x:Int}:bF t tn x<0 <-> ∀ i,i<tn->t i 0≠x:=by
 constructor
 ·intro h i a e;have:=gZ.2 ⟨i,a,e⟩; omega
 intro h
 rcases ilt (bF t tn x)with h1|h1
 ·exact h1
 obtain⟨i,a,e⟩:=gZ.1 h1;exact M_ e (h i a)
theorem vE{t:Nat->Nat->Int}{tn i:Nat}(c : ∀ i j,i<tn->j<tn->t i 0=t j 0->i=j)(hi:i<tn):bF t tn (t i 0)=(i:Int):=by
 obtain⟨j,b,e,a⟩:=uY (gZ.2 ⟨i,hi,rfl⟩);rw[e,c j i b hi a]
theorem FC{t:Nat->Nat->Int}{tn:Nat}{x:Int} : ∀ j,aT t tn (j+1) x=aT t tn j (aT t tn 1 x)
 | 0=>rfl
 | j+1=>by
   show t (bF t tn (aT t tn (j+1) x)).toNat 1=t (bF t tn (aT t tn j (aT t tn 1 x))).toNat 1;rw[FC j]
section
variable {L:eY} {T:Nat}
theorem Inv0.inj(h:Inv0 L T) : ∀ i j,i<L.nn->j<L.nn->L.id i=L.id j->i=j:=fun i j a b e=>by
 rcases Nat.lt_trichotomy i j with h1|h1|h1
 ·have:=h.rise i j h1 b; omega
 ·exact h1
 ·have:=h.rise j i h1 a; omega
theorem Inv0.ahd(h:Inv0 L T) : ∀ i j,i<L.tn->j<L.tn->L.t i 0=L.t j 0->i=j:=fun i j a b e=>by
 rw[h.BH]at a b;rw[(h.tid i a).1,(h.tid j b).1]at e;exact h.inj i j a b e
theorem Di{P Q:Nat->Bool} : ∀ {n:Nat},(∀ i,i<n->P i=Q i)->gX P n=gX Q n
 | 0,_=>rfl
 | n+1,h=>by
   simp only[gX];rw[Di (n:=n) fun i a=>h i (by omega),h n (by omega)]
theorem Inv0.node(h:Inv0 L T)(x:Int):L.node x=bF L.t L.tn x:=by
 unfold eY.node bF;rw[h.BH];exact Di fun i a=>by rw[(h.tid i a).1]
theorem Inv0.w(h:Inv0 L T):acX L T where
 nn:=by have:=h.nn; omega
 gn:=h.gn
 rn:=h.rn
 tn:=h.node
 dx:=fun x=>by obtain⟨D,b,a⟩:=h.dep x; exact⟨D,by omega,a⟩
 may:=h.may
 kn:=h.kn
theorem Inv0.mono{T':Nat}(h:Inv0 L T)(a:T<=T'):Inv0 L T' := { h with gn:=m_ h.gn a,rn:=fun i b=>m_ (h.rn i b) a }
theorem Ei{a:Type}{f:Nat->a}{k i:Nat}{v:a}(h:i<k):cB f k v i=f i:=by unfold cB; rw[d_ h]
theorem dH{a:Type}{f:Nat->a}{k:Nat}{v:a}:cB f k v k=v:=by unfold cB; rw[b_ (by omega),d_ rfl]
theorem Ej{a:Type}{f:Nat->a}{k i:Nat}{v:a}(h:k<i):cB f k v i=f (i-1):=by unfold cB; rw[b_ (by omega),b_ (by omega)]
theorem dU{k i n:Nat}(b:k<=n)(hi:i<n+1):i=k \/ ∃ j,j<n/\(∀ {α:Type} (f:Nat->α) (v:α),cB f k v i=f j)/\(j<k->i=j)/\(k<=j->i=j+1):=by
 rcases Nat.lt_trichotomy i k with h|h|h
 ·exact .inr ⟨i,by omega,fun f v=>Ei h,fun _=>rfl,fun a=>by omega⟩
 ·exact .inl h
 exact .inr ⟨i-1,by omega,fun f v=>Ej h,fun a=>by omega,fun _=>by omega⟩
theorem Bh{k j n:Nat}(a:j<n) : ∃ i,i<n+1/\i≠k /\ ∀ {α:Type} (f:Nat->α) (v:α),cB f k v i=f j:=by
 by_cases h:j<k
 ·exact⟨j,by omega,by omega,fun f v=>Ei h⟩
 exact⟨j+1,by omega,by omega,fun f v=>by rw[Ej (by omega)]; rfl⟩
theorem yU(t:Nat->Nat->Int)(k:Nat)(id par:Int)(i:Nat):oQ t k id par i=cB t k (fun j=>if j=0 then id else par) i:=rfl
theorem HY{P Q:Nat->Bool} : ∀ {n:Nat},(∀ i,i<n->P i=Q i)->down P n=down Q n
 | 0,_=>rfl
 | n+1,h=>by
   unfold down;rw[HY (n:=n) fun i a=>h i (by omega),h n (by omega)]
structure pz(t t':Nat->Nat->Int)(tn:Nat)(id par:Int):Prop where
 u : ∀ i j,i<tn->j<tn->t i 0=t j 0->i=j
 u' : ∀ i j,i<tn+1->j<tn+1->t' i 0=t' j 0->i=j
 no : ∀ i,i<tn->t i 0≠id
 old : ∀ i,i<tn -> ∃ j,j<tn+1/\t' j=t i
 new : ∃ j,j<tn+1/\t' j 0=id/\t' j 1=par
 back : ∀ j,j<tn+1->t' j 0=id \/ ∃ i,i<tn/\t' j=t i
variable {t t':Nat->Nat->Int} {tn:Nat} {id par:Int}
theorem pz.find(h:pz t t' tn id par){x:Int}:0<=bF t' (tn+1) x<->(0<=bF t tn x\/x=id):=by
 rw[gZ,gZ];constructor
 ·rintro ⟨j,b,e⟩
  rcases h.back j b with a|⟨i,hi,a⟩
  ·exact .inr (e.symm.trans a)
  exact .inl ⟨i,hi,by rw[<- a]; exact e⟩
 rintro (⟨i,hi,e⟩|e)
 ·obtain⟨j,b,a⟩:=h.old i hi;exact⟨j,b,by rw[a]; exact e⟩
 obtain⟨j,b,a,_⟩:=h.new;exact⟨j,b,a.trans e.symm⟩
theorem pz.Yn(h:pz t t' tn id par){x:Int}(hx:0<=bF t tn x):t' (bF t' (tn+1) x).toNat 1=t (bF t tn x).toNat 1:=by
 obtain⟨i,b,e⟩:=gZ.1 hx;obtain⟨j,f,a⟩:=h.old i b;have c:bF t tn x=(i:Int):=by rw[<- e]; exact vE h.u b
 have d:bF t' (tn+1) x=(j:Int):=by
  have:t' j 0=x:=by rw[a]; exact e
  rw[<- this]; exact vE h.u' f
 rw[c,d];show t' j 1=t i 1;rw[a]
theorem pz.iter(h:pz t t' tn id par){x:Int} : ∀ K,(∀ i,i<K->0<=bF t tn (aT t tn i x))->aT t' (tn+1) K x=aT t tn K x
 | 0,_=>rfl
 | K+1,hk=>by
   have a:=pz.iter h K fun i b=>hk i (by omega);show t' (bF t' (tn+1) (aT t' (tn+1) K x)).toNat 1=t (bF t tn (aT t tn K x)).toNat 1;rw[a]; exact h.Yn (hk K (by omega))
theorem vF{t:Nat->Nat->Int}{tn:Nat}{x:Int} : ∀ D,bF t tn (aT t tn D x)<0 -> ∃ K,K<=D/\bF t tn (aT t tn K x)<0 /\ ∀ i,i<K->0<=bF t tn (aT t tn i x)
 | 0,h=>⟨0,A_ _,h,fun _ a=>M_ a (z_ _)⟩
 | D+1,h=>by
   by_cases f : ∀ i,i<D+1->0<=bF t tn (aT t tn i x)
   ·exact⟨D+1,A_ _,h,f⟩
   ·obtain⟨i,a⟩:=Classical.not_forall.1 f;obtain⟨a,o⟩:=Classical.not_imp.1 a
    rcases Nat.lt_or_ge i D with h3|h3
    ·-- an earlier end
     have : ∀ n,n<=D->(∃ j,j<=n/\bF t tn (aT t tn j x)<0) -> ∃ K,K<=n/\bF t tn (aT t tn K x)<0 /\ ∀ i,i<K->0<=bF t tn (aT t tn i x):=by
      intro n
      induction n with
      | zero=>rintro _ ⟨j,m,k⟩; obtain rfl:j=0:=by omega
              exact⟨0,A_ _,k,fun _ a=>M_ a (z_ _)⟩
      | succ n ih =>
        rintro k ⟨j,m,g⟩;by_cases c : ∃ j,j<=n/\bF t tn (aT t tn j x)<0
        ·obtain⟨K,d,l⟩:=ih (by omega) c; exact⟨K,by omega,l⟩
        ·refine⟨n+1,A_ _,?_,fun i a => ?_⟩
         ·by_cases e:j=n+1
          ·rw[<- e]; exact g
          ·exact M_ ⟨j,by omega,g⟩ c
         ·rcases ilt (bF t tn (aT t tn i x))with h7|h7
          ·exact M_ ⟨i,by omega,h7⟩ c
          ·exact h7
     obtain⟨K,d,b⟩:=this i (by omega) ⟨i,A_ _,by omega⟩;exact⟨K,by omega,b⟩
    ·obtain rfl:i=D:=(by omega);obtain⟨K,d,b⟩:=vF (t:=t) (tn:=tn) (x:=x) i (by omega);exact⟨K,by omega,b⟩
theorem pz.dep(h:pz t t' tn id par)(z:1<=id)(v : ∀ i,i<tn->t i 1=0\/0<=bF t tn (t i 1))(s:par=0\/0<=bF t tn par)(B:bF t tn 0<0)(o : ∀ x,∃ D,D<=4/\bF t tn (aT t tn D x)<0)(p : ¬ Db t tn par) :
 ∀ x,∃ D,D<=4/\bF t' (tn+1) (aT t' (tn+1) D x)<0:=by
 have A:bF t tn id<0:=vB.2 h.no;have k : ∀ x K,x≠id->bF t tn (aT t tn K x)<0->(∀ i,i<K->0<=bF t tn (aT t tn i x))->bF t' (tn+1) (aT t' (tn+1) K x)<0:=fun x K c f a=>by
  rw[h.iter K a]
  rcases ilt (bF t' (tn+1) (aT t tn K x))with h1|h1
  ·exact h1
  ·exfalso
   rcases h.find.1 h1 with h2|h2
   ·omega
   ·cases K with
    | zero=>exact c h2
    | succ K =>
      have q:=a K (by omega);obtain⟨i,b,e⟩:=gZ.1 q;have d:aT t tn (K+1) x=t i 1:=by
       show t (bF t tn (aT t tn K x)).toNat 1=t i 1;rw[<- e,vE h.u b]; rfl
      rw[d]at h2 f
      rcases v i b with h4|h4
      ·omega
      ·omega
 intro x;by_cases c:x=id
 ·subst c;obtain⟨i,b⟩:=Classical.not_forall.1 p;obtain⟨y,b⟩:=Classical.not_imp.1 b;obtain⟨K,f,g,a⟩:=vF (t:=t) (tn:=tn) (x:=par) i (by omega);refine⟨K+1,by omega,?_⟩;have l:aT t' (tn+1) 1 x=par:=by
   obtain⟨j,r,m,d⟩:=h.new;show t' (bF t' (tn+1) x).toNat 1=par;rw[<- m,vE h.u' r]; exact d
  rw[FC,l];refine k par K ?_ g a;rintro rfl
  rcases s with h1|h1 <;> omega
 obtain⟨D,w,n⟩:=o x;obtain⟨K,f,g,a⟩:=vF D n;exact⟨K,by omega,k x K c g a⟩
end
end Rt
end
section
namespace Rt
section
variable {L:eY} {T:Nat} {v:EvM}
theorem Yo{t:Nat->Nat->Int}{tn:Nat}{id par:Int}(h:jI t tn id par=0):id≠0/\bF t tn id<0/\(par=0\/0<=bF t tn par)/\tn<32 /\ ¬ Db t tn par:=by
 unfold jI at h;split at h; · cases h
 rename_i h1;split at h; · cases h
 rename_i h2;split at h; · cases h
 rename_i h3;split at h; · cases h
 rename_i h4;refine⟨h1,by omega,?_,?_,fun b=>h4 (.inr b)⟩
 ·rcases ilt (bF t tn par)with h5|h5
  ·by_cases a:par=0
   ·exact .inl a
   exact M_ ⟨a,h5⟩ h3
  exact .inr h5
 rcases Nat.lt_or_ge tn 32 with h5|h5
 ·exact h5
 exact M_ (Or.inl h5) h4
theorem oh(h:bQ v=true):1<=v.o/\v.o<=6/\1<=v.seq/\v.seq<1099511627776:=by
 have a:=iV h;have b:=Eb h;unfold jH at a;simp only[S_,decide_eq_true_eq]at a;exact⟨a.1,a.2,b.1,b.2⟩
theorem rD(h:bQ v=true):jo v.o v.seq=1099511627776*v.o+v.seq:=by
 have:=oh h;unfold jo; rw[d_ (by omega)]
theorem jU(h:bQ v=true):aL v<6:=by
 have:=oh h; unfold aL; omega
theorem Yp{a:Nat}{n:Int}(ha:a<6)(f:0<=n)(h1:n<=1125899906842624):may (upd (fun _=>0) a n)=true:=by
 have e : ∀ p,upd (fun _=>0) a n p=if p=a then n else 0:=fun p=>rfl;rw[jT];refine⟨fun p l => ?_,fun k h => ?_,?_⟩
 ·rw[e]; split <;> omega
 ·have b : ∀ i j,R (upd (fun _=>0) a n) i j=0:=fun i j=>by unfold R; rw[e,b_ (by omega)]
  refine⟨?_,?_,b k k⟩
  ·unfold L;simp only[b];have g:0<=G (upd (fun _=>0) a n) k:=by unfold G; rw[e]; split <;> omega
   have d:F (upd (fun _=>0) a n) k=0:=(by unfold F; rw[e,b_ (by omega)]);have c:C (upd (fun _=>0) a n) k=0:=(by unfold C; rw[e,b_ (by omega)]);omega
  have d:F (upd (fun _=>0) a n) k=0:=by unfold F; rw[e,b_ (by omega)]
  have c:C (upd (fun _=>0) a n) k=0:=by unfold C; rw[e,b_ (by omega)]
  omega
 unfold sD G;simp only[e];have:(if 0=a then n else 0)+(if 1=a then n else 0)+(if 2=a then n else 0)+(if 3=a then n else 0)+(if 4=a then n else 0)+(if 5=a then n else 0)=n:=six a ha n;omega
theorem wR(h:Inv0 L T)(d:bQ v=true)(F:v.kind=1)(f:kI L v=0) : ∃ k,k<=L.nn/\1<=jo v.o v.seq/\L.nn<32/\(0<=v.aQ/\v.aQ<=140737488355328)/\(v.node=0\/0<=bF L.t L.tn v.node) /\ ¬ Db L.t L.tn v.node /\
 qD L v = { L with nn:=L.nn+1,id:=cB L.id k (jo v.o v.seq),par:=cB L.par k v.node,R:=cB L.R k (upd (fun _=>0) (aL v) v.aQ),tn:=L.tn+1,t:=oQ L.t k (jo v.o v.seq) v.node } /\
 (∀ i j,i<j->j<L.nn+1->cB L.id k (jo v.o v.seq) i<cB L.id k (jo v.o v.seq) j)/\(∀ i,i<L.nn+1->oQ L.t k (jo v.o v.seq) v.node i 0=cB L.id k (jo v.o v.seq) i/\oQ L.t k (jo v.o v.seq) v.node i 1=cB L.par k v.node i) /\
 pz L.t (oQ L.t k (jo v.o v.seq) v.node) L.tn (jo v.o v.seq) v.node:=by
 unfold kI at f;split at f
 ·cases f
 rename_i h47;obtain⟨K,s,w,M,y⟩:=Yo f;have S:=oh d;have U:=rD d;have W:=jU d;have D:0<=v.aQ/\v.aQ<=140737488355328:=by
  have Q : ¬ 140737488355328<v.aQ:=fun h=>h47 (.inr h);unfold bQ at d;simp only[S_]at d;have l:=d.2;unfold dM at l;rw[d_ F]at l;simp only[S_,decide_eq_true_eq]at l;omega
 generalize hx:jo v.o v.seq=x at *;have J:1<=x:=by omega
 have A:down (fun i=>decide (x<L.t i 0)) L.tn=sF L.id L.nn x:=by
  unfold sF; rw[h.BH]; exact HY fun i a=>by rw[(h.tid i a).1]
 have z:qD L v = { L with nn:=L.nn+1,id:=cB L.id (sF L.id L.nn x) x,par:=cB L.par (sF L.id L.nn x) v.node,R:=cB L.R (sF L.id L.nn x) (upd (fun _=>0) (aL v) v.aQ),tn:=L.tn+1,t:=oQ L.t (sF L.id L.nn x) x v.node }:=by
  unfold qD; rw[hx,A]; rfl
 generalize hkk:sF L.id L.nn x=k at *;have c:k<=L.nn:=by rw[<- hkk]; exact Fx.vZ _ _
 have G : ∀ i,i<L.nn->L.id i≠x:=fun i a e=>vB.1 s i (by rw[h.BH]; exact a) (by rw[(h.tid i a).1]; exact e);have C : ∀ q,k<=q->q<L.nn->x<L.id q:=fun q b g=>by
  have:=Fx.IX (P:=fun i=>decide (x<L.id i)) (n:=L.nn) (i:=q) (by show sF L.id L.nn x<=q; omega) g;exact h_ this
 have B : ∀ q,q<k->L.id q<x:=fun q b=>by
  obtain⟨j,rfl⟩ : ∃ j,k=j+1:=⟨k-1,by omega⟩;have g:=Fx.IY (P:=fun i=>decide (x<L.id i)) (n:=L.nn) (j:=j) hkk;have N : ¬ x<L.id j:=j_ g;have O:=G j (by omega);by_cases e:q=j
  ·subst e; omega
  ·have:=h.rise q j (by omega) (by omega); omega
 have H:L.nn<32:=by have:=h.BH; omega
 have m : ∀ i j,i<j->j<L.nn+1->cB L.id k x i<cB L.id k x j:=fun i j V hj=>by
  rcases dU c (show i<L.nn+1 by omega)with rfl|⟨q,hq,eq,q1,q2⟩
  ·rcases dU c hj with rfl|⟨r,hr,er,r1,r2⟩
   ·omega
   ·rw[dH,er];exact C r (by omega) hr
  ·rcases dU c hj with rfl|⟨r,hr,er,r1,r2⟩
   ·rw[dH,eq];exact B q (by omega)
   ·rw[eq,er];exact h.rise q r (by omega) hr
 have p : ∀ i,i<L.nn+1->oQ L.t k x v.node i 0=cB L.id k x i/\oQ L.t k x v.node i 1=cB L.par k v.node i:=fun i a=>by
  rw[yU]
  rcases dU c a with rfl|⟨q,hq,eq,_,_⟩
  ·rw[dH,dH,dH]; exact⟨rfl,rfl⟩
  ·rw[eq,eq,eq]; exact h.tid q hq
 have E : ∀ i j,i<L.nn+1->j<L.nn+1->cB L.id k x i=cB L.id k x j->i=j:=fun i j a hj e=>by
  rcases Nat.lt_trichotomy i j with b|b|b
  ·have:=m i j b hj; omega
  ·exact b
  ·have:=m j i b a; omega
 have I:pz L.t (oQ L.t k x v.node) L.tn x v.node := {
  u:=h.ahd
  u':=fun i j a hj e=>by
   rw[h.BH]at a hj;rw[(p i a).1,(p j hj).1]at e;exact E i j a hj e
  no:=vB.1 s
  old:=fun i a=>by
   obtain⟨j,hj,_,e⟩:=Bh (k:=k) a;exact⟨j,hj,by rw[yU]; exact e L.t _⟩
  new:=⟨k,by have:=h.BH; omega,by rw[yU,dH]; rfl,by rw[yU,dH]; rfl⟩
  back:=fun j hj=>by
   rw[h.BH]at hj
   rcases dU c hj with rfl|⟨q,hq,eq,_,_⟩
   ·exact .inl (by rw[yU,dH]; rfl)
   ·exact .inr ⟨q,by rw[h.BH]; exact hq,by rw[yU]; exact eq L.t _⟩ }
 exact⟨k,c,J,H,D,w,y,z,m,p,I⟩
theorem QI(h:Inv0 L T)(c:bQ v=true)(w:v.kind=1)(r:kI L v=0):Inv0 (qD L v) (T+1):=by
 obtain⟨k,a,m,K,s,g,n,p,B,E,F⟩:=wR h c w r;have I:=oh c;have J:=rD c;have C:=jU c;rw[p];generalize hx:jo v.o v.seq=x at *;have z : ∀ j,j<L.nn -> ∃ i,i<L.nn+1/\cB L.id k x i=L.id j:=fun j hj=>by
  obtain⟨i,hi,_,e⟩:=Bh (k:=k) hj;exact⟨i,hi,e L.id x⟩
 have H:bF L.t L.tn 0<0:=vB.2 fun i hi e=>by
  rw[h.BH]at hi;rw[(h.tid i hi).1]at e;have:=h.pos i hi; omega
 have A:v.node=0 \/ ∃ j,j<L.nn/\L.id j=v.node:=by
  rcases g with e|e
  ·exact .inl e
  ·obtain⟨i,hi,d⟩:=gZ.1 e;rw[h.BH]at hi;exact .inr ⟨i,hi,by rw[<- (h.tid i hi).1]; exact d⟩
 exact {
  BH:=by show L.tn+1=L.nn+1; rw[h.BH]
  nn:=by show L.nn+1<=32; omega
  tid:=E
  rise:=B
  pos:=fun i hi=>by
   show 1<=cB L.id k x i
   rcases dU a hi with rfl|⟨q,hq,eq,_,_⟩
   ·rw[dH]; exact m
   ·rw[eq]; exact h.pos q hq
  top:=fun i hi=>by
   show cB L.id k x i<_
   rcases dU a hi with rfl|⟨q,hq,eq,_,_⟩
   ·rw[dH]; omega
   ·rw[eq]; exact h.top q hq
  up:=fun i hi=>by
   show cB L.par k v.node i=0 \/ ∃ j,j<L.nn+1/\cB L.id k x j=cB L.par k v.node i;have l : ∀ y,(y=0 \/ ∃ j,j<L.nn/\L.id j=y)->(y=0 \/ ∃ j,j<L.nn+1/\cB L.id k x j=y):=fun y G=>G.imp id fun⟨j,hj,e⟩=>by
    obtain⟨i,hi,d⟩:=z j hj;exact⟨i,hi,d.trans e⟩
   rcases dU a hi with rfl|⟨q,hq,eq,_,_⟩
   ·rw[dH]; exact l _ A
   ·rw[eq]; exact l _ (h.up q hq)
  dep:=by
   show ∀ y,∃ D,D<=4/\bF (oQ L.t k x v.node) (L.tn+1) (aT (oQ L.t k x v.node) (L.tn+1) D y)<0;refine F.dep m (fun i hi => ?_) g H h.dep n;have f:=hi;rw[h.BH]at f;rw[(h.tid i f).2]
   rcases h.up i f with e|⟨j,hj,e⟩
   ·exact .inl e
   ·exact .inr (gZ.2 ⟨j,by rw[h.BH]; exact hj,by rw[(h.tid j hj).1]; exact e⟩)
  gn:=Nat.le_succ_of_le h.gn
  rn:=fun i hi=>Nat.le_succ_of_le (h.rn i hi)
  may:=fun i hi=>by
   show may (cB L.R k _ i)=true
   rcases dU a hi with rfl|⟨q,hq,eq,_,_⟩
   ·rw[dH]; exact Yp C s.1 (by omega)
   ·rw[eq]; exact h.may q hq
  g47:=fun i hi b u=>by
   show cB L.R k _ i b<=_
   rcases dU a hi with rfl|⟨q,hq,eq,_,_⟩
   ·rw[dH];show(if b=aL v then v.aQ else 0)<=_;split <;> omega
   ·rw[eq]; exact h.g47 q hq b u
  kn:=h.kn }
theorem HZ{b:eY}{T':Nat}(h:Inv0 L T)(c:b.nn=L.nn)(d:b.id=L.id)(f:b.par=L.par)(g:b.tn=L.tn)(j:b.t=L.t)(m:b.known=L.known)(n:b.gn<=T')(hr : ∀ i,i<6->b.rn i<=T')
 (l : ∀ k,k<L.nn->may (b.R k)=true /\ ∀ a,a<6->b.R k a<=140737488355328):Inv0 b T' where
 BH:=by rw[c,g]; exact h.BH
 nn:=by rw[c]; exact h.nn
 tid:=by rw[c,d,f,j]; exact h.tid
 rise:=by rw[c,d]; exact h.rise
 pos:=by rw[c,d]; exact h.pos
 top:=by rw[c,d]; exact h.top
 up:=by rw[c,d,f]; exact h.up
 dep:=by rw[g,j]; exact h.dep
 gn:=n
 rn:=hr
 may:=by rw[c]; exact fun k e=>(l k e).1
 g47:=by rw[c]; exact fun k e=>(l k e).2
 kn:=by rw[m]; exact h.kn
def uz(x:Nat->Int):Prop:=may x=true /\ ∀ a,a<6->x a<=140737488355328
theorem FD{f:(Nat->Int)->(Nat->Int) × Int}{idx:Nat->Nat}{R:Nat->Nat->Int}{n:Nat}(g : ∀ x,uz x->(f x).2=0->uz (f x).1)(d : ∀ k,k<n->uz (R k)) : ∀ K k,k<n->uz ((cZ f idx R K).1 k)
 | 0,k,hk=>d k hk
 | K+1,k,hk=>by
   have a:=FD g d (idx:=idx) K;unfold cZ;by_cases e:(cZ f idx R K).2=0
   ·rw[d_ e];by_cases b:(f ((cZ f idx R K).1 (idx K))).2=0
    ·rw[d_ b];show uz (if k=idx K then _ else _);by_cases c:k=idx K
     ·rw[d_ c]; exact g _ (by rw[<- c]; exact a k hk) b
     ·rw[b_ c]; exact a k hk
    ·rw[b_ b]; exact a k hk
   ·rw[b_ e]; exact a k hk
theorem Yq{x:Nat->Int}{i n:Int}(h:uz x)(c:(bD x i n).2=0):uz (bD x i n).1:=by
 obtain⟨a,g,_,_,_,_,_,f,_,_,_,e⟩:=Jj c;exact⟨f,fun b d=>by rw[e,gI _ _ _ _ (by omega)]; exact h.2 b d⟩
theorem Yr{x:Nat->Int}{i n:Int}(h:uz x)(c:(bH x i n).2=0):uz (bH x i n).1:=by
 obtain⟨a,g,_,_,_,_,f,_,_,_,e⟩:=Jk c;exact⟨f,fun b d=>by rw[e,gI _ _ _ _ (by omega)]; exact h.2 b d⟩
theorem Yt{x:Nat->Int}{i j n:Int}(h:uz x)(d:(dn x i j n).2=0):uz (dn x i j n).1:=by
 obtain⟨a,b,k,l,_,_,_,_,_,_,g,e⟩:=Bf d;exact⟨g.may,fun c f=>by rw[e,gI _ _ _ _ (by omega)]; exact h.2 c f⟩
theorem UJ{x:Nat->Int}{a:Nat}{n:Int}(ha:a<6)(h:uz x)(s:0<=n)(q : ¬ 140737488355328<x a+n):uz (upd x a (x a+n)):=by
 have d:=(jT x).1 h.1;have e : ∀ p,upd x a (x a+n) p=if p=a then x a+n else x p:=fun p=>rfl;have t:=d.1 a (by omega);have c : ∀ b,b<6->upd x a (x a+n) b<=140737488355328:=fun b l=>by
  rw[e]; split
  ·omega
  ·exact h.2 b l
 refine⟨(jT _).2 ⟨fun p o => ?_,fun k m => ?_,?_⟩,c⟩
 ·have:=d.1 p o;rw[e]; split <;> omega
 ·obtain⟨r,i,j⟩:=d.2.1 k m;have f:C (upd x a (x a+n)) k=C x k:=by unfold C; rw[e,b_ (by omega)]
  have g:F (upd x a (x a+n)) k=F x k:=by unfold F; rw[e,b_ (by omega)]
  refine⟨?_,?_,?_⟩
  ·rw[Uv x a (by omega),f,g,agL]; split <;> omega
  ·rw[f,g]; exact i
  unfold R; rw[e,b_ (by omega)]; exact j
 unfold sD G;have:=c 0 (by omega); have:=c 1 (by omega); have:=c 2 (by omega); have:=c 3 (by omega); have:=c 4 (by omega); have:=c 5 (by omega);omega
theorem Inv0.K4(h:Inv0 L T) : ∀ k,k<L.nn->uz (L.R k):=fun k a=>⟨h.may k a,h.g47 k a⟩
theorem OZ(h:Inv0 L T)(a:Nat) : ∀ i,i<6->aI L.rn a (L.rn a+1) i<=T+1:=fun i b=>by
 unfold aI;by_cases e:i=a
 ·subst e; rw[d_ rfl]; have:=h.rn i b; omega
 ·rw[b_ e]; have:=h.rn i b; omega
theorem O1{q:Nat}{r:Nat->Int}(h : ∀ k,k<L.nn->uz (L.R k))(hr:uz r) : ∀ k,k<L.nn->uz (aI L.R q r k):=fun k a=>by
 unfold aI; split
 ·exact hr
 ·exact h k a
theorem Inv0.O4(h:Inv0 L T){x:Int}(hx : ¬ L.node x<0):(L.node x).toNat<L.nn:=by
 rw[h.node]at hx ⊢;obtain⟨j,a,e,_⟩:=uY (show 0<=bF L.t L.tn x by omega);rw[e]; have:=h.BH; simp; omega
theorem QJ(h:Inv0 L T)(a : ∀ k,k<L.nn->uz ((nD L v).1 k)):Inv0 (mE L v) (T+1):=by
 unfold mE qG;generalize nD L v=W at a;exact HZ h rfl rfl rfl rfl rfl rfl (Nat.succ_le_succ h.gn) (OZ h _) a
theorem QK(h:Inv0 L T)(a : ∀ k,k<L.nn->uz ((mF L v).1 k)):Inv0 (kJ L v) (T+1):=by
 unfold kJ qG;generalize mF L v=W at a;exact HZ h rfl rfl rfl rfl rfl rfl (Nat.le_succ_of_le h.gn) (OZ h _) a
theorem UK(h:Inv0 L T)(f:bQ v=true)(a:dY L v=0):Inv0 (gY L v) (T+1):=by
 have q:=ji f;have o:=jU f;have e:=h.gn;have d : ∀ i,i<6->L.rn i<=T+1:=fun i n=>Nat.le_succ_of_le (h.rn i n);unfold dY at a;unfold gY;by_cases b:v.kind=1
 ·rw[d_ b]at a ⊢; exact QI h f b a
 by_cases c:v.kind=2
 ·rw[b_ b,d_ c]at a ⊢;unfold wQ at a;split at a; · cases a
  rename_i n1;split at a; · cases a
  rename_i n2;have p:=lH f (.inl c);exact HZ h rfl rfl rfl rfl rfl rfl (Nat.le_succ_of_le e) d (O1 h.K4 (UJ o (h.K4 _ (h.O4 n1)) (by omega) n2))
 by_cases g:v.kind=3
 ·rw[b_ b,b_ c,d_ g]at a ⊢;have j : ∀ k,k<L.nn->uz ((nD L v).1 k):=by unfold nD; exact FD (fun x=>Yq) h.K4 _
  exact QJ h j
 by_cases l:v.kind=4
 ·rw[b_ b,b_ c,b_ g,d_ l]at a ⊢;have j : ∀ k,k<L.nn->uz ((mF L v).1 k):=by unfold mF; exact FD (fun x=>Yr) h.K4 _
  exact QK h j
 by_cases m:v.kind=5
 ·rw[b_ b,b_ c,b_ g,b_ l,d_ m]at a ⊢;unfold oZ at a;split at a; · cases a
  rename_i n1;split at a; · cases a
  exact HZ h rfl rfl rfl rfl rfl rfl (Nat.le_succ_of_le e) d (O1 h.K4 (Yt (h.K4 _ (h.O4 n1)) a))
 rw[b_ b,b_ c,b_ g,b_ l,b_ m];split
 ·exact HZ h rfl rfl rfl rfl rfl rfl (Nat.le_succ_of_le e) d h.K4
 exact HZ h rfl rfl rfl rfl rfl rfl (Nat.le_succ_of_le e) d h.K4
theorem Ak(h:Inv0 L T):Inv0 (bV L v) (T+1):=by
 unfold bV;by_cases a:bA L v=0
 ·rw[d_ a];unfold bA at a;split at a; · cases a
  rename_i h1;split at a; · cases a
  split at a; · cases a
  rename_i h3;split at a; · cases a
  have b:bQ v=true:=by simpa using h1
  have c:dz L.known v=true:=by simpa using h3
  have g:=UK h b a;have k:=jU b;have m:=Eb b;refine { g with kn:=fun i j => ?_ };have e:(Hy (gY L v) v).known=aI L.known (aL v) (L.known (aL v)+1):=by unfold Hy; simp only[qb]
  rw[e];unfold dz at c;simp only[S_,decide_eq_true_eq]at c;have d:=h.kn;unfold aI;split
  ·have f:=c.1.2;have l:v.seq=L.known (aL v)+1:=f;have:=d (aL v) k;omega
  exact d i j
 rw[b_ a]; exact h.mono (Nat.le_succ T)
end
end Rt
end
section
namespace Rt
def Jp(t:Nat->Nat->Int)(tn:Nat)(x y:Int):Nat->Int
 | 0=>0
 | k+1=>Jp t tn x y k+if aT t tn k x=y then 1 else 0
def Cq(t:Nat->Nat->Int)(tn:Nat)(x y:Int):Int:=Jp t tn x y (dF t tn x)
def qc(t:Nat->Nat->Int)(tn:Nat)(g:Nat->Int)(y:Int):Int:=if g 4=0 then g 3*Cq t tn (g 2) y else 0
def oF(t:Nat->Nat->Int)(tn:Nat)(g:Nat->Nat->Int)(y:Int):Nat->Int
 | 0=>0
 | q+1=>oF t tn g y q+qc t tn (g q) y
structure Al(L:eY):Prop where
 us : ∀ k,k<L.nn->nZ (L.R k)=oF L.t L.tn L.g (L.id k) L.gn
 gb : ∀ q,q<L.gn->0<=bF L.t L.tn (L.g q 2)/\1<=L.g q 0/\L.g q 0<=6/\0<=L.g q 3/\L.g q 3<=1125899906842624
structure ow(v:EvM):Prop where
 aQ:v.aQ<=65536
 req:v.req<=256
structure QL(L:eY)(T:Nat):Prop where
 kt : ∀ i,i<6->L.known i<=T
 rb : ∀ k,k<L.nn -> ∀ a,a<54->L.R k a<=2097152*T
 rq : ∀ i,i<6 -> ∀ j,j<L.rn i->L.rq i j<=256
structure Inv(L:eY)(T:Nat):Prop extends Inv0 L T where
 s:Al L
 b:QL L T
section
variable {L:eY} {T:Nat} {v:EvM}
theorem Jq{P:Nat->Bool} : ∀ {n i:Nat},i<lead P n->P i=true
 | 0,i,h=>M_ h (z_ _)
 | n+1,i,h=>by
   unfold lead at h;by_cases e:lead P n=n/\P n=true
   ·rw[d_ e]at h;by_cases a:i=n
    ·rw[a]; exact e.2
    ·exact Jq (n:=n) (by omega)
   ·rw[b_ e]at h; exact Jq h
theorem yA{t:Nat->Nat->Int}{tn i:Nat}{x:Int}(h:i<dF t tn x):0<=bF t tn (aT t tn i x):=h_ (Jq (P:=fun i=>decide (0<=bF t tn (aT t tn i x))) h)
theorem yV{t t':Nat->Nat->Int}{tn b:Nat}{g a:Nat->Nat->Int}{y c:Int} : ∀ n,(∀ q,q<n->qc t' b (a q) c=qc t tn (g q) y)->oF t' b a c n=oF t tn g y n
 | 0,_=>rfl
 | n+1,h=>by unfold oF; rw[yV n fun q d=>h q (by omega),h n (by omega)]
theorem H6{t:Nat->Nat->Int}{tn:Nat}{g:Nat->Nat->Int}{y:Int} : ∀ n,(∀ q,q<n->qc t tn (g q) y=0)->oF t tn g y n=0
 | 0,_=>rfl
 | n+1,h=>by unfold oF; rw[H6 n fun q a=>h q (by omega),h n (by omega)]; rfl
theorem K5{t:Nat->Nat->Int}{tn k:Nat}{g:Nat->Nat->Int}{x:Nat->Int}{y:Int} : ∀ n,k<n->oF t tn (aI g k x) y n=oF t tn g y n-qc t tn (g k) y+qc t tn x y
 | 0,h=>M_ h (z_ _)
 | n+1,h=>by
   unfold oF;by_cases e:k=n
   ·subst e;rw[yV (t:=t) (tn:=tn) (g:=g) (y:=y) k fun q a=>by unfold aI; rw[b_ (by omega)]];unfold aI; rw[d_ rfl]; omega
   ·rw[K5 n (by omega)];have:aI g k x n=g n:=b_ (fun h=>e h.symm);rw[this]; omega
theorem K6{t:Nat->Nat->Int}{tn k:Nat}{g:Nat->Nat->Int}{x:Nat->Int}{y:Int} : ∀ n,k<=n->oF t tn (cB g k x) y (n+1)=oF t tn g y n+qc t tn x y
 | 0,h=>by
   obtain rfl:k=0:=(by omega);show(0:Int)+qc t tn (cB g 0 x 0) y=0+_;rw[dH]
 | n+1,h=>by
   by_cases e:k=n+1
   ·subst e;show oF t tn (cB g (n+1) x) y (n+1)+qc t tn (cB g (n+1) x (n+1)) y=_;rw[dH,yV (t:=t) (tn:=tn) (g:=g) (y:=y) (n+1) fun q a=>by rw[Ei a]]
   ·show oF t tn (cB g k x) y (n+1)+qc t tn (cB g k x (n+1)) y=oF t tn g y n+qc t tn (g n) y+_;rw[K6 n (by omega),Ej (by omega),Nat.add_sub_cancel]; omega
def UL(idx:Nat->Nat)(k:Nat):Nat->Int
 | 0=>0
 | j+1=>UL idx k j+if idx j=k then 1 else 0
theorem Cr{f:(Nat->Int)->(Nat->Int) × Int}{idx:Nat->Nat}{R:Nat->Nat->Int}{d:Int}(e : ∀ x,(f x).2=0->nZ (f x).1=nZ x+d) : ∀ K,(cZ f idx R K).2=0 -> ∀ k,nZ ((cZ f idx R K).1 k)=nZ (R k)+d*UL idx k K
 | 0,_,k=>by show nZ (R k)=nZ (R k)+d*0; omega
 | K+1,h,k=>by
   unfold cZ at h ⊢;by_cases a:(cZ f idx R K).2=0
   ·have g:=Cr e K a k;rw[d_ a]at h ⊢;by_cases b:(f ((cZ f idx R K).1 (idx K))).2=0
    ·rw[d_ b];show nZ (aI _ (idx K) _ k)=_;unfold aI UL;rw[Int.mul_add];by_cases c:k=idx K
     ·subst c;rw[d_ rfl,d_ rfl,e _ b,g]; omega
     ·rw[b_ c,b_ (fun h=>c h.symm),g]; omega
    ·rw[b_ b]at h; exact M_ h b
   ·rw[b_ a]at h; exact M_ h a
theorem Nk{t:Nat->Nat->Int}{tn k:Nat}{x y:Int}{idx:Nat->Nat} : ∀ K,(∀ i,i<K->(idx i=k<->aT t tn i x=y))->UL idx k K=Jp t tn x y K
 | 0,_=>rfl
 | K+1,h=>by
   unfold UL Jp;rw[Nk K fun i b=>h i (by omega)];by_cases e:idx K=k
   ·rw[d_ e,d_ ((h K (by omega)).1 e)]
   ·rw[b_ e,b_ (fun a=>e ((h K (by omega)).2 a))]
theorem El(h:Inv0 L T){x:Int}{i k:Nat}(g:k<L.nn)(hi:i<dF L.t L.tn x):ou L x i=k<->aT L.t L.tn i x=L.id k:=by
 obtain⟨j,f,e,c⟩:=uY (yA hi);have b:j<L.nn:=by rw[<- h.BH]; exact f
 have l:ou L x i=j:=by unfold ou; rw[h.node,e]; rfl
 rw[l];have a:L.id j=aT L.t L.tn i x:=by rw[<- (h.tid j b).1]; exact c
 constructor
 ·rintro rfl; exact a.symm
 intro d; exact h.inj j k b g (a.trans d)
theorem K7{x:Nat->Int}{a:Nat}{n:Int}(ha:a<6):nZ (upd x a n)=nZ x:=by
 have b : ∀ k,C (upd x a n) k=C x k:=fun k=>gI _ _ _ _ (by omega);have c : ∀ k,F (upd x a n) k=F x k:=fun k=>gI _ _ _ _ (by omega);unfold nZ; simp only[b,c]
theorem UM(h:bQ v=true)(b:v.kind=4):1<=v.req:=by
 unfold bQ at h;simp only[S_]at h;have a:=h.2;unfold dM at a;rw[b_ (by omega),b_ (by omega),b_ (by omega),d_ b]at a;simp only[S_,decide_eq_true_eq]at a;exact a.1.1
theorem acY{n k:Nat}{g:Nat->Nat->Int}{x:Nat->Int}(a:k<=n)(P:(Nat->Int)->Prop)(h : ∀ q,q<n->P (g q))(hx:P x) : ∀ q,q<n+1->P (cB g k x q):=fun q b=>by
 rcases dU a b with rfl|⟨j,hj,e,_,_⟩
 ·rw[dH]; exact hx
 ·rw[e]; exact h j hj
attribute [local irreducible] dF in
theorem Nl(j:Inv0 L T)(h:Al L)(e:bQ v=true)(b:v.kind=3)(a:iZ L v=0):Al (mE L v):=by
 unfold iZ at a;split at a; · cases a
 split at a; · cases a
 rename_i hp;have c:=oh e;have l:=lH e (.inr (.inl b));unfold mE qG;have p:=Cr (f:=fun x=>bD x v.o v.aQ) (idx:=ou L v.node) (R:=L.R) (d:=v.aQ) (fun x s=>by obtain⟨_,_,_,_,_,_,_,_,_,_,r,_⟩:=Jj s; exact r) _ a;refine⟨fun k b => ?_,fun q n => ?_⟩
 ·show nZ ((nD L v).1 k)=oF L.t L.tn (cB L.g (down (fun i=>Df v (L.g i)) L.gn) (pJ v)) (L.id k) (L.gn+1);rw[K6 _ (Fx.vZ _ _)];have:=p k;rw[show qc L.t L.tn (pJ v) (L.id k)=v.aQ*Cq L.t L.tn v.node (L.id k)from rfl,<- h.us k b];unfold Cq;rw[<- Nk (idx:=ou L v.node) (k:=k) _ fun i m=>El j b m];exact this
 exact acY (Fx.vZ _ _) (fun y=>0<=bF L.t L.tn (y 2)/\1<=y 0/\y 0<=6/\0<=y 3/\y 3<=1125899906842624) h.gb
  ⟨yA (i:=0) (x:=v.node) (by omega),c.1,c.2.1,by show 0<=v.aQ; omega,l.2⟩ q n
attribute [local irreducible] dF in
theorem Nn(s:Inv0 L T)(h:Al L)(z:bQ v=true)(c:v.kind=4)(b:iT L v=0):Al (kJ L v):=by
 unfold iT at b;split at b; · cases b
 split at b; · cases b
 rename_i l;have F:=UM z c
 have E:0<=L.grant v.o v.of:=by rcases ilt (L.grant v.o v.of)with h|h; · exact M_ (.inl h) l
                                ·exact h
 have D:L.g (yw L v) 4=0:=by
  by_cases e:L.g (yw L v) 4=0
  ·exact e
  ·exact M_ (.inr e) l
 have n:yw L v<L.gn:=by
  rcases jh (fun i=>decide (L.g i 0=v.o)&&decide (L.g i 1=v.of)) L.gn with ⟨k,c,e,_⟩|⟨e,_⟩
  ·have m:L.grant v.o v.of=(k:Int):=e;unfold yw; rw[m]; exact c
  ·have m:L.grant v.o v.of = -1:=e;omega
 unfold kJ qG mF;unfold mF at b;generalize yw L v=q at *;have A:=Cr (f:=fun x=>bH x v.o (L.g q 3)) (idx:=ou L (L.g q 2)) (R:=L.R) (d := -(L.g q 3)) (fun x C=>by obtain⟨_,_,_,_,_,_,_,_,_,B,_⟩:=Jk C; rw[B]; omega) _ b;have u:=h.gb q n;refine⟨fun k c => ?_,fun p l => ?_⟩
 ·show nZ ((cZ _ _ _ _).1 k)=oF L.t L.tn (aI L.g q (aI (L.g q) 4 v.req)) (L.id k) L.gn;rw[K5 _ n,<- h.us k c,A k];have a:qc L.t L.tn (aI (L.g q) 4 v.req) (L.id k)=0:=by
   unfold qc; rw[b_]; show ¬ v.req=0; omega
  have r:qc L.t L.tn (L.g q) (L.id k)=L.g q 3*Cq L.t L.tn (L.g q 2) (L.id k):=d_ D;rw[a,r];unfold Cq;rw[<- Nk (idx:=ou L (L.g q 2)) (k:=k) _ fun i w=>El s c w,Int.neg_mul];omega
 show 0<=bF L.t L.tn (aI L.g q (aI (L.g q) 4 v.req) p 2)/\1<=aI L.g q (aI (L.g q) 4 v.req) p 0/\aI L.g q (aI (L.g q) 4 v.req) p 0<=6/\0<=aI L.g q (aI (L.g q) 4 v.req) p 3/\aI L.g q (aI (L.g q) 4 v.req) p 3<=1125899906842624;by_cases e:p=q
 ·subst e;have a : ∀ j,j≠4->aI L.g p (aI (L.g p) 4 v.req) p j=L.g p j:=fun j y=>by
   show(if p=p then aI (L.g p) 4 v.req else L.g p) j=_;rw[d_ rfl]; exact b_ y
  rw[a 2 (by omega),a 0 (by omega),a 3 (by omega)]; exact u
 have a:aI L.g q (aI (L.g q) 4 v.req) p=L.g p:=b_ e;rw[a]; exact h.gb p l
theorem Jr{a:eY}(h:Al L)(j:a.nn=L.nn)(l:a.id=L.id)(c:a.tn=L.tn)(d:a.t=L.t)(e:a.gn=L.gn)(f:a.g=L.g)(m : ∀ k,k<L.nn->nZ (a.R k)=nZ (L.R k)):Al a:=by
 refine⟨fun k b => ?_,fun q i => ?_⟩
 ·rw[j]at b; rw[l,c,d,e,f,m k b]; exact h.us k b
 rw[e]at i; rw[c,d,f]; exact h.gb q i
theorem UN{q:Nat}{r:Nat->Int}{R:Nat->Nat->Int}(hr:nZ r=nZ (R q))(k:Nat):nZ (aI R q r k)=nZ (R k):=by
 unfold aI; split
 ·rename_i e; rw[e]; exact hr
 rfl
theorem pz.path{t t':Nat->Nat->Int}{tn:Nat}{id par z y:Int}(h:pz t t' tn id par)(A:1<=id)(r : ∀ i,i<tn->t i 1=0\/0<=bF t tn (t i 1))(p : ∃ D,D<=4/\bF t tn (aT t tn D z)<0)(C:0<=bF t tn z) :
 Cq t' (tn+1) z y=Cq t tn z y/\(y=id->Cq t tn z y=0):=by
 obtain⟨D,w,g⟩:=p;obtain⟨K,x,c,a⟩:=vF D g;have f:K=dF t tn z:=vo a c g (by omega);have d : ∀ i,i<=K->aT t' (tn+1) i z=aT t tn i z:=fun i b=>h.iter i fun j B=>a j (by omega);have k:bF t' (tn+1) (aT t' (tn+1) K z)<0:=by
  rw[d K (A_ _)]
  rcases ilt (bF t' (tn+1) (aT t tn K z))with h1|h1
  ·exact h1
  ·exfalso
   rcases h.find.1 h1 with h2|h2
   ·omega
   ·cases K with
    | zero=>have:bF t tn z<0:=c; omega
    | succ K =>
      obtain⟨i,b,e⟩:=gZ.1 (a K (by omega));have l:aT t tn (K+1) z=t i 1:=by
       show t (bF t tn (aT t tn K z)).toNat 1=t i 1;rw[<- e,vE h.u b]; rfl
      rw[l]at h2 c
      rcases r i b with h4|h4
      ·omega
      ·omega
 have m:K=dF t' (tn+1) z:=vo (fun i b=>by rw[d i (by omega)]; exact h.find.2 (.inl (a i b))) k k (by omega);have o : ∀ n,n<=K->Jp t' (tn+1) z y n=Jp t tn z y n:=by
  intro n
  induction n with
  | zero=>intro _; rfl
  | succ n ih=>intro q; unfold Jp; rw[ih (by omega),d n (by omega)]
 refine⟨?_,fun s => ?_⟩
 ·unfold Cq; rw[<- f,<- m]; exact o K (A_ _)
 subst s;have : ∀ n,n<=K->Jp t tn z y n=0:=by
  intro n
  induction n with
  | zero=>intro _; rfl
  | succ n ih =>
    intro q; unfold Jp;rw[ih (by omega),b_]
    ·rfl
    ·intro e;have:=a n (by omega);rw[e]at this;have v:=vB.2 h.no;omega
 unfold Cq; rw[<- f]; exact this K (A_ _)
attribute [local irreducible] dF in
theorem Np(a:Inv0 L T)(h:Al L)(l:bQ v=true)(s:v.kind=1)(r:kI L v=0):Al (qD L v):=by
 obtain⟨k,u,A,E,D,B,C,p,F,G,n⟩:=wR a l s r;have z:=jU l;rw[p];generalize jo v.o v.seq=x at *;have w : ∀ i,i<L.tn->L.t i 1=0\/0<=bF L.t L.tn (L.t i 1):=fun i c=>by
  have d:=c;rw[a.BH]at d;rw[(a.tid i d).2]
  rcases a.up i d with e|⟨j,hj,e⟩
  ·exact .inl e
  ·exact .inr (gZ.2 ⟨j,by rw[a.BH]; exact hj,by rw[(a.tid j hj).1]; exact e⟩)
 have m : ∀ q,q<L.gn -> ∀ y,Cq (oQ L.t k x v.node) (L.tn+1) (L.g q 2) y=Cq L.t L.tn (L.g q 2) y/\(y=x->Cq L.t L.tn (L.g q 2) y=0):=fun q b y=>n.path A w (a.dep _) (h.gb q b).1;refine⟨fun i c => ?_,fun q b => ?_⟩
 ·show nZ (cB L.R k (upd (fun _=>0) (aL v) v.aQ) i)=oF (oQ L.t k x v.node) (L.tn+1) L.g (cB L.id k x i) L.gn;rw[yV (t:=L.t) (tn:=L.tn) (g:=L.g) (y:=cB L.id k x i) L.gn fun q b=>by unfold qc; rw[(m q b _).1]]
  rcases dU u c with rfl|⟨j,hj,e,_,_⟩
  ·rw[dH,dH,K7 z,H6 L.gn fun q b=>by unfold qc; rw[(m q b _).2 rfl,Int.mul_zero]; exact ite_self _];rfl
  rw[e,e]; exact h.us j hj
 have f:=h.gb q b;exact⟨n.find.2 (.inl f.1),f.2⟩
theorem H7(g:Inv0 L T)(h:Al L)(c:bQ v=true)(a:dY L v=0):Al (gY L v):=by
 have m:=ji c;have l:=jU c;unfold dY at a;unfold gY;by_cases b:v.kind=1
 ·rw[d_ b]at a ⊢; exact Np g h c b a
 by_cases d:v.kind=2
 ·rw[b_ b,d_ d]at a ⊢;exact Jr h rfl rfl rfl rfl rfl rfl fun k _=>UN (K7 l) k
 by_cases e:v.kind=3
 ·rw[b_ b,b_ d,d_ e]at a ⊢; exact Nl g h c e a
 by_cases f:v.kind=4
 ·rw[b_ b,b_ d,b_ e,d_ f]at a ⊢; exact Nn g h c f a
 by_cases i:v.kind=5
 ·rw[b_ b,b_ d,b_ e,b_ f,d_ i]at a ⊢;unfold oZ at a;split at a; · cases a
  split at a; · cases a
  obtain⟨_,_,_,_,_,_,_,_,_,_,j,_⟩:=Bf a;exact Jr h rfl rfl rfl rfl rfl rfl fun k _=>UN j.u k
 rw[b_ b,b_ d,b_ e,b_ f,b_ i];split
 ·exact Jr h rfl rfl rfl rfl rfl rfl fun _ _=>rfl
 exact Jr h rfl rfl rfl rfl rfl rfl fun _ _=>rfl
theorem UO{t:Nat->Nat->Int}{tn D:Nat}{x:Int}(h:bF t tn (aT t tn D x)<0):dF t tn x<=D:=by
 rcases Nat.lt_or_ge D (dF t tn x)with h1|h1
 ·have:=yA h1; omega
 exact h1
theorem Inv0.aan(h:Inv0 L T)(x:Int):dF L.t L.tn x<=4:=by
 obtain⟨D,b,a⟩:=h.dep x;have:=UO a; omega
theorem Bj{x:Nat->Int}{p:Nat}{n c:Int}(h : ∀ a,a<54->x a<=c)(d:n<=c) : ∀ a,a<54->upd x p n a<=c:=fun a b=>by
 show(if a=p then n else x a)<=c;split
 ·exact d
 ·exact h a b
theorem FE{f:(Nat->Int)->(Nat->Int) × Int}{idx:Nat->Nat}{R:Nat->Nat->Int}{n:Nat}{B d:Int}(o:0<=d)(m : ∀ x c,(f x).2=0->(∀ a,a<54->x a<=c) -> ∀ a,a<54->(f x).1 a<=c+d)(j : ∀ k,k<n -> ∀ a,a<54->R k a<=B) : ∀(K:Nat) k,k<n -> ∀ a,a<54->(cZ f idx R K).1 k a<=B+d*(K:Int)
 | 0,k,hk,a,ha=>by have h:=j k hk a ha; show R k a<=B+d*0; omega
 | K+1,k,hk,a,ha=>by
   have b:=FE o m j (idx:=idx) K;have e:d*((K+1:Nat):Int)=d*(K:Int)+d:=(by rw[Int.natCast_succ,Int.mul_add,Int.mul_one]);rw[e];unfold cZ;by_cases l:(cZ f idx R K).2=0
   ·rw[d_ l];by_cases g:(f ((cZ f idx R K).1 (idx K))).2=0
    ·rw[d_ g];show(if k=idx K then _ else _:Nat->Int) a<=_;by_cases i:k=idx K
     ·rw[d_ i];have:=m _ (B+d*(K:Int)) g (by rw[<- i]; exact b k hk) a ha; omega
     ·rw[b_ i]; have:=b k hk a ha; omega
    ·rw[b_ g]; have:=b k hk a ha; show(cZ f idx R K).1 k a<=_; omega
   ·rw[b_ l]; have:=b k hk a ha; omega
theorem UQ{i n c:Int}{x:Nat->Int}(g:n<=65536)(h:(bD x i n).2=0)(hx : ∀ a,a<54->x a<=c) : ∀ a,a<54->(bD x i n).1 a<=c+65536:=by
 obtain⟨a,f,_,_,_,_,_,_,_,_,_,e⟩:=Jj h;rw[e];have:=hx (6+a) (by omega);exact Bj (fun b d=>by have:=hx b d; omega) (by omega)
theorem UR{i n c:Int}{x:Nat->Int}(h:(bH x i n).2=0)(hx : ∀ a,a<54->x a<=c) : ∀ a,a<54->(bH x i n).1 a<=c+0:=by
 obtain⟨a,g,_,_,_,b,_,_,_,_,e⟩:=Jk h;rw[e,D_];have d:=hx (6+a) (by omega);have f:n<=x (6+a)-x (12+a):=b;exact Bj hx (by omega)
theorem O5(h:QL L T){a:Nat}{r:Int}(hr:r<=256) : ∀ i,i<6 -> ∀ j,j<aI L.rn a (L.rn a+1) i->aI L.rq a (aI (L.rq a) (L.rn a) r) i j<=256:=fun i d j b=>by
 unfold aI at b ⊢;by_cases e:i=a
 ·subst e;rw[d_ rfl]at b ⊢;by_cases c:j=L.rn i
  ·rw[d_ c]; exact hr
  ·rw[b_ c]; exact h.rq i d j (by omega)
 ·rw[b_ e]at b ⊢; exact h.rq i d j b
attribute [local irreducible] dF in
theorem QM(A:Inv0 L T)(h:QL L T)(E:ow v)(D:bQ v=true)(d:dY L v=0) :
 (∀ k,k<(gY L v).nn -> ∀ a,a<54->(gY L v).R k a<=2097152*((T+1:Nat):Int))/\(∀ i,i<6 -> ∀ j,j<(gY L v).rn i->(gY L v).rq i j<=256):=by
 have m:=ji D;have ab:=jU D;have V:(0:Int)<=(T:Int):=Int.natCast_nonneg _;have X:((T+1:Nat):Int)=(T:Int)+1:=Int.natCast_succ _;have u : ∀ k,k<L.nn -> ∀ a,a<54->L.R k a<=2097152*((T+1:Nat):Int):=fun k m a l=>by have:=h.rb k m a l; omega
 have G : ∀ q r,(∀ a,a<54->r a<=2097152*((T+1:Nat):Int)) -> ∀ k,k<L.nn -> ∀ a,a<54->aI L.R q r k a<=2097152*((T+1:Nat):Int):=fun q r O k m a l=>by
  unfold aI; split
  ·exact O a l
  ·exact u k m a l
 have P:=E.aQ;unfold dY at d;unfold gY;by_cases s:v.kind=1
 ·rw[d_ s]at d ⊢;obtain⟨k,N,ae,Z,Y,Q,S,I,aa,ac,ad⟩:=wR A D s d;rw[I];refine⟨fun i M a l => ?_,h.rq⟩;show cB L.R k (upd (fun _=>0) (aL v) v.aQ) i a<=_
  rcases dU N M with rfl|⟨j,hj,e,_,_⟩
  ·rw[dH];exact Bj (c:=2097152*((T+1:Nat):Int)) (fun b _=>by omega) (by omega) a l
  rw[e]; exact u j hj a l
 by_cases z:v.kind=2
 ·rw[b_ s,d_ z]at d ⊢;unfold wQ at d;split at d; · cases d
  rename_i n1;split at d; · cases d
  have w:=A.O4 n1;have J:=h.rb _ w (aL v) (by omega);exact⟨G _ _ (Bj (fun b B=>u _ w b B) (by omega)),h.rq⟩
 by_cases C:v.kind=3
 ·rw[b_ s,b_ z,d_ C]at d ⊢;have y : ∀ k,k<L.nn -> ∀ a,a<54->(nD L v).1 k a<=2097152*((T+1:Nat):Int):=fun k m a l=>by
   have U:=A.aan v.node;have:=FE (f:=fun x=>bD x v.o v.aQ) (idx:=ou L v.node) (by decide) (fun x c=>UQ P) h.rb (dF L.t L.tn v.node) k m a l;unfold nD; omega
  unfold mE qG;generalize nD L v=W at y;exact⟨y,O5 h E.req⟩
 by_cases F:v.kind=4
 ·rw[b_ s,b_ z,b_ C,d_ F]at d ⊢;have y : ∀ k,k<L.nn -> ∀ a,a<54->(mF L v).1 k a<=2097152*((T+1:Nat):Int):=fun k m a l=>by
   have:=FE (f:=fun x=>bH x v.o (L.g (yw L v) 3)) (idx:=ou L (L.g (yw L v) 2)) (N_ 0) (fun x c=>UR) h.rb (dF L.t L.tn (L.g (yw L v) 2)) k m a l;unfold mF; omega
  unfold kJ qG;generalize mF L v=W at y;exact⟨y,O5 h E.req⟩
 by_cases H:v.kind=5
 ·rw[b_ s,b_ z,b_ C,b_ F,d_ H]at d ⊢;unfold oZ at d;split at d; · cases d
  rename_i n1;split at d; · cases d
  have w:=A.O4 n1;obtain⟨a,b,l,B,_,_,_,_,_,_,_,e⟩:=Bf d;have J:=h.rb _ w (18+a*6+b) (by omega);have K:=G (L.node v.node).toNat _ (Bj (x:=L.R (L.node v.node).toNat) (p:=18+a*6+b) (n:=L.R (L.node v.node).toNat (18+a*6+b)+v.aQ) (fun b B=>u _ w b B) (by omega));refine⟨?_,h.rq⟩;show ∀ k,k<L.nn -> ∀ c,c<54->aI L.R (L.node v.node).toNat (yx L v).1 k c<=_;unfold yx;rw[e]; exact K
 rw[b_ s,b_ z,b_ C,b_ F,b_ H];split
 ·exact⟨u,h.rq⟩
 exact⟨u,h.rq⟩
theorem QL.mono{T':Nat}(h:QL L T)(e:T<=T'):QL L T' where
 kt:=fun i c=>by have:=h.kt i c; omega
 rb:=fun k d a b=>by have:=h.rb k d a b; omega
 rq:=h.rq
theorem H8(j:ow v)(h:Inv L T):Inv (bV L v) (T+1):=by
 refine⟨Ak h.toInv0,?_,?_⟩ <;> unfold bV <;> by_cases a:bA L v=0
 ·rw[d_ a];unfold bA at a;split at a; · cases a
  rename_i d;split at a; · cases a
  split at a; · cases a
  split at a; · cases a
  have e:bQ v=true:=by simpa using d
  have c:=H7 h.toInv0 h.s e a;exact⟨c.us,c.gb⟩
 ·rw[b_ a]; exact h.s
 ·rw[d_ a];unfold bA at a;split at a; · cases a
  rename_i d;split at a; · cases a
  split at a; · cases a
  split at a; · cases a
  have e:bQ v=true:=by simpa using d
  have c:=QM h.toInv0 h.b j e a;refine⟨fun i g => ?_,c.1,c.2⟩;have f:(Hy (gY L v) v).known=aI L.known (aL v) (L.known (aL v)+1):=by unfold Hy; simp only[qb]
  rw[f];have d:=h.b.kt i g;have k:=h.b.kt (aL v) (jU e);unfold aI;split <;> omega
 rw[b_ a]; exact h.b.mono (Nat.le_succ T)
theorem Inv.mono{T':Nat}(h:Inv L T)(a:T<=T'):Inv L T':=⟨h.toInv0.mono a,h.s,h.b.mono a⟩
end
end Rt
end
section
namespace Rt
def evX(e:Nat->EvM):Nat->Value:=flat 14 fun k=>bM (e k)
noncomputable def nM(e:Nat->EvM)(K:Nat->Int)(L:eY):Nat->eY
 | 0=>L
 | j+1=>if(e j).seq<=K (aL (e j))then bV (nM e K L j) (e j)else nM e K L j
def K8(L M:eY):Prop := ∀ i,i<6->L.known i=M.known i
open Classical in
noncomputable def iB(e:Nat->EvM)(n:Nat)(K:Nat->Int):Nat->eY->eY
 | 0,L=>L
 | f+1,L=>if K8 (nM e K L n) L then nM e K L n else iB e n K f (nM e K L n)
noncomputable def FH(e:Nat->EvM)(n:Nat)(K:Nat->Int)(L:eY):eY:=iB e n K (n+1) L
section
variable {e:Nat->EvM} {K:Nat->Int} {L M M':eY} {j n r:Nat}
theorem UU(h:M=nM e K L j)(b:(e j).seq<=K (aL (e j)))(a:M'=bV M (e j)):M'=nM e K L (j+1):=by unfold nM; rw[d_ b,<- h,a]
theorem Yu(h:M=nM e K L j)(a : ¬ (e j).seq<=K (aL (e j))):M=nM e K L (j+1):=by unfold nM; rw[b_ a,<- h]
theorem QN(hr:r<=n)(h:M=nM e K L n)(a:K8 M L):iB e n K (n+1-r) L=M:=by
 rw[show n+1-r=(n-r)+1 by omega]; unfold iB; rw[<- h,d_ a]
theorem UW(hr:r<=n)(h:M=nM e K L n)(a : ¬ K8 M L):iB e n K (n+1-(r+1)) M=iB e n K (n+1-r) L:=by
 rw[show n+1-r=(n-r)+1 by omega,show n+1-(r+1)=n-r by omega]
 conv=>rhs; unfold iB
 rw[<- h,b_ a]
theorem H9{m a:kR}:K8 m.core a.core <-> ∀ i,i<6->(rv .u64 m.s.known) i=(rv .u64 a.s.known) i:=by
 unfold K8 rv;simp only[Value.int.injEq,true_and]; exact Iff.rfl
end
theorem BX.kd{K:Nat->Int}(h:BX K):Fx.Kd (List.replicate 6 (some .u64)) (rv .u64 K):=Fx.J6 fun i a=>Fx.tC (by have:=h i a; omega)
end Rt
attribute [irreducible] Rt.iB
set_option maxRecDepth 20000 in
theorem Yv(m:kR)(B p T:Nat)(O:Option Addr)(an E:Nat)(ev:Nat->EvM)(K:Nat->Int)(w:World)(hL:um w B p m)(hI:Inv m.core T)(hA:mY w O an 14 (evX ev))(hwf : ∀ k,k<an->gu (ev k))(hmay : ∀ k,k<an->bQ (ev k)=true)(hsm : ∀ k,k<an->ow (ev k))(han:an<=60)(hT:T<=890000) :
 Calls Tryz.prog 56 #[(pt p),.slice O (an) (E),.agg (aA 6 (rv .u64 K))] w fun e w' => ∃ p' m',e = .returned (pt p')/\m'.core=FH ev an K m.core/\Inv m'.core (T+3660)/\um w' B p' m'/\Below w.heap.size w w':=by
 refine Kent Tryz.func56 59 ?_;refine ay<|pR fun H w1 mo g s1 z1 => ?_;have⟨l,b1⟩:=fq s1.old hL (Below.refl w.heap.size w);have sM:=gT mo;have ug:=g.lt;refine av (.pointer none)<|aD<|Ws<|ay<|av (au 0)<|aD<|Wb<|Wo (fun f z => ∃ r:Nat,∃ x:Nat,∃ g:kR,∃ N:Nat,r<=an+1/\iB ev an K (an+1-r) g.core=FH ev an K m.core/\Inv g.core N/\N<=T+r*60/\f 0=(pt x)/\f 1 = .slice O (an) (E)/\f 5=(pt H)/\f 7=au (r:Int)/\aR z H 6 (rv .u64 K) 35/\um z B x g/\Below w.heap.size w z) (fun f _=>(an+1-(intOf (f 7)).toNat)) ⟨0,p,m,T,by omega,rfl,hI,by omega,(by rfl),(by rfl),(by rfl),Fx.ic,g,l,b1⟩ ?_;rintro f1 w2 ⟨r,x,g,N,hr,hc1,S,hT1,h1,h2,h3,h4,m3,m4,b2⟩;refine Ws<|ay<|bf h4<|bf h2<|av (au an) ?_;by_cases c13:(r:Int)<=(an:Int)
 ·refine Lv aG (mZ c13)<|aD<|aO<|Wk<|sN<|Ws<|Wb<|Ws ?_;have ahe:=m4.c;refine Wl<|bf h1<|av (pt x)<|av (pt x)<|av (pf x 12)<|Lv (.agg (aA 6 (rv .u64 g.s.known))) (fD ahe.aH 12 (fun j V=>kF _ (by omega) (jO _ V (by omega))))<|rR 6 (rv .u64 (fun _=>0)) fun g2 w3 AA m5 s2 z2 => ?_;have⟨m6,m7,b3⟩:=iy s2.old m3 m4 b2;have ru:=iQ AA b2.size;have⟨aak,aao⟩:=wh AA m3.lt ahe.lt;have zK:=m5.lt;refine eP m5 0 fun w4 m9 s3 z3 => ?_;have m10:aR w4 g2 6 (rv .u64 g.s.known) 35:=aS m9;have m11:=m6.cO s3 (by omega);have gV:=gP s3 m5.ty;have m12:=kQ gV m7;have b4:=s3.below b3 b3.size (by omega);refine aD<|Ws<|ay<|av (au 0)<|aD<|Wb<|Wo (fun f z => ∃ j:Nat,∃ u:Nat,∃ l:kR,∃ A:Nat,j<=an/\l.core=nM ev K g.core j/\Inv l.core A/\A<=T+r*60+j/\f 0=(pt u)/\f 1 = .slice O (an) (E)/\f 5=(pt H)/\f 7=au (r:Int)/\f 8=(pt g2)/\f 9=au (j:Int)/\aR z H 6 (rv .u64 K) 35/\aR z g2 6 (rv .u64 g.s.known) 35/\um z B u l/\Below w.heap.size w z) (fun f _=>(an-(intOf (f 9)).toNat)) ⟨0,x,g,N,by omega,rfl,S,by omega,h1,h2,h3,(h4.trans Fx.ic),(by rfl),Fx.ic,m11,m10,m12,b4⟩ ?_;rintro f2 t ⟨j,u,l,A,V,U,D,hT2,I,C,R,h8,h9,y,W,m15,J,G⟩;refine Ws<|ay<|bf y<|bf C<|av (au an) ?_;by_cases c24:(j:Int)<(an:Int)
  ·refine Lv aG (iq c24)<|aD<|aO<|Wk<|sN<|Ws<|Wb<|Ws ?_;obtain⟨a,ha,ho⟩:=eU (iV (hmay j (by omega)));have eN:aL (ev j)=a:=(by unfold aL; omega);refine uO<|dZ C<|dZ y ?_;obtain⟨F,L,eq1,Z⟩:=(hA.up G rfl) (by omega);have ahf:F<t.heap.size:=Z.lt (by omega);refine Qv (pf F (14*j+L)) (fun b d=>dh 14 (hx:=(rfl.trans (L_ (fun q=>Value.slice q (an) (E)) eq1))))<|aX (pf F (14*j+L+1))<|Qv (aC ((ev j).seq)) (fun b d=>aM (Z.dr d) (14*j+1) (Fx.gJ (k:=j) (j:=1) (by omega) (by omega) rfl))<|dZ C<|dZ y<|Qv (pf F (14*j+L)) (fun b d=>dh 14 (hx:=(rfl.trans (L_ (fun q=>Value.slice q (an) (E)) eq1))))<|aX (pf F (14*j+L))<|Qv (au ((ev j).o)) (fun b d=>aM (Z.dr d) (14*j) (Fx.gJ (k:=j) (j:=0) (by omega) (by omega) rfl))<|Qv (au a) (fun b d=>gD)<|Qv (pf H a) (fun b d=>jM 6 1 (hx:=R))<|Qv (aC (K a)) (fun b d=>aM (W.aH.dr d) a) ?_;by_cases P:((ev j).seq)<=(K a)
   ·refine Qv aG (fun b d=>mZ P)<|Qn ?_;rintro _ ⟨v,rfl⟩;obtain⟨BZ,oU⟩ : ∃ b,b=World.drewN t v:=⟨_,rfl⟩;rw[<- oU];have s4:Stp t.heap.size t BZ:=(by rw[oU]; exact Sb (je t v));have⟨m18,m19,m20,m21,b6⟩:=qU s4.old W m15 J Z G;clear oU;refine sN<|aO<|Wl<|bf I<|bf C<|bf y<|Lv (pf F (14*j+L)) (dh 14 (hx:=(rfl.trans (L_ (fun q=>Value.slice q (an) (E)) eq1))))<|Lv (.agg (aA 14 (bM (ev j)))) (fD m21 (14*j) (fun jq hjq=>Fx.jJ (k:=j) (by omega) hjq))<|mh (OY l B u A (ev j) _ m20 (hwf j (by omega)) D.w (by omega)) ?_;rintro e9 w6 ⟨M,m3,he,hc3,hL1,hb1⟩;refine⟨.tuple #[(pt M),au (bA l.core (ev j))],he,?_⟩;clear he;have⟨m22,m23,b7⟩:=iy hb1 m18 m19 b6;refine av (.tuple #[(pt M),au (bA l.core (ev j))])<|av (pt M)<|av (au (bA l.core (ev j)))<|av (pt M)<|Ln<|bR<|sN<|Wl<|bf y<|Lv (au ((j:Int)+1)) fC<|av (au ((j:Int)+1))<|Ln<|ig ⟨j+1,M,m3,A+1,by omega,(UU U (by rw[eN]; exact P) hc3),(by rw[hc3]; exact H8 (hsm j (by omega)) D),by omega,(by rfl),C,R,(h8.trans Fx.ic),h9,Fx.ic,m22,m23,hL1,b7⟩ ?_;show(an-(intOf (au ((j:Int)+1))).toNat)<_;simp only[y,intOf]; omega
   refine Qv aF (fun b d=>nP P)<|Qn ?_;rintro _ ⟨v,rfl⟩;obtain⟨wq2,sG⟩ : ∃ b,b=World.drewN t v:=⟨_,rfl⟩;rw[<- sG];have s6:Stp t.heap.size t wq2:=(by rw[sG]; exact Sb (je t v));have⟨mQ,nH,oq,b8⟩:=kV s6.old W m15 J G;clear sG;refine sN<|aK<|Wk<|bR<|sN<|Wl<|bf y<|Lv (au ((j:Int)+1)) fC<|av (au ((j:Int)+1))<|Ln<|ig ⟨j+1,u,l,A,by omega,(Yu U (by rw[eN]; exact P)),D,by omega,I,C,R,(h8.trans Fx.ic),h9,Fx.ic,mQ,nH,oq,b8⟩ ?_;show(an-(intOf (au ((j:Int)+1))).toNat)<_;simp only[y,intOf]; omega
  refine Lv aF (iw c24)<|aD<|aK<|Wx<|bZ<|gL<|cu<|sN<|Ws ?_;have aob:=J.c;refine uO<|dZ I<|aX (pt u)<|aX (pt u)<|aX (pf u 12)<|Qv (.agg (aA 6 (rv .u64 l.s.known))) (fun b d=>fD (aob.aH.dr d) 12 (fun j V=>kF _ (by omega) (jO _ V (by omega))))<|Qv (.agg (aA 6 (rv .u64 g.s.known))) (fun b d=>fD (m15.aH.dr d) 0 (ha:=h9)) ?_;by_cases Q : ∀ i,i<6->(rv .u64 l.s.known) i=(rv .u64 g.s.known) i
  ·refine Qv aG (fun b d=>Fx.rQ (n:=6) (ks:=List.replicate 6 (some .u64)) (X:=rv .u64 l.s.known) (Y:=rv .u64 g.s.known) 12 true rfl rfl rfl (Fx.Dz Q) (BX.kd D.kn) (BX.kd S.kn) rfl (by kernel_rfl) (by kernel_rfl) (by kernel_rfl) (by kernel_rfl) (by kernel_rfl))<|Qn ?_;rintro _ ⟨v,rfl⟩;obtain⟨Xd,Aj⟩ : ∃ b,b=World.drewN t v:=⟨_,rfl⟩;rw[<- Aj];have s7:Stp t.heap.size t Xd:=(by rw[Aj]; exact Sb (je t v));have⟨mI,b9⟩:=fq s7.old J G;clear Aj;refine sN<|aO<|ay<|bf I<|av (pt u)<|aD<|Wr<|bL<|sR<|pO<|bL<|sR<|aJ (pt u) ?_;exact⟨u,l,rfl,((QN (n:=an) (r:=r) (by omega) (by rw[show an=j by omega]; exact U) (H9.2 Q)).symm.trans hc1),D.mono (by omega),mI,b9⟩
  refine Qv aF (fun b d=>Fx.rQ (n:=6) (ks:=List.replicate 6 (some .u64)) (X:=rv .u64 l.s.known) (Y:=rv .u64 g.s.known) 12 false rfl rfl rfl (Fx.nob Q) (BX.kd D.kn) (BX.kd S.kn) rfl (by kernel_rfl) (by kernel_rfl) (by kernel_rfl) (by kernel_rfl) (by kernel_rfl))<|Qn ?_;rintro _ ⟨v,rfl⟩;obtain⟨wq4,Fy⟩ : ∃ b,b=World.drewN t v:=⟨_,rfl⟩;rw[<- Fy];have s8:Stp t.heap.size t wq4:=by rw[Fy]; exact Sb (je t v)
  have⟨qB,qC,b10⟩:=iy s8.old W J G;clear Fy;refine sN<|aK<|Wk<|bR<|sN<|Wl<|bf h8<|Lv (au ((r:Int)+1)) fC<|av (au ((r:Int)+1))<|Ln<|ig ⟨r+1,u,l,A,by omega,(UW (by omega) (by rw[show an=j by omega]; exact U) (fun h=>Q (H9.1 h))).trans hc1,D,by omega,I,C,R,Fx.ic,qB,qC,b10⟩ ?_;show(an+1-(intOf (au ((r:Int)+1))).toNat)<_;simp only[h4,intOf]; omega
 refine Lv aF (nP c13)<|aD<|aK<|Wx<|bZ<|gL<|cu<|sN<|ay<|bf h1<|av (pt x)<|aD<|Wr<|aJ (pt x) ?_;exact⟨x,g,rfl,(by rw[<- hc1,show an+1-r=0 by omega]; unfold iB; rfl),S.mono (by omega),m4,b2⟩
end
section
namespace Rt
def zeroE:EvM:=⟨0,0,fun _=>0,0,0,0,0,0,0⟩
def fI(ev:Nat->EvM):Nat->Nat->Int
 | 0,_=>0
 | k+1,i=>fI ev k i+if aL (ev k)=i then 1 else 0
structure JX(ev:Nat->EvM)(an:Nat)(K:Nat->Int):Prop where
 le : ∀ i,i<6->K i<=fI ev an i
 cl : ∀ k,k<an->(ev k).seq<=K (aL (ev k)) -> ∀ i,i<6->(ev k).deps i<=K i
structure Cz(n an:Nat)(ev:Nat->EvM)(kn:Nat->Nat->Int):Prop where
 rd : ∀ k,k<an->dz (fI ev k) (ev k)=true
 reg : ∀ k,k<an->aL (ev k)<n
 own : ∀ o,o<n->kn o o=fI ev an o
 kc : ∀ o,o<n->JX ev an (kn o)
section
variable {ev:Nat->EvM} {an n j k i:Nat} {K:Nat->Int} {kn kn':Nat->Nat->Int} {v:EvM} {L:eY}
theorem UY : ∀ d k i,fI ev k i<=fI ev (k+d) i
 | 0,_,_=>N_ _
 | d+1,k,i=>by have:=UY d k i; show _<=fI ev (k+d) i+_; split <;> omega
theorem cnt_mono(h:j<=k):fI ev j i<=fI ev k i:=by have:=UY (ev:=ev) (k-j) j i; rwa [show j+(k-j)=k by omega]at this
theorem Em(h:j<k):fI ev j (aL (ev j))+1<=fI ev k (aL (ev j)):=by
 have a:fI ev (j+1) (aL (ev j))<=fI ev k (aL (ev j)):=cnt_mono (by omega);have b:fI ev (j+1) (aL (ev j))=fI ev j (aL (ev j))+1:=by show _+(if _ then _ else _)=_; rw[d_ rfl]
 omega
theorem FI : ∀ k i,0<=fI ev k i
 | 0,_=>N_ _
 | k+1,i=>by have:=FI k i; unfold fI; split <;> omega
theorem Dj(h:dz K v=true):bQ v=true/\v.seq=K (aL v)+1 /\ ∀ i,i<6->v.deps i<=K i:=by
 unfold dz at h;simp only[S_,decide_eq_true_eq]at h;refine⟨h.1.1,h.1.2,fun i a => ?_⟩;have:=h.2;unfold yh at this;rw[List.all_eq_true]at this;exact h_ (this i (O_.2 a))
theorem Js(h1:bQ v=true)(a:v.seq=K (aL v)+1)(b : ∀ i,i<6->v.deps i<=K i):dz K v=true:=by
 unfold dz;simp only[S_,decide_eq_true_eq];refine⟨⟨h1,a⟩,?_⟩;unfold yh;rw[List.all_eq_true];intro i c;exact f_ (b i (O_.1 c))
theorem Cz.seq(h:Cz n an ev kn)(a:k<an):(ev k).seq=fI ev k (aL (ev k))+1:=(Dj (h.rd k a)).2.1
theorem Cz.Nq(h:Cz n an ev kn)(a:k<an):(ev k).seq<=fI ev an (aL (ev k)):=by rw[h.seq a]; exact Em a
theorem Cz.uniq(h:Cz n an ev kn)(c:j<an)(d:k<an)(b:aL (ev j)=aL (ev k))(a:(ev j).seq=(ev k).seq):j=k:=by
 rw[h.seq c,h.seq d]at a
 rcases Nat.lt_trichotomy j k with h1|h1|h1
 ·have:=Em (ev:=ev) h1; rw[b]at this a; omega
 ·exact h1
 have:=Em (ev:=ev) h1; rw[<- b]at this a; omega
theorem Cz.step(h:Cz n an ev kn)(c:JX ev an K)(d:j<an)(hr:dz K (ev j)=true):JX ev an (aI K (aL (ev j)) (K (aL (ev j))+1)):=by
 obtain⟨_,l,m⟩:=Dj hr;have g : ∀ i,K i<=aI K (aL (ev j)) (K (aL (ev j))+1) i:=fun i=>by unfold aI; split <;> (try subst_vars) <;> omega
 refine⟨fun i a => ?_,fun k f b i a => ?_⟩
 ·unfold aI; split
  ·rename_i e; rw[e,<- l]; exact h.Nq d
  exact c.le i a
 by_cases e:(ev k).seq<=K (aL (ev k))
 ·exact R_ (c.cl k f e i a) (g i)
 unfold aI at b;split at b
 ·rename_i e2;rw[e2]at e;have:k=j:=h.uniq f d e2 (by omega);subst this;exact R_ (m i a) (g i)
 exact M_ b e
theorem iK(h:bA L v=0):dz L.known v=true:=by
 unfold bA at h;split at h; · cases h
 split at h; · cases h
 split at h; · cases h
 rename_i h3
 cases e:dz L.known v with
 | true=>rfl
 | false=>exact M_ e h3
theorem lW(L:eY)(v:EvM):(bA L v=0/\(bV L v).known=aI L.known (aL v) (L.known (aL v)+1))\/(bA L v≠0/\bV L v=L):=by
 by_cases h:bA L v=0
 ·refine .inl ⟨h,?_⟩;unfold bV; rw[d_ h];show aI (gY L v).known _ _=_;rw[qb]
 refine .inr ⟨h,?_⟩;unfold bV; rw[b_ h]
def KnO(ev:Nat->EvM)(an o:Nat)(K:Nat->Int):Prop:=JX ev an K/\K o=fI ev an o
theorem Cz.apply(h:Cz n an ev kn){o:Nat}(a:KnO ev an o L.known)(c:j<an):KnO ev an o (bV L (ev j)).known:=by
 rcases lW L (ev j)with ⟨f,b⟩|⟨_,b⟩
 ·have d:=iK f;rw[b];refine⟨h.step a.1 c d,?_⟩;unfold aI;split
  ·rename_i e;have:=(Dj d).2.1;have g:=h.Nq c;rw[<- e]at this g;have:=a.2;omega
  exact a.2
 rw[b]; exact a
theorem Cz.pass(h:Cz n an ev kn){o:Nat}{b:Nat->Int}(a:KnO ev an o L.known) : ∀ j,j<=an->KnO ev an o (nM ev b L j).known
 | 0,_=>a
 | j+1,hj=>by
   unfold nM;split
   ·exact h.apply (h.pass a j (by omega)) (by omega)
   ·exact h.pass a j (by omega)
theorem Cz.iB(h:Cz n an ev kn){o:Nat}{a:Nat->Int} : ∀ f L,KnO ev an o L.known->KnO ev an o (iB ev an a f L).known
 | 0,L,hL=>by unfold Rt.iB; exact hL
 | f+1,L,hL=>by
   unfold Rt.iB;split
   ·exact h.pass hL an (A_ _)
   ·exact h.iB f _ (h.pass hL an (A_ _))
theorem Cz.learn(h:Cz n an ev kn){o:Nat}(g:o<n){b:Nat->Int}(i:L.known=kn o)(c : ∀ q,q≠o->kn' q=kn q)(d:kn' o=(FH ev an b L).known):Cz n an ev kn':=by
 have f:KnO ev an o (FH ev an b L).known:=h.iB (an+1) L (by rw[i]; exact⟨h.kc o g,h.own o g⟩);refine⟨h.rd,h.reg,fun q a => ?_,fun q a => ?_⟩
 ·by_cases e:q=o
  ·subst e; rw[d]; exact f.2
  rw[c q e]; exact h.own q a
 by_cases e:q=o
 ·subst e; rw[d]; exact f.1
 rw[c q e]; exact h.kc q a
theorem Bl : ∀ k,k<=an -> ∀ i,fI (aI ev an v) k i=fI ev k i
 | 0,_,_=>rfl
 | k+1,hk,i=>by
   have e:aI ev an v k=ev k:=(by unfold aI; rw[b_ (by omega)]);show fI (aI ev an v) k i+(if aL (aI ev an v k)=i then 1 else 0)=fI ev k i+if aL (ev k)=i then 1 else 0;rw[e,Bl k (by omega) i]
theorem O6(i:Nat):fI (aI ev an v) (an+1) i=fI ev an i+if aL v=i then 1 else 0:=by
 show fI (aI ev an v) an i+(if aL (aI ev an v an)=i then 1 else 0)=_;rw[Bl an (A_ _)];unfold aI; rw[d_ rfl]
theorem Cz.event(h:Cz n an ev kn){o:Nat}(m:o<n)(hr:dz (kn o) v=true)(d:aL v=o)(y:v.deps=kn o)(g : ∀ q,q≠o->kn' q=kn q)(j:kn' o=aI (kn o) o (kn o o+1)):Cz n (an+1) (aI ev an v) kn':=by
 obtain⟨u,t,z⟩:=Dj hr;rw[d]at t;have s : ∀ k,k<an->aI ev an v k=ev k:=fun k l=>by unfold aI; rw[b_ (by omega)]
 have r:aI ev an v an=v:=by unfold aI; rw[d_ rfl]
 have p:=h.own o m;refine⟨fun k l => ?_,fun k l => ?_,fun q c => ?_,fun q c=>⟨fun i b => ?_,fun k l a i b => ?_⟩⟩
 ·have e:fI (aI ev an v) k=fI ev k:=funext fun i=>Bl k (by omega) i;rw[e];by_cases f:k=an
  ·subst f; rw[r];refine Js u (by rw[d,t,p]) fun i b => ?_;exact R_ (z i b) ((h.kc o m).le i b)
  rw[s k (by omega)]; exact h.rd k (by omega)
 ·by_cases f:k=an
  ·subst f; rw[r,d]; exact m
  rw[s k (by omega)]; exact h.reg k (by omega)
 ·rw[O6,d];by_cases e:q=o
  ·subst e; rw[j,d_ rfl]; unfold aI; rw[d_ rfl,p]
  rw[g q e,b_ (fun x=>e x.symm),h.own q c,D_]
 ·rw[O6,d];by_cases e:q=o
  ·subst e; rw[j]; unfold aI;split
   ·rename_i ei; subst ei; rw[d_ rfl,p]; exact N_ _
   have:=(h.kc q c).le i b; split <;> omega
  rw[g q e]; have:=(h.kc q c).le i b; split <;> omega
 by_cases f:k=an
 ·subst f;rw[r]at a ⊢;by_cases e:q=o
  ·subst e; rw[j,y]; unfold aI; split <;> (try subst_vars) <;> omega
  rw[g q e,d,t]at a;have:=(h.kc q c).le o;have w:o<6:=by have:=jU u; omega
  have:=this w;omega
 rw[s k (by omega)]at a ⊢;by_cases e:q=o
 ·subst e;rw[j]at a ⊢;have A : ∀ i,kn q i<=aI (kn q) q (kn q q+1) i:=fun i=>by unfold aI; split <;> (try subst_vars) <;> omega
  refine R_ ((h.kc q c).cl k (by omega) ?_ i b) (A i);unfold aI at a;split at a
  ·rename_i e3; have:=h.Nq (k:=k) (by omega); rw[e3]at this ⊢; omega
  exact a
 rw[g q e]at a ⊢; exact(h.kc q c).cl k (by omega) a i b
theorem Cz.zero(n:Nat)(h : ∀ o,o<n->kn o=fun _=>0):Cz n 0 ev kn:=⟨fun _ h=>M_ h (z_ _),fun _ h=>M_ h (z_ _),fun o a=>by rw[h o a]; rfl,fun o a=>⟨fun i _=>by rw[h o a]; exact N_ _,fun _ h=>M_ h (z_ _)⟩⟩
end
end Rt
end
end Go.Proofs.YtcbedgfikejkoaaGreatDoor
namespace Go.Proofs.YtcbedgfikejkoaaGreatDoor
open Go.RowKit
namespace Fx
section
variable {S S':Nat->Prop}
theorem jV.trans(w w' c:World)(h:jV S w w')(k:jV S w' c):jV S w c:=⟨k.os.trans h.os,k.tape.trans h.tape,k.output.trans h.output,m_ h.size k.size,fun i b a=>(k.block i (n_ b h.size) a).trans (h.block i b a)⟩
theorem jV.mono{w w':World}(h:jV S w w')(a : ∀ k,S k->S' k):jV S' w w':=⟨h.os,h.tape,h.output,h.size,fun i b c=>h.block i b fun d=>c (a i d)⟩
theorem jV.BP{g:Nat}{w w':World}(h:Stp g w w'):jV (fun k=>k=g) w w':=(uH _ w).then h (.inl rfl)
end
end Fx
end Go.Proofs.YtcbedgfikejkoaaGreatDoor
namespace Go.Proofs.YtcbedgfikejkoaaGreatDoor
open Go.RowKit Rt
open Fx (Sb rv aA aR ev dD Mp iD jV iP)
section
structure dO where
 inn:Nat->Bool
 left:Nat->Bool
 known:Nat->Int
 own:Nat->Int
 T:dN
 R:Nat->Nat->Int
 gn:Nat
 g:Nat->Nat->Int
 an:Nat
 ao:Nat->Int
 ar:Nat->Int
 tp:Nat
 mb:Nat
 pb:Nat
 rb:Nat
 gb:Nat
 ab:Nat
def vG(m:dO):Nat->Value:=fun p=>if p<6 then .bool (m.inn p)else if p<12 then .bool (m.left (p-6))else if p<18 then .int .u64 (m.known (p-12))else if p=18 then .pointer (some ⟨m.tp,0,none⟩)else if p=19 then .map (some m.pb)else if p=20 then .map (some m.rb)else if p<27 then .int .i64 (m.own (p-21))else if p=27 then .map (some m.gb)else .map (some m.ab)
section
variable {m:dO} {p q:Nat}
theorem Ct(h:p<6):vG m p = .bool (m.inn p):=by unfold vG; rw[d_ h]
theorem Bn(h:p<6)(e:q=p+6):vG m q = .bool (m.left p):=by subst e; unfold vG; rw[b_ (by omega),d_ (by omega),Nat.add_sub_cancel]
theorem rG(h:p<6)(e:q=p+12):vG m q = .int .u64 (m.known p):=by subst e; unfold vG; rw[b_ (by omega),b_ (by omega),d_ (by omega),Nat.add_sub_cancel]
theorem Jt(h:p<6)(e:q=p+21):vG m q = .int .i64 (m.own p):=by subst e; unfold vG; rw[b_ (by omega),b_ (by omega),b_ (by omega),b_ (by omega),b_ (by omega),b_ (by omega),d_ (by omega),Nat.add_sub_cancel]
theorem UZ{i:Nat}(hi:i<6)(b:Bool):dD (vG m) i (.bool b)=vG { m with inn:=aI m.inn i b }:=by
 funext p
 unfold dD;by_cases e:p=i
 ·subst e; rw[d_ rfl,Ct hi]; simp[aI]
 rw[b_ e]; unfold vG;by_cases h:p<6
 ·rw[d_ h,d_ h]; simp[aI,e]
 rw[b_ h,b_ h]
theorem U0{i:Nat}(hi:i<6)(e0:q=i+6)(b:Bool):dD (vG m) q (.bool b)=vG { m with left:=aI m.left i b }:=by
 subst e0
 funext p
 unfold dD;by_cases e:p=i+6
 ·subst e; rw[d_ rfl,Bn hi rfl]; simp[aI]
 rw[b_ e]; unfold vG;by_cases h:p<6
 ·rw[d_ h,d_ h]
 rw[b_ h,b_ h];by_cases a:p<12
 ·rw[d_ a,d_ a]; simp[aI,show ¬ p-6=i by omega]
 rw[b_ a,b_ a]
theorem QO{i:Nat}(hi:i<6)(e0:q=i+12)(x:Int):dD (vG m) q (.int .u64 x)=vG { m with known:=aI m.known i x }:=by
 subst e0
 funext p
 unfold dD;by_cases e:p=i+12
 ·subst e; rw[d_ rfl,rG hi rfl]; simp[aI]
 rw[b_ e]; unfold vG;by_cases h:p<6
 ·rw[d_ h,d_ h]
 rw[b_ h,b_ h];by_cases a:p<12
 ·rw[d_ a,d_ a]
 rw[b_ a,b_ a];by_cases b:p<18
 ·rw[d_ b,d_ b]; simp[aI,show ¬ p-12=i by omega]
 rw[b_ b,b_ b]
theorem Yw{i:Nat}(hi:i<6)(e0:q=i+21)(x:Int):dD (vG m) q (.int .i64 x)=vG { m with own:=aI m.own i x }:=by
 subst e0
 funext p
 unfold dD;by_cases e:p=i+21
 ·subst e; rw[d_ rfl,Jt hi rfl]; simp[aI]
 rw[b_ e]; unfold vG;by_cases h:p<6
 ·rw[d_ h,d_ h]
 rw[b_ h,b_ h];by_cases a:p<12
 ·rw[d_ a,d_ a]
 rw[b_ a,b_ a];by_cases b:p<18
 ·rw[d_ b,d_ b]
 rw[b_ b,b_ b];by_cases c:p=18
 ·rw[d_ c,d_ c]
 rw[b_ c,b_ c];by_cases d:p=19
 ·rw[d_ d,d_ d]
 rw[b_ d,b_ d];by_cases f:p=20
 ·rw[d_ f,d_ f]
 rw[b_ f,b_ f];by_cases g:p<27
 ·rw[d_ g,d_ g]; simp[aI,show ¬ p-21=i by omega]
 rw[b_ g,b_ g]
end
def wS(R:Nat->Nat->Int):Nat->Value:=fun i => .agg (aA 54 (rv .i64 (R i)))
def DV(T:dN):Nat->Value:=fun j => .int .u64 (T.p j)
def uD(g:Nat->Nat->Int):Nat->Value:=fun i => .agg (aA 5 (jm (g i)))
def DW:Nat->Value:=fun _ => .bool true
structure QlN(m:dO):Prop where
 mp:m.mb≠m.pb
 mr:m.mb≠m.rb
 mg:m.mb≠m.gb
 ma:m.mb≠m.ab
 pr:m.pb≠m.rb
 pg:m.pb≠m.gb
 pa:m.pb≠m.ab
 rg:m.rb≠m.gb
 ra:m.rb≠m.ab
 ga:m.gb≠m.ab
structure lN(w:World)(B lp:Nat)(m:dO):Prop where
 c:aR w lp 29 (vG m) 114
 t:sj w B m.tp m.mb m.T
 p:Mp w m.pb m.T.n m.T.x (DV m.T)
 r:Mp w m.rb m.T.n m.T.x (wS m.R)
 g:iD w m.gb m.gn (fun i=>m.g i 0) (fun i=>m.g i 1) (uD m.g)
 a:iD w m.ab m.an m.ao m.ar DW
 ne:QlN m
 lB:B<=lp
 pB:B<=m.pb
 rB:B<=m.rb
 gB:B<=m.gb
 aB:B<=m.ab
def FJ(m:dO)(lp:Nat)(k:Nat):Prop:=k=lp\/k=m.mb\/k=m.pb\/k=m.rb\/k=m.gb\/k=m.ab
section
variable {w w':World} {B lp:Nat} {m:dO}
theorem lN.up(h:lN w B lp m)(b:Below w.heap.size w w'):lN w' B lp m := { h with c:=h.c.cO (Sb b) (u_ h.c.lt),t:=h.t.up b,p:=h.p.up b,r:=h.r.up b,g:=h.g.up b,a:=h.a.up b }
instance:Rt.Tr w w' (lN w B lp m) (lN w' B lp m):=⟨fun b h=>h.up b⟩
theorem lN.kN{d:List TypeId}(h:lN w B lp m)(b:iP d w w')(e:(d.contains 114 || d.contains 165)=false):lN w' B lp m:=by
 rw[Bool.or_eq_false_iff]at e;exact { h with c:=h.c.kN b e.1,t:=h.t.kN b e.2,p:=h.p.kN b trivial,r:=h.r.kN b trivial,g:=h.g.kN b trivial,a:=h.a.kN b trivial }
instance {a:List TypeId}:Rt.Tc a w w' (lN w B lp m) (lN w' B lp m) (!(a.contains 114 || a.contains 165)):=⟨fun b h e=>h.kN b (by simpa using e)⟩
theorem sj.keep{b a:Nat}{T:dN}(h:sj w B b a T)(c:w'.heap[b]? = w.heap[b]?)(d:w'.heap[a]? = w.heap[a]?):sj w' B b a T:=⟨c.trans h.blk,h.map.keep d,h.inv,h.gt,h.gm⟩
theorem lN.keep(h:lN w B lp m)(b : ∀ k,k=lp\/k=m.tp\/k=m.mb\/k=m.pb\/k=m.rb\/k=m.gb\/k=m.ab->w'.heap[k]? = w.heap[k]?):lN w' B lp m := { h with
 c:=(b _ (.inl rfl)).trans h.c,t:=sj.keep h.t (b _ (.inr (.inl rfl))) (b _ (.inr (.inr (.inl rfl)))),p:=h.p.keep (b _ (.inr (.inr (.inr (.inl rfl))))),r:=h.r.keep (b _ (.inr (.inr (.inr (.inr (.inl rfl)))))),
 g:=h.g.keep (b _ (.inr (.inr (.inr (.inr (.inr (.inl rfl))))))),a:=h.a.keep (b _ (.inr (.inr (.inr (.inr (.inr (.inr rfl))))))) }
theorem lN.chg{S:Nat->Prop}(h:lN w B lp m)(f:jV S w w')(d : ∀ k,k=m.tp\/FJ m lp k -> ¬ S k):lN w' B lp m:=by
 have b : ∀ k,k<w.heap.size -> ¬ S k->w'.heap[k]? = w.heap[k]? := f.block;refine h.keep fun k e => ?_
 rcases e with rfl|rfl|rfl|rfl|rfl|rfl|rfl
 ·exact b _ h.c.lt (d _ (.inr (.inl rfl)))
 ·exact b _ h.t.blk.lt (d _ (.inl rfl))
 ·exact b _ h.t.lt (d _ (.inr (.inr (.inl rfl))))
 ·exact b _ h.p.lt (d _ (.inr (.inr (.inr (.inl rfl)))))
 ·exact b _ h.r.lt (d _ (.inr (.inr (.inr (.inr (.inl rfl))))))
 ·exact b _ h.g.lt (d _ (.inr (.inr (.inr (.inr (.inr (.inl rfl)))))))
 exact b _ h.a.lt (d _ (.inr (.inr (.inr (.inr (.inr (.inr rfl)))))))
theorem lN.weak{b:Nat}(h:lN w B lp m)(a:b<=B):lN w b lp m := { h with t:=h.t.weak a,lB:=m_ a h.lB,pB:=m_ a h.pB,rB:=m_ a h.rB,gB:=m_ a h.gB,aB:=m_ a h.aB }
theorem lN.lt(h:lN w B lp m):lp<w.heap.size:=h.c.lt
theorem lN.ltS(h:lN w B lp m){k:Nat}(b:FJ m lp k):B<=k/\k<w.heap.size:=by
 rcases b with rfl|rfl|rfl|rfl|rfl|rfl
 ·exact⟨h.lB,h.c.lt⟩
 ·exact⟨h.t.gm,h.t.lt⟩
 ·exact⟨h.pB,h.p.lt⟩
 ·exact⟨h.rB,h.r.lt⟩
 ·exact⟨h.gB,h.g.lt⟩
 exact⟨h.aB,h.a.lt⟩
end
namespace Rt
def zA(x:Nat->Int):Nat->Int->Nat
 | 0,_=>0
 | n+1,k=>if x n=k then n else zA x n k
theorem mR{x:Nat->Int}{j:Nat}{k:Int} : ∀ {n:Nat},(∀ a b,a<n->b<n->x a=x b->a=b)->j<n->x j=k->zA x n k=j
 | 0,_,h,_=>M_ h (z_ _)
 | n+1,hi,hj,e=>by
   unfold zA;by_cases c:x n=k
   ·rw[d_ c]; exact hi n j (by omega) hj (c.trans e.symm)
   ·rw[b_ c];refine mR (fun a b d f=>hi a b (by omega) (by omega)) ?_ e
    rcases Nat.lt_or_ge j n with h|h
    ·exact h
    ·obtain rfl:j=n:=(by omega);exact M_ e c
end Rt
def dO.idx(m:dO)(k:Int):Nat:=zA m.T.x m.T.n k
def U1(m:dO)(lp a:Nat)(k:Nat):Prop:=FJ m lp k\/a<=k
structure U2(w:World)(B lp:Nat)(m m':dO)(b0:Nat)(fv:Value)(fi:Nat)(cap:Array Value):Prop where
 e:fv = .func (.func fi) #[] cap
 f : ∃ fn c, Tryz.prog.funcs[fi]? = some fn ∧ (fn.name == "runtime.NumGoroutine") = false ∧ fn.body = some c
 s : ∀ w2,Below w.heap.size w w2->Calls Tryz.prog fi cap w2 fun e w3=>e = .returned (.tuple #[])/\lN w3 B lp m'/\jV (U1 m lp b0) w2 w3
def Rx(w:World)(B lp:Nat)(m f:dO)(b:Int)(e:Ending)(w':World):Prop :=
 (∃ a d c,e = .returned (.tuple #[a,.int .i64 b])/\a.oneCell'=true/\(b=0->U2 w' B lp m f w.heap.size a d c))/\Below w.heap.size w w'
theorem lN.Ju{w w':World}{B lp g n d:Nat}{m:dO}{x:Nat->Value}{T:TypeId}(h:lN w B lp m)(b:aR w g n x T)(f:T≠114)(i:jV (U1 m lp d) w w')(j:g<d):aR w' g n x T:=b.chg i fun e=>by
 rcases e with (rfl|rfl|rfl|rfl|rfl|rfl)|e
 ·exact f (Fx.Ty.only h.c.ty b.ty)
 ·exact h.t.map.rU b.ty
 ·exact h.p.rU b.ty
 ·exact h.r.rU b.ty
 ·exact h.g.rU b.ty
 ·exact h.a.rU b.ty
 ·omega
theorem Fx.O7{P:Program}{f:Nat->Value}{w:World}{o:Oper}{g:Nat}{t:Operand}{b:List Operand}{args:List Value}{d:Array TypeId}{cap all:Array Value}(l:o.op = .call { callee := .value t,args:=b.toArray,argTypes:=d })(m:ev f t = .func (.func g) #[] cap)(hx:b.map (ev f)=args)(j:args.toArray++cap=all)
 (k : ∃ a c, P.funcs[g]? = some a ∧ (a.name == "runtime.NumGoroutine") = false ∧ a.body = some c) : (execOp (ev f) o).run P w = .ok (.enter g all) w := by
 obtain⟨a,c,e,h,i⟩:=k;exact Fx.ED l m hx (by rw[<- j]; simp) e h i
namespace Fx
theorem It.dX{w w':World}{r b n g:Nat}{S:Nat->Bool}(h:It w r b n S)(a:P5 g w w')(c:b≠g)(d:r≠g):It w' r b n S:=h.keep (a.s.block b h.Ru c) (a.s.block r h.lt d)
theorem Av.dX{w w':World}{r b i g:Nat}(h:Av w r b i)(a:P5 g w w')(c:b≠g)(d:r≠g):Av w' r b i:=h.keep (a.s.block b h.Ru c) (a.s.block r h.lt d)
end Fx
end
end Go.Proofs.YtcbedgfikejkoaaGreatDoor
namespace Go.Proofs.YtcbedgfikejkoaaGreatDoor.Fx
open Go.RowKit
section
variable {P:Program} {n0:Nat} {Q:Post} {f:Nat->Value} {w:World} {ops:Array Oper} {rest:List Oper} {o:Oper}
theorem Nr{T E:TypeId}{x:Operand}{b off n s:Nat}(d:o.op = .slice T x none none none)(hx:ev f x = .pointer (some ⟨b,off,none⟩))(c:P.underlying T=some (.array n E))(e:(P.info? E).map (·.size)=some s) :
 Runs P f o w (.slice (some ⟨b,off,none⟩) n n):=by
 obtain⟨i,a,g⟩:=Option.map_eq_some_iff.1 e;unfold Runs execOp;simp only[d,hx,Option.map_none];by_cases h:n=0
 ·subst h; simp[Instr.sliceAt,Instr.sureAddr,underlying,c,Instr.sliceBounds,sizeOf,typeInfo,a]
 simp[Instr.sliceAt,Instr.sureAddr,underlying,c,Instr.sliceBounds,sizeOf,typeInfo,a,Addr.add,g]
end
end Go.Proofs.YtcbedgfikejkoaaGreatDoor.Fx
namespace Go.Proofs.YtcbedgfikejkoaaGreatDoor
open Go.RowKit Rt
open Fx (bC dw eG Lv sN Ln Ws Qv Wl Rp Wr Sb Wk rV sR Rs Rn Rd Rk Wb Wx Wo Qn EA Au yK BI gP mW tZ uH zC rv aA aR bK aN Stp aS Mp aW iN bG iO jV bI jP bL bR bZ cu gL ig)
namespace Rt
def lI(v:EvM)(l:Int):Bool:=decide (l<=v.aQ)&&decide (v.aQ<=1125899906842624)
def rE(v:EvM):EvM:=⟨v.o,v.seq,v.deps,v.kind,0,v.dst,0,v.req,v.of⟩
def yB(v:EvM):Bool:=decide (0<v.req)
def Ns(v:EvM):EvM:=⟨v.o,v.seq,v.deps,v.kind,v.node,v.dst,v.aQ,0,v.of⟩
def adb(v:EvM):EvM:=⟨v.o,v.seq,v.deps,v.kind,v.node,v.dst,v.aQ,0,0⟩
def toB(v:EvM):Bool:=jH v.dst && !decide (v.dst=v.o)
def K9(v:EvM):EvM:=⟨v.o,v.seq,v.deps,v.kind,v.node,0,v.aQ,v.req,v.of⟩
end Rt
def Rt.DX(v:EvM):Bool:=decide (0<v.req)&&(decide (0<v.of) && !decide (v.of=v.req))
theorem Bo(n:Int)(w:World) :
 Calls Tryz.prog 139 #[au n] w fun e w'=>e = .returned (.bool (jH n))/\w'=w:=by
 refine Kent Tryz.func139 9 ?_;refine ay<|av aF<|aD<|ay<|av (au n) ?_;by_cases a:1<=n
 ·refine Lv aG (kP a)<|av aG<|av (au n) ?_;by_cases b:n<=6
  ·refine Lv aG (mZ b)<|av aG<|av aG<|aD<|Wr<|aJ aG ?_;exact⟨iG (by simp only[jH]; first|(symm; simp; omega)|(symm; simp; done)),rfl⟩
  refine Lv aF (nP b)<|av aF<|av aF<|aD<|Wr<|aJ aF ?_;exact⟨iG (by simp only[jH]; first|(symm; simp; omega)|(symm; simp; done)),rfl⟩
 refine Lv aF (kr a)<|av aF<|dB<|dB<|av aF<|av aF<|aD<|Wr<|aJ aF ?_;exact⟨iG (by simp only[jH]; first|(symm; simp; omega)|(symm; simp; done)),rfl⟩
theorem Jv(l:Int)(v:EvM)(g:Nat)(w:World)(a:aR w g 14 (bM v) 218) :
 Calls Tryz.prog 169 #[(pt g),au l] w fun e w'=>e = .returned (.bool (lI v l))/\aR w' g 14 (bM (rE v)) 218/\Stp g w w':=by
 have P:=a.lt;refine Kent Tryz.func169 30 ?_;refine ay<|av aF<|aD<|ay<|av (pt g)<|av (pt g)<|av (pt g)<|av (pf g 11)<|Lv (au v.aQ) (aM a.aH 11)<|av (au l) ?_;by_cases c:l<=v.aQ
 ·refine Lv aG (kP c)<|av aG<|av (pt g)<|av (pt g)<|av (pt g)<|av (pf g 11)<|Lv (au v.aQ) (aM a.aH 11) ?_;by_cases d:v.aQ<=1125899906842624
  ·refine Lv aG (mZ d)<|av aG<|av aG<|aD<|ay<|av (pt g)<|av (pt g)<|av (pt g)<|av (pt g)<|av (pf g 9)<|jg a 9 (aC 0) fun J p D Q => ?_;have t:aR J g 14 (bM (⟨v.o,v.seq,v.deps,v.kind,0,v.dst,v.aQ,v.req,v.of⟩:EvM)) 218:=p.congr (fun j b=>by rcases j with _|_|_|_|_|_|_|_|_|_|_|_|_|_|j <;> first|rfl|omega)
   have f:=(mW g w).then D (by omega);refine av (pt g)<|av (pt g)<|av (pf g 11)<|jg t 11 (au 0) fun K u E R => ?_;have x:aR K g 14 (bM (⟨v.o,v.seq,v.deps,v.kind,0,v.dst,0,v.req,v.of⟩:EvM)) 218:=u.congr (fun j b=>by rcases j with _|_|_|_|_|_|_|_|_|_|_|_|_|_|j <;> first|rfl|omega)
   have h:=f.then E (by omega);refine aD<|ay<|av aG<|av aG<|aD<|Wr<|aJ aG ?_;exact⟨iG (by simp only[lI]; first|(symm; simp; omega)|(symm; simp; done)),x,h⟩
  refine Lv aF (nP d)<|av aF<|av aF<|aD<|ay<|av (pt g)<|av (pt g)<|av (pt g)<|av (pt g)<|av (pf g 9)<|jg a 9 (aC 0) fun L y F S => ?_;have z:aR L g 14 (bM (⟨v.o,v.seq,v.deps,v.kind,0,v.dst,v.aQ,v.req,v.of⟩:EvM)) 218:=y.congr (fun j b=>by rcases j with _|_|_|_|_|_|_|_|_|_|_|_|_|_|j <;> first|rfl|omega)
  have i:=(mW g w).then F (by omega);refine av (pt g)<|av (pt g)<|av (pf g 11)<|jg z 11 (au 0) fun M A G T => ?_;have B:aR M g 14 (bM (⟨v.o,v.seq,v.deps,v.kind,0,v.dst,0,v.req,v.of⟩:EvM)) 218:=A.congr (fun j b=>by rcases j with _|_|_|_|_|_|_|_|_|_|_|_|_|_|j <;> first|rfl|omega)
  have k:=i.then G (by omega);refine aD<|ay<|av aF<|av aF<|aD<|Wr<|aJ aF ?_;exact⟨iG (by simp only[lI]; first|(symm; simp; omega)|(symm; simp; done)),B,k⟩
 refine Lv aF (kr c)<|av aF<|dB<|dB<|dB<|dB<|dB<|dB<|av aF<|av aF<|aD<|ay<|av (pt g)<|av (pt g)<|av (pt g)<|av (pt g)<|av (pf g 9)<|jg a 9 (aC 0) fun N C H U => ?_;have q:aR N g 14 (bM (⟨v.o,v.seq,v.deps,v.kind,0,v.dst,v.aQ,v.req,v.of⟩:EvM)) 218:=C.congr (fun j b=>by rcases j with _|_|_|_|_|_|_|_|_|_|_|_|_|_|j <;> first|rfl|omega)
 have m:=(mW g w).then H (by omega);refine av (pt g)<|av (pt g)<|av (pf g 11)<|jg q 11 (au 0) fun O r I V => ?_;have s:aR O g 14 (bM (⟨v.o,v.seq,v.deps,v.kind,0,v.dst,0,v.req,v.of⟩:EvM)) 218:=r.congr (fun j b=>by rcases j with _|_|_|_|_|_|_|_|_|_|_|_|_|_|j <;> first|rfl|omega)
 have n:=m.then I (by omega);refine aD<|ay<|av aF<|av aF<|aD<|Wr<|aJ aF ?_;exact⟨iG (by simp only[lI]; first|(symm; simp; omega)|(symm; simp; done)),s,n⟩
theorem O8(v:EvM)(g:Nat)(w:World)(a:aR w g 14 (bM v) 218) :
 Calls Tryz.prog 170 #[(pt g)] w fun e w'=>e = .returned (.bool (yB v))/\aR w' g 14 (bM (Ns v)) 218/\Stp g w w':=by
 have r:=a.lt;refine Kent Tryz.func170 15 ?_;refine ay<|av aF<|aD<|ay<|av (pt g)<|av (pt g)<|av (pt g)<|av (pf g 12)<|Lv (aC v.req) (aM a.aH 12) ?_;by_cases b:0<v.req
 ·refine Lv aG (ng b)<|av aG<|aD<|ay<|av (pt g)<|av (pt g)<|av (pt g)<|av (pf g 12)<|jg a 12 (aC 0) fun p h m s => ?_;have i:aR p g 14 (bM (⟨v.o,v.seq,v.deps,v.kind,v.node,v.dst,v.aQ,0,v.of⟩:EvM)) 218:=h.congr (fun j f=>by rcases j with _|_|_|_|_|_|_|_|_|_|_|_|_|_|j <;> first|rfl|omega)
  have c:=(mW g w).then m (by omega);refine aD<|ay<|av aG<|av aG<|aD<|Wr<|aJ aG ?_;exact⟨iG (by simp only[yB]; first|(symm; simp; omega)|(symm; simp; done)),i,c⟩
 refine Lv aF (ni b)<|av aF<|aD<|ay<|av (pt g)<|av (pt g)<|av (pt g)<|av (pf g 12)<|jg a 12 (aC 0) fun q k n t => ?_;have l:aR q g 14 (bM (⟨v.o,v.seq,v.deps,v.kind,v.node,v.dst,v.aQ,0,v.of⟩:EvM)) 218:=k.congr (fun j f=>by rcases j with _|_|_|_|_|_|_|_|_|_|_|_|_|_|j <;> first|rfl|omega)
 have d:=(mW g w).then n (by omega);refine aD<|ay<|av aF<|av aF<|aD<|Wr<|aJ aF ?_;exact⟨iG (by simp only[yB]; first|(symm; simp; omega)|(symm; simp; done)),l,d⟩
theorem aoc(v:EvM)(g:Nat)(w:World)(h:aR w g 14 (bM v) 218) :
 Calls Tryz.prog 171 #[(pt g)] w fun e w'=>e = .returned (.bool (DX v))/\aR w' g 14 (bM (adb v)) 218/\Stp g w w':=by
 have lg:=h.lt;refine Kent Tryz.func171 32 ?_;refine ay<|av aF<|aD<|Ws ?_;refine uO<|aX (pt g)<|aX (pt g)<|aX (pt g)<|aX (pf g 13)<|Qv (aC v.of) (fun b d=>aM (h.aH.dr d) 13) ?_;by_cases r:0<v.of
 ·refine Qv aG (fun b d=>ng r)<|aX aG<|aX (pt g)<|aX (pt g)<|aX (pt g)<|aX (pf g 13)<|Qv (aC v.of) (fun b d=>aM (h.aH.dr d) 13)<|aX (pt g)<|aX (pt g)<|aX (pt g)<|aX (pf g 12)<|Qv (aC v.req) (fun b d=>aM (h.aH.dr d) 12) ?_;by_cases q:v.of=v.req
  ·refine Qv aF (fun b d=>jQ q)<|aX aF<|aX aF<|Qn ?_;rintro _ ⟨f,rfl⟩;obtain⟨Z,i⟩ : ∃ b,b=World.drewN w f:=⟨_,rfl⟩;rw[<- i];have y:Stp w.heap.size w Z:=(by rw[i]; exact Sb (je w f));have H:=bE y.old h;have B:=(mW g w).then y (.inr (mW g w).size);clear i;refine sN<|ay<|av (pt g)<|av (pt g)<|av (pt g)<|av (pf g 13)<|jg H 13 (aC 0) fun W K Q z1 => ?_;have L:aR W g 14 (bM (⟨v.o,v.seq,v.deps,v.kind,v.node,v.dst,v.aQ,v.req,0⟩:EvM)) 218:=K.congr (fun j s=>by rcases j with _|_|_|_|_|_|_|_|_|_|_|_|_|_|j <;> first|rfl|omega)
   have C:=B.then Q (by omega);refine aD<|ay<|av (pt g)<|mh (O8 (⟨v.o,v.seq,v.deps,v.kind,v.node,v.dst,v.aQ,v.req,0⟩:EvM) g _ L) ?_;rintro e w2 ⟨a,u,R⟩;have m:=C.then R (by omega);by_cases c:yB (⟨v.o,v.seq,v.deps,v.kind,v.node,v.dst,v.aQ,v.req,0⟩:EvM)=true
   ·refine⟨.bool true,by rw[a,c],?_⟩;clear a;refine av aG<|av aF<|av aF<|av aF<|aD<|Wr<|aJ aF ?_;exact⟨iG (by simp only[DX,yB]at *; first|(symm; simp; omega)|(symm; simp at *; omega)|(symm; simp at *; done)),u,m⟩
   rw[T_]at c;refine⟨.bool false,by rw[a,c],?_⟩;clear a;refine av aF<|dB<|av aF<|av aF<|aD<|Wr<|aJ aF ?_;exact⟨iG (by simp only[DX,yB]at *; first|(symm; simp; omega)|(symm; simp at *; omega)|(symm; simp at *; done)),u,m⟩
  refine Qv aG (fun b d=>nk q)<|aX aG<|aX aG<|Qn ?_;rintro _ ⟨f,rfl⟩;obtain⟨aa,k⟩ : ∃ b,b=World.drewN w f:=⟨_,rfl⟩;rw[<- k];have z:Stp w.heap.size w aa:=by rw[k]; exact Sb (je w f)
  have M:=bE z.old h;have D:=(mW g w).then z (.inr (mW g w).size);clear k;refine sN<|ay<|av (pt g)<|av (pt g)<|av (pt g)<|av (pf g 13)<|jg M 13 (aC 0) fun X N S z2 => ?_;have O:aR X g 14 (bM (⟨v.o,v.seq,v.deps,v.kind,v.node,v.dst,v.aQ,v.req,0⟩:EvM)) 218:=N.congr (fun j s=>by rcases j with _|_|_|_|_|_|_|_|_|_|_|_|_|_|j <;> first|rfl|omega)
  have E:=D.then S (by omega);refine aD<|ay<|av (pt g)<|mh (O8 (⟨v.o,v.seq,v.deps,v.kind,v.node,v.dst,v.aQ,v.req,0⟩:EvM) g _ O) ?_;rintro e w4 ⟨a,x,T⟩;have n:=E.then T (by omega);by_cases c:yB (⟨v.o,v.seq,v.deps,v.kind,v.node,v.dst,v.aQ,v.req,0⟩:EvM)=true
  ·refine⟨.bool true,by rw[a,c],?_⟩;clear a;refine av aG<|av aG<|av aG<|av aG<|aD<|Wr<|aJ aG ?_;exact⟨iG (by simp only[DX,yB]at *; first|(symm; simp; omega)|(symm; simp at *; omega)|(symm; simp at *; done)),x,n⟩
  rw[T_]at c;refine⟨.bool false,by rw[a,c],?_⟩;clear a;refine av aF<|dB<|av aF<|av aF<|aD<|Wr<|aJ aF ?_;exact⟨iG (by simp only[DX,yB]at *; first|(symm; simp; omega)|(symm; simp at *; omega)|(symm; simp at *; done)),x,n⟩
 refine Qv aF (fun b d=>ni r)<|aX aF<|aP<|aP<|aP<|aP<|aP<|aP<|aP<|aP<|aP<|aP<|aP<|aX aF<|aX aF<|Qn ?_;rintro _ ⟨f,rfl⟩;obtain⟨ab,l⟩ : ∃ b,b=World.drewN w f:=⟨_,rfl⟩;rw[<- l];have A:Stp w.heap.size w ab:=by rw[l]; exact Sb (je w f)
 have P:=bE A.old h;have F:=(mW g w).then A (.inr (mW g w).size);clear l;refine sN<|ay<|av (pt g)<|av (pt g)<|av (pt g)<|av (pf g 13)<|jg P 13 (aC 0) fun Y I U z3 => ?_;have J:aR Y g 14 (bM (⟨v.o,v.seq,v.deps,v.kind,v.node,v.dst,v.aQ,v.req,0⟩:EvM)) 218:=I.congr (fun j s=>by rcases j with _|_|_|_|_|_|_|_|_|_|_|_|_|_|j <;> first|rfl|omega)
 have G:=F.then U (by omega);refine aD<|ay<|av (pt g)<|mh (O8 (⟨v.o,v.seq,v.deps,v.kind,v.node,v.dst,v.aQ,v.req,0⟩:EvM) g _ J) ?_;rintro e w6 ⟨a,t,V⟩;have p:=G.then V (by omega);by_cases c:yB (⟨v.o,v.seq,v.deps,v.kind,v.node,v.dst,v.aQ,v.req,0⟩:EvM)=true
 ·refine⟨.bool true,by rw[a,c],?_⟩;clear a;refine av aG<|av aF<|av aF<|av aF<|aD<|Wr<|aJ aF ?_;exact⟨iG (by simp only[DX,yB]at *; first|(symm; simp; omega)|(symm; simp at *; omega)|(symm; simp at *; done)),t,p⟩
 rw[T_]at c;refine⟨.bool false,by rw[a,c],?_⟩;clear a;refine av aF<|dB<|av aF<|av aF<|aD<|Wr<|aJ aF ?_;exact⟨iG (by simp only[DX,yB]at *; first|(symm; simp; omega)|(symm; simp at *; omega)|(symm; simp at *; done)),t,p⟩
theorem ahg(v:EvM)(g:Nat)(w:World)(a:aR w g 14 (bM v) 218) :
 Calls Tryz.prog 172 #[(pt g)] w fun e w'=>e = .returned (.bool (toB v))/\aR w' g 14 (bM (K9 v)) 218/\Stp g w w':=by
 have Q:=a.lt;refine Kent Tryz.func172 28 ?_;refine ay<|av aF<|aD<|Ws ?_;refine nu<|aX (pt g)<|aX (pt g)<|aX (pt g)<|aX (pf g 10)<|Qv (au v.dst) (fun d b=>aM (a.cb b) 10) ?_;by_cases c:(jH v.dst)=true
 ·refine qo (fun _ _=>Bo v.dst _) aG (by rw[c])<|aX aG<|aX (pt g)<|aX (pt g)<|aX (pt g)<|aX (pf g 10)<|Qv (au v.dst) (fun d b=>aM (a.cb b) 10)<|aX (pt g)<|aX (pt g)<|aX (pt g)<|aX (pt g)<|Qv (au v.o) (fun d b=>aM (a.cb b) 0) ?_;by_cases f:v.dst=v.o
  ·refine Qv aF (fun d b=>jQ f)<|aX aF<|aX aF<|Qn ?_;intro N h;have E:Stp w.heap.size w N:=Sb h;have t:=bE h a;have m:=(mW g w).then E (.inr (mW g w).size);refine sN<|ay<|av (pt g)<|av (pt g)<|av (pt g)<|av (pf g 10)<|jg t 10 (au 0) fun K u F R => ?_;have x:aR K g 14 (bM (⟨v.o,v.seq,v.deps,v.kind,v.node,0,v.aQ,v.req,v.of⟩:EvM)) 218:=u.congr (fun j l=>by rcases j with _|_|_|_|_|_|_|_|_|_|_|_|_|_|j <;> first|rfl|omega)
   have n:=m.then F (by omega);refine aD<|ay<|av aF<|av aF<|aD<|Wr<|aJ aF ?_;exact⟨iG (by unfold toB; rw[c]; first|(symm; simp; omega)|(symm; simp; done)),x,n⟩
  refine Qv aG (fun d b=>nk f)<|aX aG<|aX aG<|Qn ?_;intro O i;have G:Stp w.heap.size w O:=Sb i;have y:=bE i a;have p:=(mW g w).then G (.inr (mW g w).size);refine sN<|ay<|av (pt g)<|av (pt g)<|av (pt g)<|av (pf g 10)<|jg y 10 (au 0) fun L z H S => ?_;have A:aR L g 14 (bM (⟨v.o,v.seq,v.deps,v.kind,v.node,0,v.aQ,v.req,v.of⟩:EvM)) 218:=z.congr (fun j l=>by rcases j with _|_|_|_|_|_|_|_|_|_|_|_|_|_|j <;> first|rfl|omega)
  have q:=p.then H (by omega);refine aD<|ay<|av aG<|av aG<|aD<|Wr<|aJ aG ?_;exact⟨iG (by unfold toB; rw[c]; first|(symm; simp; omega)|(symm; simp; done)),A,q⟩
 rw[T_]at c;refine qo (fun _ _=>Bo v.dst _) aF (by rw[c])<|aX aF<|aP<|aP<|aP<|aP<|aP<|aP<|aP<|aP<|aP<|aP<|aP<|aX aF<|aX aF<|Qn ?_;intro P k;have I:Stp w.heap.size w P:=Sb k;have B:=bE k a;have r:=(mW g w).then I (.inr (mW g w).size);refine sN<|ay<|av (pt g)<|av (pt g)<|av (pt g)<|av (pf g 10)<|jg B 10 (au 0) fun M C J T => ?_;have D:aR M g 14 (bM (⟨v.o,v.seq,v.deps,v.kind,v.node,0,v.aQ,v.req,v.of⟩:EvM)) 218:=C.congr (fun j l=>by rcases j with _|_|_|_|_|_|_|_|_|_|_|_|_|_|j <;> first|rfl|omega)
 have s:=r.then J (by omega);refine aD<|ay<|av aF<|av aF<|aD<|Wr<|aJ aF ?_;exact⟨iG (by unfold toB; rw[c]; first|(symm; simp; omega)|(symm; simp; done)),D,s⟩
namespace Rt
def mM(v:EvM):Bool :=
 if v.kind=1 then lI v 0 else if v.kind=2 then lI v 1 else if v.kind=3 then lI v 1&&yB v else if v.kind=4 then DX v else if v.kind=5 then lI v 1&&toB v else if v.kind=6 then toB v else decide (v.kind=7)
def qM(v:EvM):EvM :=
 if v.kind=1 then rE v else if v.kind=2 then rE v else if v.kind=3 then Ns (rE v)else if v.kind=4 then adb v else if v.kind=5 then K9 (rE v)else if v.kind=6 then K9 v else v
def U3(v:EvM):EvM:=⟨v.o,v.seq,v.deps,v.kind,0,0,0,0,0⟩
theorem ade(a b:EvM):(∀ i,i<14->bM a i=bM b i)<->a.o=b.o/\a.seq=b.seq/\(∀ i,i<6->a.deps i=b.deps i)/\a.kind=b.kind/\a.node=b.node/\a.dst=b.dst/\a.aQ=b.aQ/\a.req=b.req/\a.of=b.of:=by
 constructor
 ·intro h;have f:Value.int .i64 a.o=au b.o:=h 0 (by decide);have g:Value.int .u64 a.seq=aC b.seq:=h 1 (by decide);have p:Value.int .u8 a.kind = .int .u8 b.kind:=h 8 (by decide);have q:Value.int .u64 a.node=aC b.node:=h 9 (by decide);have j:Value.int .i64 a.dst=au b.dst:=h 10 (by decide);have k:Value.int .i64 a.aQ=au b.aQ:=h 11 (by decide);have l:Value.int .u64 a.req=aC b.req:=h 12 (by decide);have m:Value.int .u64 a.of=aC b.of:=h 13 (by decide);simp only[Value.int.injEq,true_and]at f g p q j k l m;refine⟨f,g,fun i r => ?_,p,q,j,k,l,m⟩;have n:=h (i+2) (by omega);rw[mJ a rfl r,mJ b rfl r]at n
  simpa using n
 rintro ⟨f,g,n,p,q,j,k,l,m⟩ i r;unfold bM;rw[f,g,p,q,j,k,l,m];by_cases c:i=0
 ·rw[d_ c,d_ c]
 by_cases d:i=1
 ·rw[b_ c,d_ d,b_ c,d_ d]
 by_cases e:i<8
 ·rw[b_ c,b_ d,d_ e,b_ c,b_ d,d_ e,n _ (by omega)]
 rw[b_ c,b_ d,b_ e,b_ c,b_ d,b_ e]
theorem Ia{v:EvM}(a:mM v=true):(∀ i,i<14->bM (qM v) i=bM (U3 v) i)<->su v=true:=by
 have h:=a;rw[ade];unfold mM at h;unfold qM su kX U3;simp only[S_,decide_eq_true_eq];split at h
 ·rename_i k; simp[k,rE,and_assoc]
 split at h
 ·rename_i k1 k; simp[k,rE,and_assoc]
 split at h
 ·rename_i k1 k2 k; simp[k,rE,Ns,and_assoc]
 split at h
 ·rename_i k1 k2 k3 k; simp[k,adb,and_assoc]
 split at h
 ·rename_i k1 k2 k3 k4 k; simp[k,rE,K9,and_assoc]
 split at h
 ·rename_i k1 k2 k3 k4 k5 k; simp[k,K9,and_assoc]
 rename_i k1 k2 k3 k4 k5 k6; simp[k1,k2,k3,k4,k5,k6,and_assoc]
theorem Dk{v:EvM}(h:su v=true):dM v=mM v:=by
 unfold su kX at h;unfold dM mM someE lI DX toB mD yB;simp only[S_,decide_eq_true_eq]at h;split <;> try rfl
 rename_i k1;split <;> try rfl
 rename_i k2;split
 ·congr 1
 rename_i k3;split
 ·rename_i k4; rw[Bool.eq_iff_iff]; simp only[S_,decide_eq_true_eq,Bool.not_eq_true',decide_eq_false_iff_not]; omega
 split <;> rfl
def Nt(x:Nat->Int):Nat->Int
 | 0=>x 0
 | k+1=>if x (k+1)>Nt x k then x (k+1)else Nt x k
theorem U4(x:Nat->Int) : ∀ n i,i<=n->x i<=Nt x n
 | 0,i,h=>by rw[show i=0 by omega]; exact N_ _
 | n+1,i,h=>by
   unfold Nt;by_cases e:i=n+1
   ·subst e; split <;> omega
   ·have:=U4 x n i (by omega); split <;> omega
theorem U5(x:Nat->Int) : ∀ n,∃ i,i<=n/\Nt x n=x i
 | 0=>⟨0,A_ _,rfl⟩
 | n+1=>by
   unfold Nt;split
   ·exact⟨n+1,A_ _,rfl⟩
   ·obtain⟨i,a,e⟩:=U5 x n; exact⟨i,by omega,e⟩
theorem adf{v:EvM}(h:1099511627776<=Nt v.deps 5):Aa v=false:=by
 obtain⟨i,a,e⟩:=U5 v.deps 5;exact He (k:=i) (by omega) (by omega)
theorem Jw{v:EvM}(h : ¬ 1099511627776<=Nt v.deps 5):Aa v=true :=
 wG (k:=6) (by omega) fun i a=>by have:=U4 v.deps 5 i (by omega); omega
def ahh(v:EvM)(b:Bool)(a:EvM):Prop:=b=mM v/\(b=true->a=qM v)
end Rt
set_option maxHeartbeats 1000000 in
theorem adg(v:EvM)(g:Nat)(w:World)(k:aR w g 14 (bM v) 218) :
 Calls Tryz.prog 141 #[(pt g)] w fun e w' => ∃ b O,e = .returned (.bool b)/\aR w' g 14 (bM O) 218/\Stp g w w'/\ahh v b O:=by
 have X:=k.lt;refine Kent Tryz.func141 46 ?_;refine ay<|av aF<|aD<|Ws<|ay<|av (pt g)<|av (pt g)<|av (pt g)<|av (pf g 8)<|Lv (.int .u8 (v.kind)) (aM k.aH 8)<|aD<|Wb<|ay ?_;by_cases c:v.kind=1
 ·refine Lv aG (eO c)<|av aG<|aD<|aO<|ay<|av (pt g)<|mh (Jv 0 v g _ k) ?_;rintro e Y ⟨a,G,P⟩;have y:=(mW g w).then P (by omega);by_cases p:lI v 0=true
  ·refine⟨.bool true,by rw[a,p],?_⟩;clear a;refine av aG (aD (Wr (bL (sR (aJ aG (⟨_,_,rfl,G,y,Eq.symm (by unfold mM; rw[d_ c,(show lI v 0=true from p)]; try rfl),fun d => ?_⟩))))))
   unfold qM; rw[d_ c]; try rfl
  rw[T_]at p;refine⟨.bool false,by rw[a,p],?_⟩;clear a;refine av aF (aD (Wr (bL (sR (aJ aF (⟨_,_,rfl,G,y,Eq.symm (by unfold mM; rw[d_ c,(show lI v 0=false from p)]; try rfl),fun d => ?_⟩))))))
  cases d
 refine Lv aF (fO c)<|av aF<|aD<|aK<|ay ?_;by_cases f:v.kind=2
 ·refine Lv aG (eO f)<|av aG<|aD<|aO<|ay<|av (pt g)<|mh (Jv 1 v g _ k) ?_;rintro e Z ⟨a,H,Q⟩;have z:=(mW g w).then Q (by omega);by_cases q:lI v 1=true
  ·refine⟨.bool true,by rw[a,q],?_⟩;clear a;refine av aG (aD (Wr (bL (sR (aJ aG (⟨_,_,rfl,H,z,Eq.symm (by unfold mM; rw[b_ c,d_ f,(show lI v 1=true from q)]; try rfl),fun d => ?_⟩))))))
   unfold qM; rw[b_ c,d_ f]; try rfl
  rw[T_]at q;refine⟨.bool false,by rw[a,q],?_⟩;clear a;refine av aF (aD (Wr (bL (sR (aJ aF (⟨_,_,rfl,H,z,Eq.symm (by unfold mM; rw[b_ c,d_ f,(show lI v 1=false from q)]; try rfl),fun d => ?_⟩))))))
  cases d
 refine Lv aF (fO f)<|av aF<|aD<|aK<|ay ?_;by_cases h:v.kind=3
 ·refine Lv aG (eO h)<|av aG<|aD<|aO<|ay<|av (pt g)<|mh (Jv 1 v g _ k) ?_;rintro e w3 ⟨a,I,R⟩;have A:=(mW g w).then R (by omega);by_cases m:lI v 1=true
  ·refine⟨.bool true,by rw[a,m],?_⟩;clear a;refine av aG<|av (pt g)<|mh (O8 (⟨v.o,v.seq,v.deps,v.kind,0,v.dst,0,v.req,v.of⟩:EvM) g _ I) ?_;rintro e w4 ⟨a,J,S⟩;have B:=A.then S (by omega);by_cases r:yB (⟨v.o,v.seq,v.deps,v.kind,0,v.dst,0,v.req,v.of⟩:EvM)=true
   ·refine⟨.bool true,by rw[a,r],?_⟩;clear a;refine av aG (av aG (aD (Wr (bL (sR (aJ aG (⟨_,_,rfl,J,B,Eq.symm (by unfold mM; rw[b_ c,b_ f,d_ h,(show lI v 1=true from m),(show yB v=true from r)]; try rfl),fun d => ?_⟩)))))))
    unfold qM; rw[b_ c,b_ f,d_ h]; try rfl
   rw[T_]at r;refine⟨.bool false,by rw[a,r],?_⟩;clear a;refine av aF (av aF (aD (Wr (bL (sR (aJ aF (⟨_,_,rfl,J,B,Eq.symm (by unfold mM; rw[b_ c,b_ f,d_ h,(show lI v 1=true from m),(show yB v=false from r)]; try rfl),fun d => ?_⟩)))))))
   cases d
  rw[T_]at m;refine⟨.bool false,by rw[a,m],?_⟩;clear a;refine av aF (dB (dB (av aF (av aF (aD (Wr (bL (sR (aJ aF (⟨_,_,rfl,I,A,Eq.symm (by unfold mM; rw[b_ c,b_ f,d_ h,(show lI v 1=false from m)]; try rfl),fun d => ?_⟩))))))))))
  cases d
 refine Lv aF (fO h)<|av aF<|aD<|aK<|ay ?_;by_cases i:v.kind=4
 ·refine Lv aG (eO i)<|av aG<|aD<|aO<|ay<|av (pt g)<|mh (aoc v g _ k) ?_;rintro e w5 ⟨a,K,T⟩;have C:=(mW g w).then T (by omega);by_cases s:DX v=true
  ·refine⟨.bool true,by rw[a,s],?_⟩;clear a;refine av aG (aD (Wr (bL (sR (aJ aG (⟨_,_,rfl,K,C,Eq.symm (by unfold mM; rw[b_ c,b_ f,b_ h,d_ i,(show DX v=true from s)]; try rfl),fun d => ?_⟩))))))
   unfold qM; rw[b_ c,b_ f,b_ h,d_ i]; try rfl
  rw[T_]at s;refine⟨.bool false,by rw[a,s],?_⟩;clear a;refine av aF (aD (Wr (bL (sR (aJ aF (⟨_,_,rfl,K,C,Eq.symm (by unfold mM; rw[b_ c,b_ f,b_ h,d_ i,(show DX v=false from s)]; try rfl),fun d => ?_⟩))))))
  cases d
 refine Lv aF (fO i)<|av aF<|aD<|aK<|ay ?_;by_cases j:v.kind=5
 ·refine Lv aG (eO j)<|av aG<|aD<|aO<|ay<|av (pt g)<|mh (Jv 1 v g _ k) ?_;rintro e w6 ⟨a,L,U⟩;have D:=(mW g w).then U (by omega);by_cases n:lI v 1=true
  ·refine⟨.bool true,by rw[a,n],?_⟩;clear a;refine av aG<|av (pt g)<|mh (ahg (⟨v.o,v.seq,v.deps,v.kind,0,v.dst,0,v.req,v.of⟩:EvM) g _ L) ?_;rintro e w7 ⟨a,M,V⟩;have E:=D.then V (by omega);by_cases t:toB (⟨v.o,v.seq,v.deps,v.kind,0,v.dst,0,v.req,v.of⟩:EvM)=true
   ·refine⟨.bool true,by rw[a,t],?_⟩;clear a;refine av aG (av aG (aD (Wr (bL (sR (aJ aG (⟨_,_,rfl,M,E,Eq.symm (by unfold mM; rw[b_ c,b_ f,b_ h,b_ i,d_ j,(show lI v 1=true from n),(show toB v=true from t)]; try rfl),fun d => ?_⟩)))))))
    unfold qM; rw[b_ c,b_ f,b_ h,b_ i,d_ j]; try rfl
   rw[T_]at t;refine⟨.bool false,by rw[a,t],?_⟩;clear a;refine av aF (av aF (aD (Wr (bL (sR (aJ aF (⟨_,_,rfl,M,E,Eq.symm (by unfold mM; rw[b_ c,b_ f,b_ h,b_ i,d_ j,(show lI v 1=true from n),(show toB v=false from t)]; try rfl),fun d => ?_⟩)))))))
   cases d
  rw[T_]at n;refine⟨.bool false,by rw[a,n],?_⟩;clear a;refine av aF (dB (dB (av aF (av aF (aD (Wr (bL (sR (aJ aF (⟨_,_,rfl,L,D,Eq.symm (by unfold mM; rw[b_ c,b_ f,b_ h,b_ i,d_ j,(show lI v 1=false from n)]; try rfl),fun d => ?_⟩))))))))))
  cases d
 refine Lv aF (fO j)<|av aF<|aD<|aK<|ay ?_;by_cases l:v.kind=6
 ·refine Lv aG (eO l)<|av aG<|aD<|aO<|ay<|av (pt g)<|mh (ahg v g _ k) ?_;rintro e w8 ⟨a,N,W⟩;have F:=(mW g w).then W (by omega);by_cases u:toB v=true
  ·refine⟨.bool true,by rw[a,u],?_⟩;clear a;refine av aG (aD (Wr (bL (sR (aJ aG (⟨_,_,rfl,N,F,Eq.symm (by unfold mM; rw[b_ c,b_ f,b_ h,b_ i,b_ j,d_ l,(show toB v=true from u)]; try rfl),fun d => ?_⟩))))))
   unfold qM; rw[b_ c,b_ f,b_ h,b_ i,b_ j,d_ l]; try rfl
  rw[T_]at u;refine⟨.bool false,by rw[a,u],?_⟩;clear a;refine av aF (aD (Wr (bL (sR (aJ aF (⟨_,_,rfl,N,F,Eq.symm (by unfold mM; rw[b_ c,b_ f,b_ h,b_ i,b_ j,d_ l,(show toB v=false from u)]; try rfl),fun d => ?_⟩))))))
  cases d
 refine Lv aF (fO l)<|av aF<|aD<|aK<|Wk<|bR<|sN<|ay<|av (pt g)<|av (pt g)<|av (pt g)<|av (pf g 8)<|Lv (.int .u8 (v.kind)) (aM k.aH 8) ?_;by_cases x:v.kind=7
 ·refine Lv aG (eO x) (av aG (aD (Wr (aJ aG (⟨_,_,rfl,k,(mW g w),Eq.symm (by unfold mM; rw[b_ c,b_ f,b_ h,b_ i,b_ j,b_ l,f_ x]; try rfl),fun d => ?_⟩)))))
  unfold qM; rw[b_ c,b_ f,b_ h,b_ i,b_ j,b_ l]; try rfl
 refine Lv aF (fO x) (av aF (aD (Wr (aJ aF (⟨_,_,rfl,k,(mW g w),Eq.symm (by unfold mM; rw[b_ c,b_ f,b_ h,b_ i,b_ j,b_ l,g_ x]; try rfl),fun d => ?_⟩)))))
 cases d
theorem ahi(x:Nat->Int)(b off:Nat)(w:World)(hx:iN w b off 6 (rv .u64 x)) :
 Calls Tryz.prog 140 #[.slice (some ⟨b,off,none⟩) (6) (6)] w fun e w'=>e = .returned (aC (Nt x 5))/\Below w.heap.size w w':=by
 have o:=hx.lt (by omega);refine Kent Tryz.func140 25 ?_;refine ay<|av (aC 0)<|aD<|Ws<|ay<|av (.slice (some ⟨b,off,none⟩) (6) (6))<|av (au 6)<|Lv aF GR<|aD<|aK<|Wk<|sN<|ay<|av (.slice (some ⟨b,off,none⟩) (6) (6))<|Lv (pf b off) (dh 1)<|Lv (aC (x 0)) (aM hx 0)<|av (aC (x 0))<|aD<|Ws<|ay<|av (au 1)<|aD<|Wb<|Wo (fun f j => ∃ k:Nat,k<=5/\f 0 = .slice (some ⟨b,off,none⟩) (6) (6)/\f 3=aC (Nt x k)/\f 4=au ((k:Int)+1)/\iN j b off 6 (rv .u64 x)/\Below w.heap.size w j) (fun f _=>(6-(intOf (f 4)).toNat)) ⟨0,by omega,(by rfl),rfl,Fx.ic,hx,(Below.refl w.heap.size w)⟩ ?_;rintro m p ⟨k,n,c,h,a,i,d⟩;refine Ws<|ay<|bf a<|bf c<|av (au 6) ?_;by_cases g:((k:Int)+1)<6
 ·refine Lv aG (iq g)<|aD<|aO<|Wk<|sN<|Ws<|Wb<|Wl<|bf h<|bf c<|bf a<|Lv (pf b (k+off+1)) (dh 1)<|Lv (aC (x (k+1))) (aM i (k+1))<|Lv (aC (Nt x (k+1))) (Fx.ZN rfl rfl rfl)<|av (aC (Nt x (k+1)))<|Ln<|bR<|sN<|Wl<|bf a<|Lv (au ((k:Int)+2)) fC<|av (au ((k:Int)+2))<|Ln<|ig ⟨k+1,by omega,c,rfl,Fx.ic,i,d⟩ ?_;show(6-(intOf (au ((k:Int)+2))).toNat)<_;simp only[a,intOf]; omega
 refine Lv aF (iw g)<|aD<|aK<|Wx<|bZ<|gL<|cu<|sN<|ay<|bf h<|av (aC (Nt x k))<|aD<|Wr<|aJ (aC (Nt x k)) ?_;have l:k=5:=by omega
 exact⟨by rw[l],d⟩
theorem Bp{ks:List (Option IntKind)}{x y:Nat->Value}(h:Fx.Kd ks y)(e : ∀ j,j<ks.length->x j=y j):Fx.Kd ks x:=fun i a=>by rw[e i a]; exact h i a
namespace Rt
theorem La{v:EvM}(h:gu v):gu (U3 v):=by
 have z:iA 0:=⟨by decide,by decide⟩;have y:pV 0:=⟨by decide,by decide⟩;exact⟨h.o,h.seq,h.deps,h.kind,z,y,y,z,z⟩
theorem Lb{v:EvM}(h:gu v):gu (qM v):=by
 have z:iA 0:=⟨by decide,by decide⟩;have y:pV 0:=⟨by decide,by decide⟩;unfold qM;split
 ·exact⟨h.o,h.seq,h.deps,h.kind,z,h.dst,y,h.req,h.of⟩
 split
 ·exact⟨h.o,h.seq,h.deps,h.kind,z,h.dst,y,h.req,h.of⟩
 split
 ·exact⟨h.o,h.seq,h.deps,h.kind,z,h.dst,y,z,h.of⟩
 split
 ·exact⟨h.o,h.seq,h.deps,h.kind,h.node,h.dst,h.aQ,z,z⟩
 split
 ·exact⟨h.o,h.seq,h.deps,h.kind,z,y,y,h.req,h.of⟩
 split
 ·exact⟨h.o,h.seq,h.deps,h.kind,h.node,y,h.aQ,h.req,h.of⟩
 exact h
end Rt
set_option maxHeartbeats 2000000 in
theorem Ib(v:EvM)(w:World)(G:gu v) :
 Calls Tryz.prog 90 #[.agg (aA 14 (bM v))] w fun e w'=>e = .returned (.bool (bQ v))/\Below w.heap.size w w':=by
 refine Kent Tryz.func90 55 ?_;refine ay<|pR fun g w1 mo t s1 z1 => ?_;have B:=bE s1.old (Below.refl w.heap.size w);have sM:=gT mo;have ug:=t.lt;refine av aF<|aD<|Ws<|Ws ?_;refine nu<|aX (pt g)<|Qv (au v.o) (fun f d=>aM (t.cb d) 0) ?_;by_cases l:(jH v.o)=true
 ·obtain⟨a,ha,ea⟩:=eU l;refine qo (fun _ _=>Bo v.o _) aG (by rw[l])<|aX aF<|aX aF<|aX (pf g 1)<|Qv (aC v.seq) (fun f d=>aM (t.cb d) 1) ?_;by_cases N:v.seq<1
  ·refine Qv aG (fun f d=>iq N)<|aX aG<|aX aG<|aP<|aP<|aP<|aX aG<|aX aG<|aP<|aP<|aP<|aP<|aP<|aP<|aP<|aP<|aP<|aP<|aX aG<|Qn ?_;intro Xz tK;have⟨k,U⟩:=fq tK t B;refine sN<|aO<|ay<|av aF<|aD<|Wr<|sR<|aJ aF ?_;have k:decide (1<=v.seq)=false:=g_ (by omega);exact⟨iG (Eq.symm (by unfold bQ; rw[l,k]; try rfl)),U⟩
  refine Qv aF (fun f d=>iw N)<|aX aF<|aX aF<|aX (pf g 1)<|Qv (aC v.seq) (fun f d=>aM (t.cb d) 1) ?_;by_cases O:1099511627776<=v.seq
  ·refine Qv aG (fun f d=>kP O)<|aX aG<|aX aG<|aP<|aP<|aP<|aP<|aP<|aP<|aP<|aP<|aP<|aP<|aX aG<|Qn ?_;intro Z7 xg;have⟨m,V⟩:=fq xg t B;refine sN<|aO<|ay<|av aF<|aD<|Wr<|sR<|aJ aF ?_;have k:decide (1<=v.seq)=true:=f_ (by omega);have m:decide (v.seq<1099511627776)=false:=g_ (by omega);exact⟨iG (Eq.symm (by unfold bQ; rw[l,k,m]; try rfl)),V⟩
  refine Qv aF (fun f d=>kr O)<|aX aF<|aX aF<|aX (pt g)<|Qv (au v.o) (fun f d=>aM (t.cb d) 0)<|Qv (au a) (fun f d=>gD)<|aX (pf g 2)<|Qv (pf g (a+2)) (fun f d=>jM 6 1)<|Qv (aC (v.deps a)) (fun f d=>aM (t.cb d) (a+2) (mJ _ (by omega) (by omega)))<|aX (pf g 1)<|Qv (aC v.seq) (fun f d=>aM (t.cb d) 1)<|Qv (aC (v.seq-1)) (fun f d=>gD) ?_;by_cases y:(v.deps a)=(v.seq-1)
  ·refine Qv aF (fun f d=>jQ y)<|aX aF<|Qn ?_;intro wb3 xk;have⟨q,W⟩:=fq xk t B;refine sN<|aK<|Wk<|sN<|Ws<|ay<|av (pf g 2)<|Lv (.slice (some ⟨g,2,none⟩) (6) (6)) (Fx.Nr rfl rfl Tryz.underlying35 (s:=1) (by kernel_rfl))<|dJ (ahi v.deps g 2 _ (fun j x=>by have Q:=q.aH (2+j) (by omega); rw[G_]at Q; rw[Q,mJ v (p:=2+j) (j:=j) (by omega) x]; rfl)) _ rfl ?_;intro w2 hb1;have⟨r,I⟩:=fq hb1 q W;by_cases A:1099511627776<=(Nt v.deps 5)
   ·refine Lv aG (kP A)<|aD<|aO<|ay<|av aF<|aD<|Wr<|sR<|aJ aF ?_;have k:decide (1<=v.seq)=true:=f_ (by omega);have m:decide (v.seq<1099511627776)=true:=f_ (by omega);have q:decide (v.deps (v.o-1).toNat=v.seq-1)=true:=f_ (by rw[show(v.o-1).toNat=a by omega]; exact y);have r:=adf A;exact⟨iG (Eq.symm (by unfold bQ; rw[l,k,m,q,r]; try rfl)),I⟩
   refine Lv aF (kr A)<|aD<|aK<|Wk<|sN<|ay<|Lv (.agg (aA 14 (bM v))) (fD r.aH 0)<|av (.agg (aA 14 (bK (fun c=>if c<1 then au 0 else if c<8 then aC 0 else if c<9 then .int .u8 (0)else if c<10 then aC 0 else if c<12 then au 0 else aC 0) 0 14 (bM v))))<|pR fun z w3 P u s6 z2 => ?_;have⟨C,Z⟩:=fq s6.old r I;have ru:=iQ P I.size;have OO:=cK P r.lt;have zK:=u.lt;refine av (pt z)<|aD<|Ws ?_;have L:aR w3 z 14 (bM v) 218:=u.congr (fun j x=>by rcases j with _|_|_|_|_|_|_|_|_|_|_|_|_|_|j <;> first|rfl|omega)
   refine zC [0,1,2,3,4,5,7,9,11,13,6,8,10,12,14,15,16,17,18] [0,3,0,0,0,0,4,0,4,0,4,0,4,0,4,0,0,0,0] (Fx.xD [218]) Fx.xD.refl Fx.xD.trans (fG := [(2,1,[1]),(3,1,[2,1]),(4,1,[2,1]),(5,1,[2,1]),(7,1,[2,1]),(9,1,[2,1]),(11,1,[2,1]),(13,1,[2,1]),(6,1,[2,1]),(8,1,[2,1]),(10,1,[2,1]),(12,1,[2,1]),(14,1,[2,1]),(15,1,[2,1]),(16,1,[2,1]),(17,1,[2,1]),(18,1,[1])]) (by kernel_rfl) (by kernel_rfl) (by kernel_rfl) (by kernel_rfl) (by kernel_rfl) fun qA dP iE => ?_;have⟨m9,m10,M⟩:=iy dP C L Z;refine aY (pt z)<|gQ<|mh (adg v z _ m10) ?_;rintro e w4 ⟨b,v',E,R,S,F,hkv⟩;have H:=m9.cO S (by omega);have J:=S.below M M.size (by omega)
   cases b
   ·refine⟨.bool false,E,?_⟩;clear E;refine Ln<|aY aF<|Rk (by rfl)<|Rk (by rfl)<|Rk (by rfl)<|Rk (by rfl)<|Rk (by rfl)<|Rk (by rfl)<|Rk (by rfl)<|Rk (by rfl)<|Rk (by rfl)<|Rk (by rfl)<|Rk (by rfl)<|Rk (by rfl)<|Rk (by rfl)<|Rk (by rfl)<|aY aF<|aY aF<|bS<|Wr<|aJ aF ?_;have k:decide (1<=v.seq)=true:=f_ (by omega);have m:decide (v.seq<1099511627776)=true:=f_ (by omega);have q:decide (v.deps (v.o-1).toNat=v.seq-1)=true:=f_ (by rw[show(v.o-1).toNat=a by omega]; exact y);have r:=Jw A;have u:su v=true->dM v=false:=fun h=>by rw[Dk h,<- F]
    have C:(su v&&dM v)=false:=by cases h:su v with|false=>rfl|true=>exact u h
    have L:(true&&true&&true&&true&&true&&su v&&dM v)=false:=C;exact⟨iG (Eq.symm (by unfold bQ; rw[l,k,m,q,r,L]; try rfl)),J⟩
   refine⟨.bool true,E,?_⟩;clear E;rw[hkv rfl]at R;refine Ln<|aY aG<|aY (pt z)<|aY (pt z)<|aY (pt z)<|aY (pt g)<|aY (pf g 1)<|aY (pf g 2)<|aY (pf g 8)<|Rs (.agg (aA 14 (bM (qM v)))) (fD R.aH 0) ?_;refine Rs (au v.o) (aM H.aH 0) ?_;refine Rs (aC v.seq) (aM H.aH 1) ?_;refine Rs (.agg (aA 6 (rv .u64 v.deps))) (fD H.aH 2 (fun j x=>mJ _ (by omega) x)) ?_;refine Rs (.int .u8 (v.kind)) (aM H.aH 8) ?_;refine aY (.agg (aA 14 (bK (bK (bK (bK (fun c=>if c<1 then au 0 else if c<8 then aC 0 else if c<9 then .int .u8 (0)else if c<10 then aC 0 else if c<12 then au 0 else aC 0) 0 1 (fun _=>au v.o)) 1 1 (fun _=>aC v.seq)) 2 6 (rv .u64 v.deps)) 8 1 (fun _ => .int .u8 (v.kind))))) ?_;by_cases D : ∀ i,i<14->(bM (qM v)) i=(bK (bK (bK (bK (fun c=>if c<1 then au 0 else if c<8 then aC 0 else if c<9 then .int .u8 (0)else if c<10 then aC 0 else if c<12 then au 0 else aC 0) 0 1 (fun _=>au v.o)) 1 1 (fun _=>aC v.seq)) 2 6 (rv .u64 v.deps)) 8 1 (fun _ => .int .u8 (v.kind))) i
   ·refine Rp aG (fun f=>Fx.rQ (n:=14) (ks := [(some .i64),(some .u64),(some .u64),(some .u64),(some .u64),(some .u64),(some .u64),(some .u64),(some .u8),(some .u64),(some .i64),(some .i64),(some .u64),(some .u64)]) (X:=bM (qM v)) (Y:=bK (bK (bK (bK (fun c=>if c<1 then au 0 else if c<8 then aC 0 else if c<9 then .int .u8 (0)else if c<10 then aC 0 else if c<12 then au 0 else aC 0) 0 1 (fun _=>au v.o)) 1 1 (fun _=>aC v.seq)) 2 6 (rv .u64 v.deps)) 8 1 (fun _ => .int .u8 (v.kind))) 12 true rfl rfl rfl (Fx.Dz D) (tO (Lb G)) (Bp (tO (La G)) (fun j x=>by rcases j with _|_|_|_|_|_|_|_|_|_|_|_|_|_|j <;> first|rfl|exact M_ x (by simp))) rfl (by kernel_rfl) (by kernel_rfl) (by kernel_rfl) (by kernel_rfl) (by kernel_rfl))<|aY aG<|aY aG<|bS<|Wr<|aJ aG ?_
    have k:decide (1<=v.seq)=true:=f_ (by omega);have m:decide (v.seq<1099511627776)=true:=f_ (by omega);have q:decide (v.deps (v.o-1).toNat=v.seq-1)=true:=f_ (by rw[show(v.o-1).toNat=a by omega]; exact y);have r:=Jw A;have u:=(Ia F.symm).1 (fun i K=>(D i K).trans (by rcases i with _|_|_|_|_|_|_|_|_|_|_|_|_|_|i <;> first|rfl|omega))
    have C:=(Dk u).trans F.symm;exact⟨iG (Eq.symm (by unfold bQ; rw[l,k,m,q,r,u,C]; try rfl)),J⟩
   refine Rp aF (fun f=>Fx.rQ (n:=14) (ks := [(some .i64),(some .u64),(some .u64),(some .u64),(some .u64),(some .u64),(some .u64),(some .u64),(some .u8),(some .u64),(some .i64),(some .i64),(some .u64),(some .u64)]) (X:=bM (qM v)) (Y:=bK (bK (bK (bK (fun c=>if c<1 then au 0 else if c<8 then aC 0 else if c<9 then .int .u8 (0)else if c<10 then aC 0 else if c<12 then au 0 else aC 0) 0 1 (fun _=>au v.o)) 1 1 (fun _=>aC v.seq)) 2 6 (rv .u64 v.deps)) 8 1 (fun _ => .int .u8 (v.kind))) 12 false rfl rfl rfl (Fx.nob D) (tO (Lb G)) (Bp (tO (La G)) (fun j x=>by rcases j with _|_|_|_|_|_|_|_|_|_|_|_|_|_|j <;> first|rfl|exact M_ x (by simp))) rfl (by kernel_rfl) (by kernel_rfl) (by kernel_rfl) (by kernel_rfl) (by kernel_rfl))<|aY aF<|aY aF<|bS<|Wr<|aJ aF ?_
   have k:decide (1<=v.seq)=true:=f_ (by omega);have m:decide (v.seq<1099511627776)=true:=f_ (by omega);have q:decide (v.deps (v.o-1).toNat=v.seq-1)=true:=f_ (by rw[show(v.o-1).toNat=a by omega]; exact y);have r:=Jw A;have u:su v=false:=Bool.eq_false_iff.2 (fun h=>D (fun i K=>((Ia F.symm).2 h i K).trans (by rcases i with _|_|_|_|_|_|_|_|_|_|_|_|_|_|i <;> first|rfl|omega)))
   exact⟨iG (Eq.symm (by unfold bQ; rw[l,k,m,q,r,u]; try rfl)),J⟩
  refine Qv aG (fun f d=>nk y)<|aX aG<|Qn ?_;intro wb4 AY;have b9:=bE AY B;refine sN<|aO<|ay<|av aF<|aD<|Wr<|sR<|aJ aF ?_;have k:decide (1<=v.seq)=true:=f_ (by omega);have m:decide (v.seq<1099511627776)=true:=f_ (by omega);have q:decide (v.deps (v.o-1).toNat=v.seq-1)=false:=g_ (by rw[show(v.o-1).toNat=a by omega]; exact y);exact⟨iG (Eq.symm (by unfold bQ; rw[l,k,m,q]; try rfl)),b9⟩
 rw[T_]at l;refine qo (fun _ _=>Bo v.o _) aF (by rw[l])<|aX aG<|aX aG<|aP<|aP<|aP<|aX aG<|aX aG<|aP<|aP<|aP<|aX aG<|aX aG<|aP<|aP<|aP<|aP<|aP<|aP<|aP<|aP<|aP<|aP<|aX aG<|Qn ?_;intro wb5 ES;have T:=bE ES B;refine sN<|aO<|ay<|av aF<|aD<|Wr<|sR<|aJ aF ?_;exact⟨iG (Eq.symm (by unfold bQ; rw[l]; try rfl)),T⟩
namespace Rt
def uE(a b:Int):Int:=if b>a then b else a
def vx(X:Nat->Nat->Int):Nat->Value:=fun p=>aC (X (p / 6) (p % 6))
theorem U6(X:Nat->Nat->Int){i p j:Nat}(a:p=6*i)(b:j<6):vx X (p+j)=rv .u64 (X i) j:=by
 subst a;show Value.int .u64 (X ((6*i+j) / 6) ((6*i+j) % 6))=aC (X i j);rw[show(6*i+j) / 6=i by omega,show(6*i+j) % 6=j by omega]
def zM(c:Int->Int->Int)(X:Nat->Nat->Int):Nat->Nat->Int
 | 0=>X 0
 | k+1=>fun p=>c (zM c X k p) (X (k+1) p)
def O9(c:Int->Int->Int)(X:Nat->Nat->Int):Nat->Nat->Int
 | 0=>fun _=>0
 | k+1=>zM c X k
def Vcs(w:World)(a:Option Addr)(n cap:Nat)(X:Nat->Nat->Int):Prop:=0<n->n<=cap /\ ∃ b c,a=some ⟨b,c,none⟩/\iN w b c (6*n) (vx X)
def yC(x:Nat->Int)(k:Nat):Nat->Int:=fun p=>if p<k then x p else 0
theorem Nu(x:Nat->Int)(k:Nat):upd (yC x k) k (x k)=yC x (k+1):=by
 funext p; unfold upd yC
 by_cases h:p=k
 ·subst h; rw[d_ rfl,d_ (by omega)]
 rw[b_ h];by_cases a:p<k
 ·rw[d_ a,d_ (by omega)]
 rw[b_ a,b_ (by omega)]
theorem QS(x:Nat->Int):aA 6 (rv .u64 (yC x 6))=aA 6 (rv .u64 x):=Fx.dW fun p a=>L_ (Value.int .u64) (by unfold yC; rw[d_ a])
end Rt
theorem ahj(a b:Int)(w:World) :
 Calls Tryz.prog 119 #[aC a,aC b] w fun e w'=>e = .returned (aC (uE a b))/\w'=w:=by
 refine Kent Tryz.func119 8 ?_;refine ay<|av (aC 0)<|aD<|ay<|av (aC a)<|av (aC b)<|Lv (aC (uE a b)) (Fx.ZN rfl rfl rfl)<|av (aC (uE a b))<|aD<|Wr<|aJ (aC (uE a b)) ?_;exact⟨rfl,rfl⟩
theorem U7(x y:Nat->Int)(d go c q:Nat)(w:World)(l:q<6)(j:aR w d 1 (fun _ => .func (.func 119) #[] #[]) 198)(f:aR w go 6 (rv .u64 x) 35)(k:aR w c 6 (rv .u64 y) 35) :
 Calls Tryz.prog 155 #[au (q:Int),(pt d),(pt go),(pt c)] w fun e w'=>e = .returned (aC (uE (x q) (y q)))/\Below w.heap.size w w':=by
 refine Kent Tryz.func155 14 ?_;refine ay<|av (aC 0)<|aD<|Ws ?_;refine nu<|Qv (.func (.func 119) #[] #[]) (fun b a=>aM (j.cb a) 0)<|aX (au q)<|Qv (pf go q) (fun b a=>jM 6 1)<|Qv (aC (x q)) (fun b a=>aM (f.cb a) q)<|aX (au q)<|Qv (pf c q) (fun b a=>jM 6 1)<|Qv (aC (y q)) (fun b a=>aM (k.cb a) q)<|EA (v:=aC (uE (x q) (y q))) (by rfl) (fun b a=>Fx.ED (args := [aC (x q),aC (y q)]) rfl rfl rfl (all := #[aC (x q),aC (y q)]) rfl Tryz.func119 rfl rfl) rfl (fun b a=>(ahj (x q) (y q) _).mono fun e v2 h=>⟨h.1,by rw[h.2]; exact a⟩) ?_;refine aX (aC (uE (x q) (y q)))<|Qn ?_;intro n i;have⟨m,g⟩:=fq i f (Below.refl w.heap.size w);refine sN<|Wr<|aJ (aC (uE (x q) (y q))) ?_;exact⟨rfl,g⟩
theorem Nw(x y:Nat->Int)(b go c:Nat)(w:World)(z:aR w b 1 (fun _ => .func (.func 119) #[] #[]) 198)(B:aR w go 6 (rv .u64 x) 35)(C:aR w c 6 (rv .u64 y) 35) :
 Calls Tryz.prog 153 #[.func (.func 155) #[] #[(pt b),(pt go),(pt c)]] w fun e w'=>e = .returned (.agg (aA 6 (rv .u64 (fun p=>uE (x p) (y p)))))/\Below w.heap.size w w':=by
 refine Kent Tryz.func153 14 ?_;refine ay<|BI (m:=6) (y:=rv .u64 (fun _=>0)) (by rfl) rfl (by kernel_rfl) rfl fun a w1 u D Z z1 => ?_;have⟨T,W,X,E⟩:=kV Z.old z B C (Below.refl w.heap.size w);have sM:=gT u;have⟨nG,Ue,yD⟩:=EK u z.lt B.lt C.lt;have ug:=D.lt;refine aD<|Ws<|ay<|av (au 0)<|aD<|Wb ?_;have Y:aR w1 a 6 (rv .u64 (yC (fun p=>uE (x p) (y p)) 0)) 35:=D;refine Wo (fun f h => ∃ k:Nat,k<=6/\f 0 = .func (.func 155) #[] #[(pt b),(pt go),(pt c)]/\f 2=(pt a)/\f 4=au (k:Int)/\aR h b 1 (fun _ => .func (.func 119) #[] #[]) 198/\aR h go 6 (rv .u64 x) 35/\aR h c 6 (rv .u64 y) 35/\aR h a 6 (rv .u64 (yC (fun p=>uE (x p) (y p)) k)) 35/\Below w.heap.size w h) (fun f _=>(6-(intOf (f 4)).toNat)) ⟨0,by omega,(by rfl),(by rfl),Fx.ic,T,W,X,Y,E⟩ ?_;rintro f1 w2 ⟨k,hk,v,d,g,n,o,q,r,l⟩;refine ay ?_;by_cases t:(k:Int)<6
 ·refine Lv aG (iq t (hx:=g))<|aD<|Ws<|aO<|Wk<|sN<|Ws<|Wb<|ay<|bf g<|av (au k)<|aD<|Wl<|av (au k)<|bf v<|av (au k)<|Au (by rfl) (Fx.ED (args := [au (k:Int)]) rfl rfl rfl (all := #[au (k:Int),(pt b),(pt go),(pt c)]) rfl Tryz.func155 rfl rfl) rfl<|(U7 x y b go c k _ (by omega) n o q).mono ?_;rintro e w3 ⟨A,I⟩;refine⟨aC (uE (x k) (y k)),by rw[A],?_⟩;clear A;have⟨J,K,L,M,s⟩:=qU I n o q r l;refine Lv (pf a k) (jM 6 1 (hx:=d))<|jg M k (aC (uE (x k) (y k))) fun w4 N i z2 => ?_;have O:aR w4 a 6 (rv .u64 (upd (yC (fun p=>uE (x p) (y p)) k) k (uE (x k) (y k)))) 35:=N.to (Fx.yJ _ _ _ _);have P:=J.cO i (by omega);have Q:=K.cO i (by omega);have R:=L.cO i (by omega);have F:=i.below s s.size (by omega);refine Ln<|bR<|sN<|Wl<|Lv (au ((k:Int)+1)) (fC (hx:=g))<|av (au ((k:Int)+1))<|Ln ?_;have S:=O.to (L_ (rv .u64) (Nu (fun p=>uE (x p) (y p)) k));refine ig ⟨k+1,by omega,v,d,Fx.ic,P,Q,R,S,F⟩ ?_;show(6-(intOf (au ((k:Int)+1))).toNat)<_;simp only[g,intOf]; omega
 refine Lv aF (iw t (hx:=g))<|aD<|Ws<|aK<|Wx<|bZ<|gL<|cu<|sN<|ay<|Lv (.agg (aA 6 (rv .u64 (yC (fun p=>uE (x p) (y p)) k)))) (fD r.aH 0 (ha:=d))<|eP r 0 (ha:=d) fun w5 U j z3 => ?_;have V:aR w5 a 6 (rv .u64 (yC (fun p=>uE (x p) (y p)) k)) 35:=aS U;have m22:=n.cO j (by omega);have m23:=o.cO j (by omega);have m24:=q.cO j (by omega);have G:=j.below l l.size (by omega);refine aD (Wr (⟨.agg (aA 6 (rv .u64 (yC (fun p=>uE (x p) (y p)) k))),rV Tryz.results153 ⟨_,d,aW V.aH (by kernel_rfl) (by kernel_rfl)⟩,?_⟩));have H:k=6:=by omega
 exact⟨by rw[H,QS],G⟩
namespace Rt
def V2(x y:Nat->Int):Nat->Nat->Int
 | 0=>x
 | 1=>y
 | _=>fun _=>0
end Rt
theorem Lc(a:Option Addr)(cap:Nat)(w:World) :
 Calls Tryz.prog 118 #[.slice a (0) (cap),.func (.func 119) #[] #[]] w fun e w'=>e = .returned (.agg (aA 6 (rv .u64 (fun _=>0))))/\Below w.heap.size w w':=by
 refine Kent Tryz.func118 26 ?_;refine ay<|xV (.func (.func 119) #[] #[]) fun t C j b p E => ?_;have c:=bE p.old (Below.refl w.heap.size w);have u:=gT j;have A:=b.lt;refine rR 6 (rv .u64 (fun _=>0)) fun k D f g q F => ?_;have⟨l,d⟩:=fq q.old b c;have v:=iQ f c.size;have z:=cK f b.lt;have B:=g.lt;refine aD<|Ws<|ay<|av (.slice a (0) (cap))<|av (au 0)<|Lv aG (eO rfl)<|aD<|aO<|ay<|Lv (.agg (aA 6 (rv .u64 (fun _=>0)))) (Fx.MJ (vs := []) (s:=1) (m:=6) (x:=rv .u64 (fun _=>0)) rfl rfl Tryz.underlying35 (by kernel_rfl) (by kernel_rfl) (by rfl))<|eP g 0 fun r n h G => ?_;have o:aR r k 6 (rv .u64 (fun _=>0)) 35:=aS n;have y:=l.cO h (by omega);have i:=h.below d d.size (by omega);refine aD (Wr (sR (⟨.agg (aA 6 (rv .u64 (fun _=>0))),rV Tryz.results118 ⟨_,rfl,aW o.aH (by kernel_rfl) (by kernel_rfl)⟩,?_⟩)));exact⟨rfl,i⟩
theorem Ld(b off m cap:Nat)(X:Nat->Nat->Int)(w:World)(hcap:m+1<=cap)(hm:m<=1000000)(hx:iN w b off (6*(m+1)) (vx X)) :
 Calls Tryz.prog 118 #[.slice (some ⟨b,off,none⟩) (m+1) (cap),.func (.func 119) #[] #[]] w fun e w'=>e = .returned (.agg (aA 6 (rv .u64 (zM uE X m))))/\Below w.heap.size w w':=by
 have lb:=hx.lt (by omega);refine Kent Tryz.func118 26 ?_;refine ay<|xV (.func (.func 119) #[] #[]) fun c w1 Q F s1 z1 => ?_;have⟨T,K⟩:=fq s1.old hx (Below.refl w.heap.size w);have sM:=gT Q;have nG:b≠c:=by rw[Q]; exact u_ (hx.lt (by omega))
 have ug:=F.lt;refine rR 6 (rv .u64 (fun _=>0)) fun r w2 z I s2 z2 => ?_;have⟨J,Z,L⟩:=iy s2.old T F K;have ru:=iQ z K.size;have ahk:b≠r:=by rw[z]; exact u_ (T.lt (by omega))
 have OM:=cK z F.lt;have zK:=I.lt;refine aD<|Ws<|ay<|av (.slice (some ⟨b,off,none⟩) (m+1) (cap))<|av (au ((m+1:Nat):Int))<|Lv aF afB<|aD<|aK<|Wk<|sN<|ay<|av (.slice (some ⟨b,off,none⟩) (m+1) (cap))<|Lv (pf b off) (dh 6)<|Lv (.agg (aA 6 (rv .u64 (X 0)))) (fD J 0 (fun j E=>U6 _ (i:=0) (p:=0) (by omega) E))<|rR 6 (rv .u64 (fun _=>0)) fun a w3 A m6 s3 z3 => ?_;have⟨m7,m8,m9,M⟩:=kV s3.old J Z I L;have C9:=iQ A L.size;have asA:b≠a:=by rw[A]; exact u_ (J.lt (by omega))
 have⟨U8,U9⟩:=wh A Z.lt I.lt;have JR:=m6.lt;refine eP m6 0 fun w4 m10 x z4 => ?_;have m11:aR w4 a 6 (rv .u64 (X 0)) 35:=aS m10;have m12:=m7.cO x (by omega);have m13:=m8.cO x (by omega);have m14:=m9.cO x (by omega);have b4:=x.below M M.size (by omega);refine aD<|Ws<|ay<|av (.slice (some ⟨b,off,none⟩) (m+1) (cap))<|Lv (.slice (if cap=1 then some ⟨b,off,none⟩else some ⟨b,off+6,none⟩) (m) (cap-1)) (Fx.zP (j:=1) (b:=b) (off:=off) (len:=m+1) (cap:=cap) (s:=6) rfl rfl rfl Tryz.underlying196 (by kernel_rfl) (by omega) rfl rfl rfl)<|av (au m)<|av (au 0)<|aD<|Wb ?_;have m15:aR w4 a 6 (rv .u64 (zM uE X 0)) 35:=m11;refine Wo (fun f n => ∃ k:Nat,k<=m/\f 3=(pt c)/\f 4=(pt r)/\f 5=(pt a)/\f 16 = .slice (if cap=1 then some ⟨b,off,none⟩else some ⟨b,off+6,none⟩) (m) (cap-1)/\f 17=au (m:Int)/\f 18=au (k:Int)/\iN n b off (6*(m+1)) (vx X)/\aR n c 1 (fun _ => .func (.func 119) #[] #[]) 198/\aR n r 6 (rv .u64 (fun _=>0)) 35/\aR n a 6 (rv .u64 (zM uE X k)) 35/\Below w.heap.size w n) (fun f _=>(m-(intOf (f 18)).toNat)) ⟨0,by omega,(by rfl),(by rfl),(by rfl),(by rfl),Fx.ic,Fx.ic,m12,m13,m14,m15,b4⟩ ?_;rintro f1 w5 ⟨k,hk,R,C,t,S,D,g,u,G,H,v,o⟩;refine ay ?_;by_cases P:(k:Int)<(m:Int)
 ·refine Lv aG (iq P (hx:=g) (hy:=D))<|aD<|Ws<|aO<|Wk<|sN<|Ws<|Wb<|ay<|Lv (pf b (6*k+off+6)) (dh 6 (hx:=(S.trans (L_ (fun q=>Value.slice q (m) (cap-1)) (b_ (by omega))))) (hi:=g))<|Lv (.agg (aA 6 (rv .u64 (X (k+1))))) (fD u (6*k+6) (fun j E=>U6 _ (i:=k+1) (p:=6*k+6) (by omega) E))<|rR 6 (rv .u64 (fun _=>0)) fun d w6 B U s5 z5 => ?_;have⟨m21,m22,m23,m24,N⟩:=qU s5.old u G H v o;have Rw:=iQ B o.size;have aod:b≠d:=by rw[B]; exact u_ (u.lt (by omega))
  have⟨aoe,aof,aog⟩:=EK B G.lt H.lt v.lt;have QF:=U.lt;refine eP U 0 fun w7 mQ h z6 => ?_;have V:aR w7 d 6 (rv .u64 (X (k+1))) 35:=aS mQ;have oq:=m21.cO h (by omega);have W:=m22.cO h (by omega);have oM:=m23.cO h (by omega);have Y:=m24.cO h (by omega);have b7:=h.below N N.size (by omega);refine aD<|Wl<|Lv (.func (.func 155) #[] #[(pt c),(pt a),(pt d)]) (Fx.mX (us := []) (vs := [(pt c),(pt a),(pt d)]) rfl rfl (Fx.Oh R t rfl))<|dJ (Nw (zM uE X k) (X (k+1)) c a d _ W Y V) _ rfl ?_;intro w8 hb1;have⟨mI,m32,qB,nV,qC,O⟩:=rT hb1 oq W oM Y V b7;refine eP nV 0 (ha:=t) fun w9 oN l z7 => ?_;have sP:aR w9 a 6 (rv .u64 (fun p=>uE ((zM uE X k) p) ((X (k+1)) p))) 35:=aS oN;have qX:=mI.cO l (by omega);have qY:=m32.cO l (by omega);have uI:=qB.cO l (by omega);have nI:=qC.cO l (by omega);have b9:=l.below O O.size (by omega);refine Ln<|bR<|sN<|Wl<|Lv (au ((k:Int)+1)) (fC (hx:=g))<|av (au ((k:Int)+1))<|Ln<|ig ⟨k+1,by omega,R,C,t,S,(D.trans Fx.ic),Fx.ic,qX,qY,uI,sP,b9⟩ ?_;show(m-(intOf (au ((k:Int)+1))).toNat)<_;simp only[g,intOf]; omega
 refine Lv aF (iw P (hx:=g) (hy:=D))<|aD<|Ws<|aK<|Wx<|bZ<|gL<|cu<|sN<|ay<|Lv (.agg (aA 6 (rv .u64 (zM uE X k)))) (fD v.aH 0 (ha:=t))<|eP H 0 (ha:=C) fun sO nJ y z8 => ?_;have nK:aR sO r 6 (rv .u64 (zM uE X k)) 35:=aS nJ;have rY:=u.cO y (by omega);have qK:=G.cO y (by omega);have oO:=v.cO y (by omega);have b10:=y.below o o.size (by omega);refine aD (Wr (⟨.agg (aA 6 (rv .u64 (zM uE X k))),rV Tryz.results118 ⟨_,C,aW nK.aH (by kernel_rfl) (by kernel_rfl)⟩,?_⟩));have ek:k=m:=by omega
 exact⟨by rw[ek],b10⟩
theorem Ny(a:Option Addr)(n cap:Nat)(X:Nat->Nat->Int)(w:World)(g:n<=1000000)(h:Vcs w a n cap X) :
 Calls Tryz.prog 118 #[.slice a n cap,.func (.func 119) #[] #[]] w fun e w'=>e = .returned (.agg (aA 6 (rv .u64 (O9 uE X n))))/\Below w.heap.size w w':=by
 cases n with
 | zero=>exact Lc a cap w
 | succ m=>obtain⟨c,b,f,rfl,d⟩:=h (by omega); exact Ld b f m cap X w c (by omega) d
theorem adh{w w':World}{a:Option Addr}{n cap:Nat}{X:Nat->Nat->Int}(h:Vcs w a n cap X)(f:Below w.heap.size w w'):Vcs w' a n cap X:=fun d=>by
 obtain⟨g,b,i,e,c⟩:=h d;exact⟨g,b,i,e,c.below f (c.lt (by omega))⟩
theorem adi(a:Option Addr)(n cap:Nat)(X:Nat->Nat->Int)(w:World)(k:n<=1000000)(h:Vcs w a n cap X) :
 Calls Tryz.prog 68 #[.slice a (n) (cap)] w fun e w'=>e = .returned (.agg (aA 6 (rv .u64 (O9 uE X n))))/\Below w.heap.size w w':=by
 refine Kent Tryz.func68 5 ?_;refine ay<|BI (m:=6) (y:=rv .u64 (fun _=>0)) (by rfl) rfl (by kernel_rfl) rfl fun i v g d q z => ?_;have b:=bE q.old (Below.refl w.heap.size w);have t:=gT g;have u:=d.lt;refine aD<|ay<|av (.slice a (n) (cap))<|dJ (Ny a n cap X _ k (adh h b)) _ rfl ?_;intro x j;have⟨l,c⟩:=fq j d b;refine eP l 0 fun s o r A => ?_;have p:aR s i 6 (rv .u64 (O9 uE X n)) 35:=aS o;have f:=r.below c c.size (by omega);refine aD (Wr (⟨.agg (aA 6 (rv .u64 (O9 uE X n))),rV Tryz.results68 ⟨_,rfl,aW p.aH (by kernel_rfl) (by kernel_rfl)⟩,?_⟩));exact⟨rfl,f⟩
namespace Rt
theorem ahl(x y:Nat->Int):bK (bK (fun j=>rv .u64 (fun _=>0) (j % 6)) (0*6) 6 (rv .u64 x)) (1*6) 6 (rv .u64 y)=vx (V2 x y):=by
 funext p
 unfold bK;by_cases b:1*6<=p/\p<1*6+6
 ·rw[d_ b];show _=Value.int .u64 (V2 x y (p / 6) (p % 6));rw[show p / 6=1 by omega,show p-1*6=p % 6 by omega]; rfl
 rw[b_ b];by_cases a:0*6<=p/\p<0*6+6
 ·rw[d_ a];show _=Value.int .u64 (V2 x y (p / 6) (p % 6));rw[show p / 6=0 by omega,show p-0*6=p % 6 by omega]; rfl
 rw[b_ a];show _=Value.int .u64 (V2 x y (p / 6) (p % 6));obtain⟨q,c⟩ : ∃ q,p / 6=q+2:=⟨p / 6-2,by omega⟩;rw[c]; rfl
end Rt
namespace Rt
def hasB(K:Nat->Int)(o a:Int):Bool:=jH o&&decide (0<a)&&decide (a<=K (o-1).toNat)
theorem Ic{a b:Nat->Int}:yh a b=true <-> ∀ i,i<6->rv .u64 (fun p=>uE (a p) (b p)) i=rv .u64 b i:=by
 unfold yh;rw[List.all_eq_true];have e : ∀ i,rv .u64 (fun p=>uE (a p) (b p)) i=rv .u64 b i<->a i<=b i:=fun i=>by
  show Value.int .u64 (uE (a i) (b i))=aC (b i)<->_;simp only[Value.int.injEq,true_and]; unfold uE; split <;> omega
 constructor
 ·intro h i c; have:=h i (O_.2 c); rw[e]; exact h_ this
 intro h i c; have:=h i (O_.1 c); rw[e]at this; exact f_ this
def Kr(K:Nat->Int):Prop := ∀ i,i<6->iA (K i)
theorem Kr.kd{K:Nat->Int}(h:Kr K):Fx.Kd (List.replicate 6 (some .u64)) (rv .u64 K):=Fx.J6 fun i a=>Fx.tC (h i a)
theorem Kr.mx{K L:Nat->Int}(h:Kr K)(b:Kr L):Kr (fun p=>uE (K p) (L p)):=fun i a=>by
 have c:=h i a; have d:=b i a; show iA (uE (K i) (L i)); unfold uE; split <;> assumption
end Rt
theorem Yx{w:World}{g:Nat}{T:TypeId}{x:Nat->Value}(D K:Nat->Int)(h:aR w g (2*6) x T)(e:x=vx (V2 D K)) :
 Calls Tryz.prog 68 #[bO g 2 2] w fun e w'=>e = .returned (.agg (aA 6 (rv .u64 fun p=>uE (D p) (K p))))/\Below w.heap.size w w' :=
 adi (some ⟨g,0,none⟩) 2 2 (V2 D K) w (by omega) (fun _=>⟨A_ _,g,0,rfl,(h.to e).aH⟩)
theorem Jy(n:Int)(w:World) :
 Calls Tryz.prog 77 #[au n] w fun e w'=>e = .returned (.bool (jH n))/\w'=w:=by
 refine Kent Tryz.func77 9 ?_;refine ay<|av aF<|aD<|ay<|av (au n) ?_;by_cases a:1<=n
 ·refine Lv aG (kP a)<|av aG<|av (au n) ?_;by_cases b:n<=6
  ·refine Lv aG (mZ b)<|av aG<|av aG<|aD<|Wr<|aJ aG ?_;exact⟨iG (by simp only[jH]; first|(symm; simp; omega)|(symm; simp; done)),rfl⟩
  refine Lv aF (nP b)<|av aF<|av aF<|aD<|Wr<|aJ aF ?_;exact⟨iG (by simp only[jH]; first|(symm; simp; omega)|(symm; simp; done)),rfl⟩
 refine Lv aF (kr a)<|av aF<|dB<|dB<|av aF<|av aF<|aD<|Wr<|aJ aF ?_;exact⟨iG (by simp only[jH]; first|(symm; simp; omega)|(symm; simp; done)),rfl⟩
theorem aap(K:Nat->Int)(o q:Int)(w:World) :
 Calls Tryz.prog 142 #[.agg (aA 6 (rv .u64 K)),au o,aC q] w fun e w'=>e = .returned (.bool (hasB K o q))/\Below w.heap.size w w':=by
 refine Kent Tryz.func142 21 ?_;refine ay<|pR fun k s j i l t => ?_;have f:=bE l.old (Below.refl w.heap.size w);have p:=gT j;have r:=i.lt;refine av aF<|aD<|ay<|av (au o) ?_;by_cases b:(jH o)=true
 ·obtain⟨a,n,m⟩:=eU b;refine lU (Jy o _) aG (by rw[b])<|av aG<|av (aC q) ?_;by_cases c:0<q
  ·refine Lv aG (ng c)<|av aG<|av aG<|av (au o)<|Lv (au a) gD<|Lv (pf k a) (jM 6 1)<|Lv (aC (K a)) (aM i.aH a)<|av (aC q) ?_;by_cases g:q<=(K a)
   ·refine Lv aG (kP g)<|av aG<|av aG<|aD<|Wr<|aJ aG ?_;have d:decide (0<q)=true:=f_ c;have h:decide (q<=K (o-1).toNat)=true:=f_ (by rw[show(o-1).toNat=a by omega]; exact g);exact⟨iG (Eq.symm (by unfold hasB; rw[b,d,h]; try rfl)),f⟩
   refine Lv aF (kr g)<|av aF<|av aF<|aD<|Wr<|aJ aF ?_;have d:decide (0<q)=true:=f_ c;have h:decide (q<=K (o-1).toNat)=false:=g_ (by rw[show(o-1).toNat=a by omega]; exact g);exact⟨iG (Eq.symm (by unfold hasB; rw[b,d,h]; try rfl)),f⟩
  refine Lv aF (ni c)<|av aF<|av aF<|dB<|dB<|dB<|dB<|dB<|dB<|av aF<|av aF<|aD<|Wr<|aJ aF ?_;have d:decide (0<q)=false:=g_ c;exact⟨iG (Eq.symm (by unfold hasB; rw[b,d]; try rfl)),f⟩
 rw[T_]at b;refine lU (Jy o _) aF (by rw[b])<|av aF<|dB<|dB<|av aF<|av aF<|dB<|dB<|dB<|dB<|dB<|dB<|av aF<|av aF<|aD<|Wr<|aJ aF ?_;exact⟨iG (Eq.symm (by unfold hasB; rw[b]; try rfl)),f⟩
theorem Va(D K:Nat->Int)(w:World)(o:Kr D)(b:Kr K) :
 Calls Tryz.prog 143 #[.agg (aA 6 (rv .u64 D)),.agg (aA 6 (rv .u64 K))] w fun e w'=>e = .returned (.bool (yh D K))/\Below w.heap.size w w':=by
 refine Kent Tryz.func143 11 ?_;refine ay<|pR fun M w1 E d I z1 => ?_;have f:=bE I.old (Below.refl w.heap.size w);have Q:=gT E;have W:=d.lt;refine pR fun N w2 l r J z2 => ?_;have⟨H,B⟩:=fq J.old d f;have R:=iQ l f.size;have T:=cK l d.lt;have Z:=r.lt;refine av aF<|aD<|Ws ?_;refine jW [0,1,4,2,3,5,6] [4,4,2,2,1,0,0] [(2,0,[0]),(3,0,[2,0]),(2,1,[1]),(3,1,[2,1]),(3,2,[2]),(5,2,[3,2]),(6,2,[2]),(5,3,[3]),(6,3,[3])] fun qA F P => ?_;have⟨t,c,g⟩:=iy F H r B;refine Rs (.agg (aA 6 (rv .u64 D))) (fD t.aH 0) ?_;refine Rs (.agg (aA 6 (rv .u64 K))) (fD c.aH 0) ?_;refine Rd (v := .agg (aA 6 (rv .u64 K))) (by rfl) (by rfl) (tZ _) (fun A G=>eG (x:=rv .u64 K) (y:=rv .u64 K) rfl rfl (by kernel_rfl) (by kernel_rfl) (c.aH.below G (by have:=c.lt; omega)) (i:=0) (by omega) (by omega) (fun j _=>by rw[G_])) ?_;refine xM<|yK (vs := [(0,.agg (aA 6 (rv .u64 D))),(1,.agg (aA 6 (rv .u64 K)))]) (s:=6) (zc:=rv .u64 (fun _=>0)) (y:=bK (bK (fun j=>(rv .u64 (fun _=>0)) (j % 6)) (0*6) 6 (rv .u64 D)) (1*6) 6 (rv .u64 K)) (by rfl) rfl rfl Tryz.underlying196 (by kernel_rfl) (by rfl) (by rfl) (by kernel_rfl) (by rw[bG (off:=0*6) (s:=6) (y:=rv .u64 D) rfl (bI _ _) (by rfl)]; rw[bG (off:=1*6) (s:=6) (y:=rv .u64 K) rfl (bI _ _) (by rfl)]; rfl) rfl fun O w3 m u z z3 => ?_;have C:=bE z.old g;have S:=iQ m g.size;have⟨U,V⟩:=wh m t.lt c.lt;have aa:=u.lt;refine Ln ⟨z.old,?_⟩;refine xM<|dJ (Yx D K u (ahl D K)) _ rfl ?_;intro w4 q;have L:=Sb q;have k:=bE q C;refine Ln ⟨L.old,?_⟩;by_cases a : ∀ i,i<6->(rv .u64 (fun p=>uE (D p) (K p))) i=(rv .u64 K) i
 ·refine Rp aG (fun A=>Fx.rQ (n:=6) (ks:=List.replicate 6 (some .u64)) (X:=rv .u64 (fun p=>uE (D p) (K p))) (Y:=rv .u64 K) 12 true rfl rfl rfl (Fx.Dz a) (o.mx b).kd b.kd rfl (by kernel_rfl) (by kernel_rfl) (by kernel_rfl) (by kernel_rfl) (by kernel_rfl))<|aY aG<|bS<|Wr<|aJ aG ?_;exact⟨iG (Eq.symm (Ic.2 a)),k⟩
 refine Rp aF (fun A=>Fx.rQ (n:=6) (ks:=List.replicate 6 (some .u64)) (X:=rv .u64 (fun p=>uE (D p) (K p))) (Y:=rv .u64 K) 12 false rfl rfl rfl (Fx.nob a) (o.mx b).kd b.kd rfl (by kernel_rfl) (by kernel_rfl) (by kernel_rfl) (by kernel_rfl) (by kernel_rfl))<|aY aF<|bS<|Wr<|aJ aF ?_;exact⟨iG (Eq.symm (Bool.eq_false_iff.2 (fun h=>a (Ic.1 h)))),k⟩
theorem Rt.Lf{K:Nat->Int}{v:EvM}(h:bQ v=true):jY K v=hasB K v.o v.seq:=by
 have a:=iV h; have b:=(Eb h).1;unfold jY hasB; rw[h,a,show decide (0<v.seq)=true from f_ (by omega)]; rfl
theorem Vb(K:Nat->Int)(v:EvM)(w:World)(k:gu v) :
 Calls Tryz.prog 91 #[.agg (aA 6 (rv .u64 K)),.agg (aA 14 (bM v))] w fun e w'=>e = .returned (.bool (jY K v))/\Below w.heap.size w w':=by
 refine Kent Tryz.func91 15 ?_;refine ay<|pR fun B H q c z O => ?_;have f:=bE z.old (Below.refl w.heap.size w);have C:=gT q;have F:=c.lt;refine pR fun j I i d A P => ?_;have⟨x,g⟩:=fq A.old c f;have D:=iQ i f.size;have E:=cK i c.lt;have G:=d.lt;refine av aF<|aD<|ay<|Lv (.agg (aA 14 (bM v))) (fD d.aH 0) ?_;by_cases a:(bQ v)=true
 ·refine dJ (Ib v _ k) aG (by rw[a]) ?_;intro J r;have⟨y,l,h⟩:=iy r x d g;refine av aG<|Lv (.agg (aA 6 (rv .u64 K))) (fD y.aH 0)<|av (pt j)<|Lv (au v.o) (aM l.aH 0)<|av (pf j 1)<|Lv (aC v.seq) (aM l.aH 1) ?_;by_cases b:(hasB K v.o v.seq)=true
  ·refine dJ (aap K v.o v.seq _) aG (by rw[b]) ?_;intro L s;have m:=bE s h;refine av aG<|av aG<|aD<|Wr<|aJ aG ?_;exact⟨iG (Eq.symm ((Lf a).trans b)),m⟩
  rw[T_]at b;refine dJ (aap K v.o v.seq _) aF (by rw[b]) ?_;intro M t;have n:=bE t h;refine av aF<|av aF<|aD<|Wr<|aJ aF ?_;exact⟨iG (Eq.symm ((Lf a).trans b)),n⟩
 rw[T_]at a;refine dJ (Ib v _ k) aF (by rw[a]) ?_;intro N u;have p:=bE u g;refine av aF<|dB<|dB<|dB<|dB<|dB<|dB<|av aF<|av aF<|aD<|Wr<|aJ aF ?_;exact⟨iG (Eq.symm (by unfold jY; rw[a]; rfl)),p⟩
theorem Pb(K:Nat->Int)(v:EvM)(w:World)(i:gu v)(q:Kr K) :
 Calls Tryz.prog 92 #[.agg (aA 6 (rv .u64 K)),.agg (aA 14 (bM v))] w fun e w'=>e = .returned (.bool (dz K v))/\Below w.heap.size w w':=by
 refine Kent Tryz.func92 24 ?_;refine ay<|pR fun z Q y l F W => ?_;have m:=bE F.old (Below.refl w.heap.size w);have L:=gT y;have O:=l.lt;refine pR fun k R p c G X => ?_;have⟨r,h⟩:=fq G.old l m;have M:=iQ p m.size;have N:=cK p l.lt;have P:=c.lt;refine av aF<|aD<|Ws ?_;refine nu<|Qv (.agg (aA 14 (bM v))) (fun d b=>fD (c.cb b) 0) ?_;by_cases f:(bQ v)=true
 ·obtain⟨a,I,H⟩:=eU (iV f);have J:=Eb f;refine zm (fun _ _=>Ib v _ i) aG (by rw[f])<|aX aG<|aX (pt k)<|Qv (au v.o) (fun d b=>aM (c.cb b) 0)<|Qv (au a) (fun d b=>gD)<|Qv (pf z a) (fun d b=>jM 6 1)<|Qv (aC (K a)) (fun d b=>aM (r.cb b) a)<|aX (pf k 1)<|Qv (aC v.seq) (fun d b=>aM (c.cb b) 1)<|Qv (aC (v.seq-1)) (fun d b=>gD) ?_;by_cases n:(K a)=(v.seq-1)
  ·refine Qv aG (fun d b=>eO n)<|aX aG<|aX aG<|aX (pf k 2)<|Qv (.agg (aA 6 (rv .u64 v.deps))) (fun d b=>fD (c.cb b) 2 (fun j E=>mJ _ (by omega) E))<|Qv (.agg (aA 6 (rv .u64 K))) (fun d b=>fD (r.cb b) 0) ?_;by_cases g:(yh v.deps K)=true
   ·refine zm (fun _ _=>Va v.deps K _ i.deps q) aG (by rw[g])<|aX aG<|aX aG<|Qn ?_;intro S A;have s:=bE A h;refine sN<|Wr<|aJ aG ?_;have c:decide (v.seq=K (v.o-1).toNat+1)=true:=f_ (by rw[show(v.o-1).toNat=a by omega]; omega);exact⟨iG (Eq.symm (by unfold dz; rw[f,c,g]; try rfl)),s⟩
   rw[T_]at g;refine zm (fun _ _=>Va v.deps K _ i.deps q) aF (by rw[g])<|aX aF<|aX aF<|Qn ?_;intro T B;have t:=bE B h;refine sN<|Wr<|aJ aF ?_;have c:decide (v.seq=K (v.o-1).toNat+1)=true:=f_ (by rw[show(v.o-1).toNat=a by omega]; omega);exact⟨iG (Eq.symm (by unfold dz; rw[f,c,g]; try rfl)),t⟩
  refine Qv aF (fun d b=>fO n)<|aX aF<|aX aF<|aP<|aP<|aP<|aP<|aX aF<|aX aF<|Qn ?_;intro U C;have u:=bE C h;refine sN<|Wr<|aJ aF ?_;have c:decide (v.seq=K (v.o-1).toNat+1)=false:=g_ (by rw[show(v.o-1).toNat=a by omega]; omega);exact⟨iG (Eq.symm (by unfold dz; rw[f,c]; try rfl)),u⟩
 rw[T_]at f;refine zm (fun _ _=>Ib v _ i) aF (by rw[f])<|aX aF<|aP<|aP<|aP<|aP<|aP<|aP<|aP<|aP<|aP<|aX aF<|aX aF<|aP<|aP<|aP<|aP<|aX aF<|aX aF<|Qn ?_;intro V D;have x:=bE D h;refine sN<|Wr<|aJ aF ?_;exact⟨iG (Eq.symm (by unfold dz; rw[f]; try rfl)),x⟩
namespace Rt
def jL(m:dO)(v:EvM):Int:=if m.T.has v.node=false then 9 else if 140737488355328<m.R (m.idx v.node) (aL v)+v.aQ then 6 else 0
def Cu(m:dO)(k:Int)(r:Nat->Int):dO := { m with R:=aN m.R (m.idx k) r }
def uF(m:dO)(v:EvM):dO:=Cu m v.node (upd (m.R (m.idx v.node)) (aL v) (m.R (m.idx v.node) (aL v)+v.aQ))
def sI(m:dO)(v:EvM):(Nat->Int) × Int:=dn (m.R (m.idx v.node)) v.o v.dst v.aQ
def kK(m:dO)(v:EvM):Int:=if m.T.has v.node=false then 9 else if m.inn (v.dst-1).toNat=false then 10 else(sI m v).2
def Dl(m:dO)(v:EvM):dO:=Cu m v.node (sI m v).1
def Ie(m:dO)(v:EvM):dO := { m with inn:=aI m.inn (v.dst-1).toNat true }
def Cv(m:dO)(v:EvM):dO := { m with left:=aI m.left (aL v) true }
theorem En{R:Nat->Nat->Int}{j:Nat}{r:Nat->Int} : ∀ n x w b,Mp w b n x (aN (wS R) j (.agg (aA 54 (rv .i64 r))))->Mp w b n x (wS (aN R j r)):=fun n x w b h=>h.uQ fun i _=>⟨rfl,by unfold wS aN; split <;> rfl⟩
end Rt
theorem Gz:Fx.wu Tryz.prog 117:=⟨by kernel_rfl,by kernel_rfl,by kernel_rfl⟩
theorem Vd(m:dO)(lp B:Nat)(w:World)(h:lN w B lp m)(v:EvM)(Y:bQ v=true)(b:Nat)(D:b<6)(X:v.dst=(b:Int)+1)(i:Nat)(f:Nat)(l:aR w i 1 (fun _=>(pt lp)) 28)(k:aR w f 14 (bM v) 37) :
 Calls Tryz.prog 228 #[(pt i),(pt f)] w fun e w'=>e = .returned (.tuple #[])/\lN w' B lp (Ie m v)/\jV (FJ m lp) w w':=by
 have x:=h.c;have C:=h.t;have z:=h.p;have A:=h.r;have y:=h.g;have u:=h.a;have d:=h.ne;have lC:=h.c.lt;have lT:=h.t.lt;have lP:=h.p.lt;have lR:=h.r.lt;have lG:=h.g.lt;have lA:=h.a.lt;have ZX:=l.lt;have lge:=k.lt;have E:(v.dst-1).toNat=b:=by omega
 refine Kent Tryz.func228 9 ?_;refine jW [1,0,4,5,2,3,6,7] [4,0,4,0,0,0,0,3] [(7,0,[0]),(7,2,[2])] fun W j Z => ?_;have U:Stp w.heap.size w W:=Sb j;have⟨n,M,N,O,P,Q,R,S⟩:=ny j x C z A y u l k;have q:=(uH (FJ m lp) w).then U (.inr (uH (FJ m lp) w).size);refine aY (pf f 10)<|Rs (pt lp) (aM R.aH 0) ?_;refine aY (pt lp)<|aY (pt lp)<|Rs (au v.dst) (aM S.aH 10) ?_;refine Rp (au b) (fun _=>gD)<|Rp (pf lp b) (fun _=>jM 6 1)<|gQ<|jg n b aG fun V T o z1 => ?_;have G:aR V lp 29 (vG { m with inn:=aI m.inn b true }) 114:=T.to (UZ D _);have F:=gP o n.ty;have⟨H,I,J,K,L⟩:=qV F M N O P Q;have s:=q.then o (.inl (.inl rfl));refine Ln (Rn (⟨.tuple #[],iO Tryz.results228,?_⟩));unfold Ie; rw[E];exact⟨rfl,{ c:=G,t:=H,p:=I,r:=J,g:=K,a:=L,ne:=⟨d.mp,d.mr,d.mg,d.ma,d.pr,d.pg,d.pa,d.rg,d.ra,d.ga⟩,lB:=h.lB,pB:=h.pB,rB:=h.rB,gB:=h.gB,aB:=h.aB },s⟩
theorem QT(m:dO)(lp B:Nat)(w:World)(h:lN w B lp m)(v:EvM)(H:bQ v=true)(f:Nat)(d:Nat)(l:aR w f 1 (fun _=>(pt lp)) 28)(k:aR w d 14 (bM v) 37) :
 Calls Tryz.prog 229 #[(pt f),(pt d)] w fun e w'=>e = .returned (.tuple #[])/\lN w' B lp (Cv m v)/\jV (FJ m lp) w w':=by
 have y:=h.c;have D:=h.t;have A:=h.p;have C:=h.r;have z:=h.g;have x:=h.a;have b:=h.ne;have lC:=h.c.lt;have lT:=h.t.lt;have lP:=h.p.lt;have lR:=h.r.lt;have lG:=h.g.lt;have lA:=h.a.lt;have ZX:=l.lt;have lge:=k.lt;obtain⟨a,E,Z⟩ : ∃ a:Nat,a<6/\v.o=(a:Int)+1:=eU (iV H);have G:aL v=a:=by unfold aL; omega
 refine Kent Tryz.func229 9 ?_;refine jW [1,0,4,5,2,3,6,7] [4,0,4,0,0,0,0,3] [(7,0,[0]),(7,2,[2])] fun Y j aa => ?_;have W:Stp w.heap.size w Y:=Sb j;have⟨n,O,P,Q,R,S,T,U⟩:=ny j y D A C z x l k;have s:=(uH (FJ m lp) w).then W (.inr (uH (FJ m lp) w).size);refine aY (pt d)<|Rs (pt lp) (aM T.aH 0) ?_;refine aY (pt lp)<|aY (pf lp 6)<|Rs (au v.o) (aM U.aH 0) ?_;refine Rp (au a) (fun _=>gD)<|Rp (pf lp (a+6)) (fun _=>jM 6 1)<|gQ<|jg n (a+6) aG fun X V q z1 => ?_;have I:aR X lp 29 (vG { m with left:=aI m.left a true }) 114:=V.to (U0 (i:=a) E (by omega) _);have F:=gP q n.ty;have⟨J,K,L,M,N⟩:=qV F O P Q R S;have u:=s.then q (.inl (.inl rfl));refine Ln (Rn (⟨.tuple #[],iO Tryz.results229,?_⟩));unfold Cv; rw[G];exact⟨rfl,{ c:=I,t:=J,p:=K,r:=L,g:=M,a:=N,ne:=⟨b.mp,b.mr,b.mg,b.ma,b.pr,b.pg,b.pa,b.rg,b.ra,b.ga⟩,lB:=h.lB,pB:=h.pB,rB:=h.rB,gB:=h.gB,aB:=h.aB },u⟩
theorem QU(m:dO)(lp B:Nat)(w:World)(h:lN w B lp m)(v:EvM)(hv:bQ v=true)(P:m.T.has v.node=true)(r:Nat->Int)(k:Nat)(j:Nat)(f:Nat)(hr:aR w k 54 (rv .i64 (r)) 82)(s:aR w j 1 (fun _=>(pt lp)) 28)(o:aR w f 14 (bM v) 37) :
 Calls Tryz.prog 218 #[(pt k),(pt j),(pt f)] w fun e w'=>e = .returned (.tuple #[])/\lN w' B lp (Cu m v.node r)/\jV (FJ m lp) w w':=by
 have J:=h.c;have O:=h.t;have M:=h.p;have N:=h.r;have K:=h.g;have I:=h.a;have b:=h.ne;have lC:=h.c.lt;have lT:=h.t.lt;have lP:=h.p.lt;have lR:=h.r.lt;have lG:=h.g.lt;have lA:=h.a.lt;have lgr:=hr.lt;have ZX:=s.lt;have lge:=o.lt;obtain⟨u,q,i⟩:=gU P;have H:m.idx v.node=u:=mR h.t.inv.inj q i;refine Kent Tryz.func218 10 ?_;refine jW [4,0,1,2,3,5,6,7] [4,0,0,4,0,4,4,3] [(7,0,[0]),(7,3,[3]),(7,5,[5]),(7,6,[6])] fun qA l iE => ?_;have s1:Stp w.heap.size w qA:=Sb l;have⟨y,Z,m3,z,m5,m6,A,C,D⟩:=BL l J O M N K I hr s o;have F:=(uH (FJ m lp) w).then s1 (.inr (uH (FJ m lp) w).size);refine aY (pf f 9)<|Rs (pt lp) (aM C.aH 0) ?_;refine aY (pt lp)<|aY (pf lp 20)<|Rs (.map (some m.rb)) (aM y.aH 20) ?_;refine Rs (aC v.node) (aM D.aH 9) ?_;refine Rs (.agg (aA 54 (rv .i64 (r)))) (fD A.aH 0) ?_;refine gQ<|Fx.L.abk (by rfl) rfl rfl rfl rfl rfl z Tryz.underlying109 Tryz.underlying23 q i fun w1 Q E z1 => ?_;have d:=z.BN E;have S:=y.dX d;have U:=Z.dX d (b.mr);have V:=m3.dX d (b.pr);have W:=m5.dX d (Ne.symm b.rg);have X:=m6.dX d (Ne.symm b.ra);have m16:=A.dX d;have m17:=C.dX d;have m18:=D.dX d;have G:=F.then E (.inl (.inr (.inr (.inr (.inl rfl)))));have Y:Mp w1 m.rb m.T.n m.T.x (wS (aN m.R u (r))):=En _ _ _ _ Q;refine Ln (Rn (⟨.tuple #[],iO Tryz.results218,?_⟩));unfold Cu; rw[H];exact⟨rfl,{ c:=S,t:=U,p:=V,r:=Y,g:=W,a:=X,ne:=⟨b.mp,b.mr,b.mg,b.ma,b.pr,b.pg,b.pa,b.rg,b.ra,b.ga⟩,lB:=h.lB,pB:=h.pB,rB:=h.rB,gB:=h.gB,aB:=h.aB },G⟩
theorem Ve(m:dO)(lp B:Nat)(w:World)(h:lN w B lp m)(v:EvM)(hv:bQ v=true)(P:m.T.has v.node=true)(r:Nat->Int)(k:Nat)(j:Nat)(f:Nat)(hr:aR w k 54 (rv .i64 (r)) 82)(s:aR w j 1 (fun _=>(pt lp)) 28)(o:aR w f 14 (bM v) 37) :
 Calls Tryz.prog 227 #[(pt k),(pt j),(pt f)] w fun e w'=>e = .returned (.tuple #[])/\lN w' B lp (Cu m v.node r)/\jV (FJ m lp) w w':=by
 have J:=h.c;have O:=h.t;have M:=h.p;have N:=h.r;have K:=h.g;have I:=h.a;have b:=h.ne;have lC:=h.c.lt;have lT:=h.t.lt;have lP:=h.p.lt;have lR:=h.r.lt;have lG:=h.g.lt;have lA:=h.a.lt;have lgr:=hr.lt;have ZX:=s.lt;have lge:=o.lt;obtain⟨u,q,i⟩:=gU P;have H:m.idx v.node=u:=mR h.t.inv.inj q i;refine Kent Tryz.func227 10 ?_;refine jW [4,0,1,2,3,5,6,7] [4,0,0,4,0,4,4,3] [(7,0,[0]),(7,3,[3]),(7,5,[5]),(7,6,[6])] fun qA l iE => ?_;have s1:Stp w.heap.size w qA:=Sb l;have⟨y,Z,m3,z,m5,m6,A,C,D⟩:=BL l J O M N K I hr s o;have F:=(uH (FJ m lp) w).then s1 (.inr (uH (FJ m lp) w).size);refine aY (pf f 9)<|Rs (pt lp) (aM C.aH 0) ?_;refine aY (pt lp)<|aY (pf lp 20)<|Rs (.map (some m.rb)) (aM y.aH 20) ?_;refine Rs (aC v.node) (aM D.aH 9) ?_;refine Rs (.agg (aA 54 (rv .i64 (r)))) (fD A.aH 0) ?_;refine gQ<|Fx.L.abk (by rfl) rfl rfl rfl rfl rfl z Tryz.underlying109 Tryz.underlying23 q i fun w1 Q E z1 => ?_;have d:=z.BN E;have S:=y.dX d;have U:=Z.dX d (b.mr);have V:=m3.dX d (b.pr);have W:=m5.dX d (Ne.symm b.rg);have X:=m6.dX d (Ne.symm b.ra);have m16:=A.dX d;have m17:=C.dX d;have m18:=D.dX d;have G:=F.then E (.inl (.inr (.inr (.inr (.inl rfl)))));have Y:Mp w1 m.rb m.T.n m.T.x (wS (aN m.R u (r))):=En _ _ _ _ Q;refine Ln (Rn (⟨.tuple #[],iO Tryz.results227,?_⟩));unfold Cu; rw[H];exact⟨rfl,{ c:=S,t:=U,p:=V,r:=Y,g:=W,a:=X,ne:=⟨b.mp,b.mr,b.mg,b.ma,b.pr,b.pg,b.pa,b.rg,b.ra,b.ga⟩,lB:=h.lB,pB:=h.pB,rB:=h.rB,gB:=h.gB,aB:=h.aB },G⟩
namespace Rt
theorem Pf{v:EvM}(h:bQ v=true)(c:v.kind=5) : ∃ b:Nat,b<6/\v.dst=(b:Int)+1:=by
 unfold bQ at h;simp only[S_]at h;have a:=h.2;unfold dM at a;rw[b_ (by omega),b_ (by omega),b_ (by omega),b_ (by omega),d_ c]at a;unfold mD at a;simp only[S_]at a;exact eU a.2.1
end Rt
theorem adj(x:Nat->Int)(i j n:Int)(w:World)(hi:1<=i/\i<=6)(a:1<=j/\j<=6) :
 Calls Tryz.prog 226 #[.agg (aA 54 (rv .i64 x)),au i,au j,au n] w fun e w'=>e = .returned (.tuple #[.agg (aA 54 (rv .i64 (dn x i j n).1)),au (dn x i j n).2])/\Below w.heap.size w w' :=
 TW x i j n w (by omega) (by omega)
theorem adk(x:Nat->Int)(i n:Int)(w:World)(hi:1<=i/\i<=6) :
 Calls Tryz.prog 221 #[.agg (aA 54 (rv .i64 x)),au i,au n] w fun e w'=>e = .returned (.tuple #[.agg (aA 54 (rv .i64 (bD x i n).1)),au (bD x i n).2])/\Below w.heap.size w w' :=
 TS x i n w (by omega)
theorem adl(x:Nat->Int)(i n:Int)(w:World)(hi:1<=i/\i<=6) :
 Calls Tryz.prog 224 #[.agg (aA 54 (rv .i64 x)),au i,au n] w fun e w'=>e = .returned (.tuple #[.agg (aA 54 (rv .i64 (bH x i n).1)),au (bH x i n).2])/\Below w.heap.size w w' :=
 TV x i n w (by omega)
theorem Vf(m:dO)(lp B:Nat)(w:World)(h:lN w B lp m)(v:EvM)(N:bQ v=true)(hkd:v.kind=2)(hRb : ∀ i,i<m.T.n -> ∀ p,p<54->0<=m.R i p/\m.R i p<=1125899906842624) :
 Calls Tryz.prog 208 #[(pt lp),.agg (aA 14 (bM v))] w fun e w'=>Rx w B lp m (uF m v) (jL m v) e w':=by
 have hC:=h.c;have hT:=h.t;have hP:=h.p;have hR:=h.r;have hG:=h.g;have hA:=h.a;have hN:=h.ne;have lC:=h.c.lt;have lT:=h.t.lt;have lP:=h.p.lt;have lR:=h.r.lt;have lG:=h.g.lt;have lA:=h.a.lt;obtain⟨a,ha,ho⟩ : ∃ a:Nat,a<6/\v.o=(a:Int)+1:=eU (iV N);have M:aL v=a:=by unfold aL; omega
 refine Kent Tryz.func208 39 ?_;refine ay<|xV (pt lp) fun l w1 aa O s1 z1 => ?_;have⟨m2,m4,m5,m6,m7,W⟩:=rT s1.old hC hP hR hG hA (Below.refl w.heap.size w);have sM:=gT aa;have⟨nG,yD,xC,Bq,zL⟩:=zS aa hC.lt hP.lt hR.lt hG.lt hA.lt;have ug:=O.lt;refine pR fun f w2 ab m8 s2 z2 => ?_;have⟨m9,m11,m12,m13,m14,m15,b2⟩:=jR s2.old m2 m4 m5 m6 m7 O W;have ru:=iQ ab W.size;have⟨Lg,Cw,FK,Am,FL,BS⟩:=IZ ab m2.lt m4.lt m5.lt m6.lt m7.lt O.lt;have zK:=m8.lt;refine av (.nilFunc)<|av (au 0)<|aD<|Ws ?_;refine jW [4,0,1,2,3,5,6,7,8,9,10,11,12] [1,0,0,1,0,1,1,0,0,0,2,3,0] [(11,0,[0]),(11,3,[3]),(11,5,[5]),(11,6,[6]),(11,10,[10]),(12,10,[10]),(12,11,[11])] fun qA dP iE => ?_;have⟨E,m18,F,m20,m21,s,u,y⟩:=ny dP m9 m11 m12 m13 m14 m15 m8 b2;refine aY (pf f 9)<|Rd (v:=(pt lp)) (by rfl) (by rfl) (tZ _) (fun G j=>bC (x:=fun _=>(pt lp)) rfl rfl (by kernel_rfl) (s.aH.below j (by have:=s.lt; omega)) (i:=0) (by omega) (by omega) rfl) ?_;refine aY (pt lp)<|aY (pf lp 20)<|Rd (v := .map (some m.rb)) (by rfl) (by rfl) (tZ _) (fun G j=>bC (x:=vG m) rfl rfl (by kernel_rfl) (E.aH.below j (by have:=E.lt; omega)) (i:=20) (by omega) (by omega) rfl) ?_;refine Rd (v:=aC v.node) (by rfl) (by rfl) (tZ _) (fun G j=>bC (x:=bM v) rfl rfl (by kernel_rfl) (u.aH.below j (by have:=u.lt; omega)) (i:=9) (by omega) (by omega) rfl) ?_
 rcases Fx.rW m.T.x m.T.n v.node with ⟨b,D,J⟩|jF
 ·refine Rd (v := .tuple #[.agg (aA 54 (rv .i64 (m.R b))),.bool true]) (by rfl) (by rfl) (tZ _) (fun G j=>Fx.EM (z := .agg (aA 54 (rv .i64 (fun _=>0)))) rfl rfl rfl (F.up j) Tryz.underlying109 Tryz.underlying23 (by kernel_rfl) D J rfl) ?_;refine aY (.tuple #[.agg (aA 54 (rv .i64 (m.R b))),.bool true])<|aY (.agg (aA 54 (rv .i64 (m.R b))))<|aY aG<|xM<|rR 54 (rv .i64 (fun _=>0)) fun d w3 ac P s4 z3 => ?_;have⟨mI,m32,X⟩:=iy s4.old s u y;have C9:=iQ ac y.size;have⟨Nz,NA,Vg,Vh,Vi,adn,ado⟩:=MO ac E.lt m18.lt F.lt m20.lt m21.lt s.lt u.lt;have JR:=P.lt;refine Ln ⟨s4.old,?_⟩;refine gQ<|eP P 0 fun w4 qB s5 z4 => ?_;have nV:aR w4 d 54 (rv .i64 (m.R b)) 82:=aS qB;have gV:=gP s5 P.ty;have⟨nI,nJ⟩:=BM gV mI m32;have b5:=s5.below X X.size (by omega);refine Ln<|aY aG<|bS<|Ws<|ay<|av aG<|av aF<|aD<|aK<|Wk<|sN<|Ws<|Ws ?_;have K:m.idx v.node=b:=mR h.t.inv.inj D J;have q:m.T.has v.node=true:=jN D J;have q1:=hRb b D a (by omega);have q2:=lH N (.inl hkd);refine jW [0,3,6,9,1,2,4,5,7,8,10,11] [0,4,0,0,0,4,0,4,0,0,0,3] [(11,1,[1]),(11,5,[5]),(11,7,[7])] fun Da gG nU => ?_;have⟨uh,Q,S,Y⟩:=kV gG nI nJ nV b5;refine aY (pt f)<|aY (pt d)<|aY (pf f 11)<|aY (pt d)<|Rs (au v.o) (aM Q.aH 0) ?_;refine Rp (au a) (fun _=>gD)<|Rp (pf d a) (fun _=>jM 6 1)<|Rs (au ((m.R b) a)) (aM S.aH a) ?_;refine Rs (au v.aQ) (aM Q.aH 11) ?_;refine Rp (au (((m.R b) a)+v.aQ)) (fun _=>fC)<|Rp (pf d a) (fun _=>jM 6 1)<|gQ<|jg S a (au (((m.R b) a)+v.aQ)) fun w5 wC s7 z5 => ?_;have U:aR w5 d 54 (rv .i64 (upd (m.R b) a (((m.R b) a)+v.aQ))) 82:=wC.to (Fx.yJ _ _ _ _);have ku:=gP s7 S.ty;have⟨qZ,V⟩:=BM ku uh Q;have H:=s7.below Y Y.size (by omega);refine Ln<|bS<|ay<|av (pt f)<|Lv (au v.o) (aM V.aH 0)<|Lv (au a) gD<|av (pt d)<|Lv (pf d a) (jM 6 1)<|Lv (au ((upd (m.R b) a (((m.R b) a)+v.aQ)) a)) (aM U.aH a) ?_;by_cases A:140737488355328<((upd (m.R b) a (((m.R b) a)+v.aQ)) a)
  ·refine Lv aG (ng A)<|aD<|aO<|ay<|av (.nilFunc)<|av (au 6)<|aD<|Wr<|sR<|aJ (.tuple #[.nilFunc,au 6]) ?_;have k:jL m v=6:=(by unfold jL; rw[b_ (by rw[q]; decide)]; exact d_ (by rw[K,M]; simpa [upd] using A));exact⟨⟨.nilFunc,0,#[],by rw[k],rfl,fun I=>M_ (k.symm.trans I) (by first|decide|omega|assumption)⟩,H⟩
  refine Lv aF (ni A)<|aD<|aK<|Wk<|sN<|ay<|Lv (.func (.func 218) #[] #[(pt d),(pt l),(pt f)]) (Fx.mX (us := []) (vs := [(pt d),(pt l),(pt f)]) rfl rfl rfl)<|av (.func (.func 218) #[] #[(pt d),(pt l),(pt f)])<|av (au 0)<|aD<|Wr<|aJ (.tuple #[.func (.func 218) #[] #[(pt d),(pt l),(pt f)],au 0]) ?_;have em:uF m v=Cu m v.node (upd (m.R b) a (m.R b a+v.aQ)):=by unfold uF; rw[K,M]
  rw[em];have k:jL m v=0:=by unfold jL; rw[b_ (by rw[q]; decide)]; exact b_ (by rw[K,M]; simpa [upd] using A)
  exact⟨⟨_,218,#[(pt d),(pt l),(pt f)],by rw[k],rfl,fun _=>⟨rfl,⟨_,_,Tryz.func218,rfl,rfl⟩,fun w2 C=>(QU m lp B w2 ((h.up H).up C) v N q _ _ _ _ (U.cO (Sb C) (u_ U.lt)) (qZ.cO (Sb C) (u_ qZ.lt)) (V.cO (Sb C) (u_ V.lt))).mono fun _ _ L=>⟨L.1,L.2.1,L.2.2.mono fun _ q => .inl q⟩⟩⟩,H⟩
 refine Rd (v := .tuple #[.agg (aA 54 (rv .i64 (fun _=>0))),.bool false]) (by rfl) (by rfl) (tZ _) (fun G j=>Fx.EL (z := .agg (aA 54 (rv .i64 (fun _=>0)))) rfl rfl rfl (F.up j) Tryz.underlying109 Tryz.underlying23 (by kernel_rfl) jF) ?_;refine aY (.tuple #[.agg (aA 54 (rv .i64 (fun _=>0))),.bool false])<|aY (.agg (aA 54 (rv .i64 (fun _=>0))))<|aY aF<|xM<|rR 54 (rv .i64 (fun _=>0)) fun g4 w6 ad oD s8 z6 => ?_;have Z:=bE s8.old y;have Rw:=iQ ad y.size;have⟨aoh,aoi,adp,adq,adr,ads,adt⟩:=MO ad E.lt m18.lt F.lt m20.lt m21.lt s.lt u.lt;have QF:=oD.lt;refine Ln ⟨s8.old,?_⟩;refine gQ<|eP oD 0 fun w7 uT s9 z7 => ?_;have vQ:aR w7 g4 54 (rv .i64 (fun _=>0)) 82:=aS uT;have b9:=s9.below Z Z.size (by omega);refine Ln<|aY aF<|bS<|Ws<|ay<|av aF<|av aG<|aD<|aO<|ay<|av (.nilFunc)<|av (au 9)<|aD<|Wr<|sR<|aJ (.tuple #[.nilFunc,au 9]) ?_;have k:jL m v=9:=by unfold jL; exact d_ (yN jF)
 exact⟨⟨.nilFunc,0,#[],by rw[k],rfl,fun I=>M_ (k.symm.trans I) (by first|decide|omega|assumption)⟩,b9⟩
theorem Yy(m:dO)(lp B:Nat)(w:World)(h:lN w B lp m)(v:EvM)(Q:bQ v=true)(hkd:v.kind=5) :
 Calls Tryz.prog 211 #[(pt lp),.agg (aA 14 (bM v))] w fun e w'=>Rx w B lp m (Dl m v) (kK m v) e w':=by
 have hC:=h.c;have hT:=h.t;have hP:=h.p;have hR:=h.r;have hG:=h.g;have hA:=h.a;have hN:=h.ne;have lC:=h.c.lt;have lT:=h.t.lt;have lP:=h.p.lt;have lR:=h.r.lt;have lG:=h.g.lt;have lA:=h.a.lt;obtain⟨a,ha,ho⟩ : ∃ a:Nat,a<6/\v.o=(a:Int)+1:=eU (iV Q);have hra:aL v=a:=by unfold aL; omega
 obtain⟨b,hb,hd⟩:=Pf Q hkd;have N:(v.dst-1).toNat=b:=by omega
 refine Kent Tryz.func211 47 ?_;refine ay<|xV (pt lp) fun y w1 aa S s1 z1 => ?_;have⟨m2,m4,m5,m6,m7,V⟩:=rT s1.old hC hP hR hG hA (Below.refl w.heap.size w);have sM:=gT aa;have⟨nG,yD,xC,Bq,zL⟩:=zS aa hC.lt hP.lt hR.lt hG.lt hA.lt;have ug:=S.lt;refine pR fun f w2 ab m8 s2 z2 => ?_;have⟨m9,m11,m12,m13,m14,m15,b2⟩:=jR s2.old m2 m4 m5 m6 m7 S V;have ru:=iQ ab V.size;have⟨Lg,Cw,FK,Am,FL,BS⟩:=IZ ab m2.lt m4.lt m5.lt m6.lt m7.lt S.lt;have zK:=m8.lt;refine av (.nilFunc)<|av (au 0)<|aD<|Ws ?_;refine jW [4,0,1,2,3,5,6,7,8,9,10,11,12] [1,0,0,1,0,1,1,0,0,0,2,3,0] [(11,0,[0]),(11,3,[3]),(11,5,[5]),(11,6,[6]),(11,10,[10]),(12,10,[10]),(12,11,[11])] fun qA dP iE => ?_;have⟨A,m18,I,m20,m21,C,D,F⟩:=ny dP m9 m11 m12 m13 m14 m15 m8 b2;refine aY (pf f 9)<|Rd (v:=(pt lp)) (by rfl) (by rfl) (tZ _) (fun J k=>bC (x:=fun _=>(pt lp)) rfl rfl (by kernel_rfl) (C.aH.below k (by have:=C.lt; omega)) (i:=0) (by omega) (by omega) rfl) ?_;refine aY (pt lp)<|aY (pf lp 20)<|Rd (v := .map (some m.rb)) (by rfl) (by rfl) (tZ _) (fun J k=>bC (x:=vG m) rfl rfl (by kernel_rfl) (A.aH.below k (by have:=A.lt; omega)) (i:=20) (by omega) (by omega) rfl) ?_;refine Rd (v:=aC v.node) (by rfl) (by rfl) (tZ _) (fun J k=>bC (x:=bM v) rfl rfl (by kernel_rfl) (D.aH.below k (by have:=D.lt; omega)) (i:=9) (by omega) (by omega) rfl) ?_
 rcases Fx.rW m.T.x m.T.n v.node with ⟨d,P,M⟩|jF
 ·refine Rd (v := .tuple #[.agg (aA 54 (rv .i64 (m.R d))),.bool true]) (by rfl) (by rfl) (tZ _) (fun J k=>Fx.EM (z := .agg (aA 54 (rv .i64 (fun _=>0)))) rfl rfl rfl (I.up k) Tryz.underlying109 Tryz.underlying23 (by kernel_rfl) P M rfl) ?_;refine aY (.tuple #[.agg (aA 54 (rv .i64 (m.R d))),.bool true])<|aY (.agg (aA 54 (rv .i64 (m.R d))))<|aY aG<|xM<|rR 54 (rv .i64 (fun _=>0)) fun l w3 ac U s4 z3 => ?_;have⟨mQ,mI,m32,W⟩:=kV s4.old A C D F;have C9:=iQ ac F.size;have⟨Nz,NA,Vg,Vh,Vi,adn,ado⟩:=MO ac A.lt m18.lt I.lt m20.lt m21.lt C.lt D.lt;have JR:=U.lt;refine Ln ⟨s4.old,?_⟩;refine gQ<|eP U 0 fun w4 qB s5 z4 => ?_;have nV:aR w4 l 54 (rv .i64 (m.R d)) 82:=aS qB;have gV:=gP s5 U.ty;have⟨qC,nI,nJ⟩:=DF gV mQ mI m32;have b5:=s5.below W W.size (by omega);refine Ln<|aY aG<|bS<|Ws<|Wb<|ay<|av aG<|av aF<|av aF<|aD<|aK<|Ws ?_;have ex:m.idx v.node=d:=mR h.t.inv.inj P M;have s:m.T.has v.node=true:=jN P M;refine jW [1,0,4,5,2,3,6,7,8,9] [4,0,4,0,0,0,0,4,0,0] [] fun Da gG nU => ?_;have⟨nK,uh,E,xq,X⟩:=qU gG qC nI nJ nV b5;refine aY (pf f 10)<|Rs (pt lp) (aM uh.aH 0) ?_;refine aY (pt lp)<|aY (pt lp)<|Rs (au v.dst) (aM E.aH 10) ?_;refine Rp (au b) (fun _=>gD)<|Rp (pf lp b) (fun _=>jM 6 1) ?_;by_cases q:(m.inn b)=true
  ·refine Rs aG (aM nK.aH b ((Ct (by omega)).trans (L_ Value.bool q))) ?_;refine aY aF<|aY aF<|bS<|aK<|Wk<|bR<|sN<|ay<|Lv (.agg (aA 54 (rv .i64 (m.R d)))) (fD xq.aH 0)<|av (pt f)<|Lv (au v.o) (aM E.aH 0)<|av (pf f 10)<|Lv (au v.dst) (aM E.aH 10)<|av (pf f 11)<|Lv (au v.aQ) (aM E.aH 11)<|dJ (adj (m.R d) v.o v.dst v.aQ _ (by omega) (by omega)) _ rfl ?_;intro w5 hb1;have⟨tN,xZ,qZ,Y⟩:=kV hb1 uh E xq X;refine av (.tuple #[.agg (aA 54 (rv .i64 ((dn (m.R d) v.o v.dst v.aQ).1))),au ((dn (m.R d) v.o v.dst v.aQ).2)])<|av (.agg (aA 54 (rv .i64 ((dn (m.R d) v.o v.dst v.aQ).1))))<|av (au ((dn (m.R d) v.o v.dst v.aQ).2))<|eP qZ 0 fun w6 vN s8 z5 => ?_;have oD:aR w6 l 54 (rv .i64 ((dn (m.R d) v.o v.dst v.aQ).1)) 82:=aS vN;have ku:=gP s8 qZ.ty;have⟨sV,vP⟩:=BM ku tN xZ;have K:=s8.below Y Y.size (by omega);refine av (au ((dn (m.R d) v.o v.dst v.aQ).2))<|aD<|Ws<|ay<|av (au ((dn (m.R d) v.o v.dst v.aQ).2)) ?_;by_cases L:((dn (m.R d) v.o v.dst v.aQ).2)=0
   ·refine Lv aF (jQ L)<|aD<|aK<|Wk<|sN<|ay<|Lv (.func (.func 227) #[] #[(pt l),(pt y),(pt f)]) (Fx.mX (us := []) (vs := [(pt l),(pt y),(pt f)]) rfl rfl rfl)<|av (.func (.func 227) #[] #[(pt l),(pt y),(pt f)])<|av (au 0)<|aD<|Wr<|aJ (.tuple #[.func (.func 227) #[] #[(pt l),(pt y),(pt f)],au 0]) ?_;have G:sI m v=dn (m.R d) v.o v.dst v.aQ:=(by unfold sI; rw[ex]);show Rx w B lp m (Cu m v.node (sI m v).1) _ _ _;rw[G];have j:kK m v=0:=(by unfold kK; rw[b_ (by rw[s]; decide),b_ (by rw[N,q]; decide),G]; exact L);exact⟨⟨_,227,#[(pt l),(pt y),(pt f)],by rw[j],rfl,fun _=>⟨rfl,⟨_,_,Tryz.func227,rfl,rfl⟩,fun w2 H=>(Ve m lp B w2 ((h.up K).up H) v Q s _ _ _ _ (oD.cO (Sb H) (u_ oD.lt)) (sV.cO (Sb H) (u_ sV.lt)) (vP.cO (Sb H) (u_ vP.lt))).mono fun _ _ O=>⟨O.1,O.2.1,O.2.2.mono fun _ s => .inl s⟩⟩⟩,K⟩
   refine Lv aG (nk L)<|aD<|aO<|ay<|av (au ((dn (m.R d) v.o v.dst v.aQ).2))<|av (.nilFunc)<|av (au ((dn (m.R d) v.o v.dst v.aQ).2))<|aD<|Wr<|sR<|aJ (.tuple #[.nilFunc,au ((dn (m.R d) v.o v.dst v.aQ).2)]) ?_;have G:sI m v=dn (m.R d) v.o v.dst v.aQ:=(by unfold sI; rw[ex]);have j:kK m v=(dn (m.R d) v.o v.dst v.aQ).2:=(by unfold kK; rw[b_ (by rw[s]; decide),b_ (by rw[N,q]; decide),G]);exact⟨⟨.nilFunc,0,#[],by rw[j],rfl,fun u=>M_ (j.symm.trans u) (by first|decide|omega|assumption)⟩,K⟩
  rw[T_]at q;refine Rs aF (aM nK.aH b ((Ct (by omega)).trans (L_ Value.bool q))) ?_;refine aY aG<|aY aG<|bS<|aO<|ay<|av (.nilFunc)<|av (au 10)<|aD<|Wr<|bL<|sR<|aJ (.tuple #[.nilFunc,au 10]) ?_;have j:kK m v=10:=by unfold kK; rw[b_ (by rw[s]; decide)]; exact d_ (by rw[N]; exact q)
  exact⟨⟨.nilFunc,0,#[],by rw[j],rfl,fun u=>M_ (j.symm.trans u) (by first|decide|omega|assumption)⟩,X⟩
 refine Rd (v := .tuple #[.agg (aA 54 (rv .i64 (fun _=>0))),.bool false]) (by rfl) (by rfl) (tZ _) (fun J k=>Fx.EL (z := .agg (aA 54 (rv .i64 (fun _=>0)))) rfl rfl rfl (I.up k) Tryz.underlying109 Tryz.underlying23 (by kernel_rfl) jF) ?_;refine aY (.tuple #[.agg (aA 54 (rv .i64 (fun _=>0))),.bool false])<|aY (.agg (aA 54 (rv .i64 (fun _=>0))))<|aY aF<|xM<|rR 54 (rv .i64 (fun _=>0)) fun g4 w7 ad uT s9 z6 => ?_;have Z:=bE s9.old F;have Rw:=iQ ad F.size;have⟨adu,aoj,adv,aok,adw,adx,ady⟩:=MO ad A.lt m18.lt I.lt m20.lt m21.lt C.lt D.lt;have QF:=uT.lt;refine Ln ⟨s9.old,?_⟩;refine gQ<|eP uT 0 fun w8 wE s10 z7 => ?_;have wF:aR w8 g4 54 (rv .i64 (fun _=>0)) 82:=aS wE;have b10:=s10.below Z Z.size (by omega);refine Ln<|aY aF<|bS<|Ws<|Wb<|ay<|av aF<|av aG<|av aG<|aD<|aO<|ay<|av (.nilFunc)<|av (au 9)<|aD<|Wr<|bL<|sR<|aJ (.tuple #[.nilFunc,au 9]) ?_;have j:kK m v=9:=by unfold kK; exact d_ (yN jF)
 exact⟨⟨.nilFunc,0,#[],by rw[j],rfl,fun u=>M_ (j.symm.trans u) (by first|decide|omega|assumption)⟩,b10⟩
theorem Yz(m:dO)(lp B:Nat)(w:World)(h:lN w B lp m)(v:EvM)(I:bQ v=true)(b:Nat)(F:b<6)(G:v.dst=(b:Int)+1) :
 Calls Tryz.prog 212 #[(pt lp),.agg (aA 14 (bM v))] w fun e w'=>Rx w B lp m (Ie m v) (0) e w':=by
 have x:=h.c;have R:=h.t;have z:=h.p;have A:=h.r;have y:=h.g;have u:=h.a;have Q:=h.ne;have T:=h.c.lt;have X:=h.t.lt;have V:=h.p.lt;have W:=h.r.lt;have U:=h.g.lt;have S:=h.a.lt;refine Kent Tryz.func212 7 ?_;refine ay<|xV (pt lp) fun d w1 q k O z1 => ?_;have⟨J,K,L,M,N,n⟩:=rT O.old x z A y u (Below.refl w.heap.size w);have Y:=gT q;have⟨aa,ab,ac,ad,ae⟩:=zS q x.lt z.lt A.lt y.lt u.lt;have al:=k.lt;refine pR fun f D s l P z2 => ?_;have⟨C,o⟩:=fq P.old k n;have Z:=iQ s n.size;have⟨ak,af,ag,ah,ai,aj⟩:=IZ s J.lt K.lt L.lt M.lt N.lt k.lt;have am:=l.lt;refine av (.nilFunc)<|av (au 0)<|aD<|ay<|Lv (.func (.func 228) #[] #[(pt d),(pt f)]) (Fx.mX (us := []) (vs := [(pt d),(pt f)]) rfl rfl rfl)<|av (.func (.func 228) #[] #[(pt d),(pt f)])<|av (au 0)<|aD<|Wr<|aJ (.tuple #[.func (.func 228) #[] #[(pt d),(pt f)],au 0]) ?_;have E:(0:Int)=0:=rfl;exact⟨⟨_,228,#[(pt d),(pt f)],by rw[E],rfl,fun _=>⟨rfl,⟨_,_,Tryz.func228,rfl,rfl⟩,fun D i=>(Vd m lp B D ((h.up o).up i) v I b F G _ _ (C.cO (Sb i) (u_ C.lt)) (l.cO (Sb i) (u_ l.lt))).mono fun _ _ j=>⟨j.1,j.2.1,j.2.2.mono fun _ H => .inl H⟩⟩⟩,o⟩
theorem Vj(m:dO)(lp B:Nat)(w:World)(h:lN w B lp m)(v:EvM)(F:bQ v=true) :
 Calls Tryz.prog 213 #[(pt lp),.agg (aA 14 (bM v))] w fun e w'=>Rx w B lp m (Cv m v) (0) e w':=by
 have u:=h.c;have O:=h.t;have y:=h.p;have z:=h.r;have x:=h.g;have s:=h.a;have N:=h.ne;have Q:=h.c.lt;have U:=h.t.lt;have S:=h.p.lt;have T:=h.r.lt;have R:=h.g.lt;have P:=h.a.lt;refine Kent Tryz.func213 7 ?_;refine ay<|xV (pt lp) fun b w1 o j L z1 => ?_;have⟨G,H,I,J,K,l⟩:=rT L.old u y z x s (Below.refl w.heap.size w);have V:=gT o;have⟨X,Y,Z,aa,ab⟩:=zS o u.lt y.lt z.lt x.lt s.lt;have ai:=j.lt;refine pR fun d C q k M z2 => ?_;have⟨A,n⟩:=fq M.old j l;have W:=iQ q l.size;have⟨ah,ac,ad,ae,af,ag⟩:=IZ q G.lt H.lt I.lt J.lt K.lt j.lt;have aj:=k.lt;refine av (.nilFunc)<|av (au 0)<|aD<|ay<|Lv (.func (.func 229) #[] #[(pt b),(pt d)]) (Fx.mX (us := []) (vs := [(pt b),(pt d)]) rfl rfl rfl)<|av (.func (.func 229) #[] #[(pt b),(pt d)])<|av (au 0)<|aD<|Wr<|aJ (.tuple #[.func (.func 229) #[] #[(pt b),(pt d)],au 0]) ?_;have D:(0:Int)=0:=rfl;exact⟨⟨_,229,#[(pt b),(pt d)],by rw[D],rfl,fun _=>⟨rfl,⟨_,_,Tryz.func229,rfl,rfl⟩,fun C f=>(QT m lp B C ((h.up n).up f) v F _ _ (A.cO (Sb f) (u_ A.lt)) (k.cO (Sb f) (u_ k.lt))).mono fun _ _ i=>⟨i.1,i.2.1,i.2.2.mono fun _ E => .inl E⟩⟩⟩,n⟩
section
open Rt
theorem aol(o q:Nat)(w:World)(a:1<=o/\o<=6)(c:1<=q/\q<1099511627776) :
 Calls Tryz.prog 214 #[au (o:Int),aC (q:Int)] w fun e w'=>e = .returned (aC (1099511627776*(o:Int)+(q:Int)))/\w'=w:=by
 refine Kent Tryz.func214 24 ?_;refine ay<|av (aC 0)<|aD<|Ws<|ay<|av (au o)<|Lv aF GR<|av aF<|av (au o)<|Lv aF xU<|av aF<|av aF<|av (aC q)<|Lv aF GR<|av aF<|av aF<|av (aC q)<|Lv aF GU<|av aF<|aD<|aK<|Wk<|sN<|ay<|av (au o)<|Lv (aC o) (dw rfl rfl (by kernel_rfl) Tryz.underlying23 (jP (by omega) rfl))<|Lv (aC (1099511627776*(o:Int))) (Fx.Ka (b:=40) rfl rfl rfl (by decide) (jP (by omega) (by omega)))<|av (aC q)<|Lv (aC (1099511627776*(o:Int)+(q:Int))) (Fx.abY rfl rfl rfl (by omega) (by omega))<|av (aC (1099511627776*(o:Int)+(q:Int)))<|aD<|Wr<|aJ (aC (1099511627776*(o:Int)+(q:Int))) ?_;exact⟨rfl,rfl⟩
end
end Go.Proofs.YtcbedgfikejkoaaGreatDoor
namespace Go.Proofs.YtcbedgfikejkoaaGreatDoor
open Go.RowKit Go
namespace Rt
theorem Cx : ∀(n m:Nat) (f:Nat->Nat),(∀ i,i<m->f i<n)->(∀ i j,i<m->j<m->f i=f j->i=j)->m<=n
 | 0,m,f,h1,_=>by
   rcases Nat.eq_zero_or_pos m with h|h
   ·omega
   ·have:=h1 0 h; omega
 | n+1,m,f,h1,h2=>by
   rcases Nat.eq_zero_or_pos m with h|h
   ·omega
   by_cases d : ∃ a,a<m/\f a=n
   ·obtain⟨a,b,e⟩:=d;have:=Cx n (m-1) (fun j=>f (if j=a then m-1 else j)) (fun j o=>by
     have g:=h1 (if j=a then m-1 else j) (by split <;> omega)
     have k:f (if j=a then m-1 else j)≠n:=fun c=>by
      have:=h2 _ a (by split <;> omega) b (c.trans e.symm)
      split at this <;> omega
     show f _<n;omega) (fun i j l p c=>by
     have:=h2 _ _ (by split <;> omega) (by split <;> omega) c
     split at this <;> split at this <;> omega)
    omega
   ·have:=Cx n m f (fun i b=>by
     have:=h1 i b;have:f i≠n:=fun e=>d ⟨i,b,e⟩;omega) h2
    omega
section
variable {T U:dN} {id pa k:Int} {i:Nat}
theorem dN.Eo(h:T.err id pa=0):T.add id pa=T.put id pa:=d_ h
theorem dN.adz(h : ¬ T.err id pa=0):T.add id pa=T:=b_ h
theorem dN.zN(hi:i<T.n):T.has (T.x i)=true:=jN hi rfl
theorem dN.Lh(h:T.ok)(hi:i<T.n):T.par (T.x i)=T.p i:=AQ h.inj hi rfl
theorem dN.step(h:T.ok)(a:T.has k=true):T.path k=k::T.path (T.par k):=by
 have b:jE T.x T.p T.n 3 (T.par k):=h.stop k a;show(if dS T.x T.n k=true then k::jG T.x T.p T.n 3 (T.par k)else [])=_;rw[d_ (show dS T.x T.n k=true from a),<- (I5 b (show 3<=4 by omega)).1]; rfl
theorem dN.adA(h:T.ok)(hi:i<T.n):T.path (T.x i)=T.x i::T.path (T.p i):=by rw[dN.step h (dN.zN hi),dN.Lh h hi]
theorem dN.yX:(T.path k).length<=4:=yO
theorem dN.adB(h:T.ok):T.path 0 = []:=BF.afK h 4
theorem uU.zero(T:dN):uU dN.zero T:=⟨fun _ h=>(nomatch h),fun _ h=>(nomatch h)⟩
theorem uU.path(b:T.ok)(a:U.ok)(h:uU U T) : ∀(d:Nat) (k:Int),(k=0\/U.has k=true)->jG U.x U.p U.n d k=jG T.x T.p T.n d k
 | 0,_,_=>rfl
 | d+1,k,hk=>by
   rcases hk with rfl|hk
   ·rw[kW (BF.Xx a),kW (BF.Xx b)]
   ·unfold jG;have c:dS U.x U.n k=true:=hk;have e:dS T.x T.n k=true:=h.has k hk;have f:iH U.x U.p U.n k=iH T.x T.p T.n k:=h.par k hk;rw[d_ c,d_ e,<- f,uU.path b a h d];exact BF.up a hk
theorem uU.lt(s:U.ok)(h:uU U T)(hi:i<T.n)(m:U.has (T.x i)=false):U.n<T.n:=by
 have p : ∀ j,∃ q,j<U.n->q<T.n/\T.x q=U.x j:=fun j=>by
  by_cases g:j<U.n
  ·obtain⟨q,c,d⟩:=gU (h.has _ (dN.zN g));exact⟨q,fun _=>⟨c,d⟩⟩
  ·exact⟨0,fun h=>M_ h g⟩
 obtain⟨f,k⟩:=Classical.axiomOfChoice p;have:=Cx T.n (U.n+1) (fun j=>if j=U.n then i else f j) (fun j g=>by
  show(if j=U.n then i else f j)<T.n;split
  ·exact hi
  ·exact(k j (by omega)).1) (fun a b t u e=>by
  have o : ∀ j,j<U.n->f j≠i:=fun j g e=>by
   have c:=(k j g).2;rw[e]at c;rw[c,dN.zN g]at m; cases m
  have e:(if a=U.n then i else f a)=(if b=U.n then i else f b):=e;by_cases c:a=U.n
  ·by_cases d:b=U.n
   ·omega
   ·rw[d_ c,b_ d]at e; exact M_ e.symm (o b (by omega))
  ·by_cases d:b=U.n
   ·rw[b_ c,d_ d]at e; exact M_ e (o a (by omega))
   ·rw[b_ c,b_ d]at e;have l:=(k a (by omega)).2;have r:=(k b (by omega)).2;rw[e]at l;exact s.inj a b (by omega) (by omega) (l.symm.trans r))
 omega
theorem uU.add(d:T.ok)(g:U.ok)(h:uU U T)(hi:i<T.n)(j:T.p i=0\/U.has (T.p i)=true) :
 uU (U.add (T.x i) (T.p i)) T/\(U.add (T.x i) (T.p i)).has (T.x i)=true /\ ∀ k,U.has k=true->(U.add (T.x i) (T.p i)).has k=true:=by
 cases hh:U.has (T.x i)with
 | true =>
   have e:U.add (T.x i) (T.p i)=U:=by
    refine dN.adz fun m => ?_;have:=(EO m).2.1;rw[show dS U.x U.n (T.x i)=U.has (T.x i)from rfl,hh]at this; cases this
   rw[e]; exact⟨h,hh,fun _ h=>h⟩
 | false =>
   have s:=(d.pos i hi).1;have q:=uU.lt g h hi hh;have r:=d.small;have l:U.err (T.x i) (T.p i)=0:=by
    unfold dN.err qW;rw[b_ (by omega),b_ (by rw[show dS U.x U.n (T.x i)=U.has (T.x i)from rfl,hh]; decide),b_,b_]
    ·rintro (b|b)
     ·omega
     ·have f:=uU.path d g h 4 (T.p i) j;rw[f]at b;have c:=dN.adA d hi;have o:(T.path (T.x i)).length<=4:=dN.yX;rw[c,List.length_cons]at o;have b:4<=(T.path (T.p i)).length:=b;omega
    ·rintro ⟨b,f⟩
     rcases j with c|c
     ·exact b c
     ·rw[show dS U.x U.n (T.p i)=U.has (T.p i)from rfl,c]at f; cases f
   rw[dN.Eo l];refine⟨⟨fun k a => ?_,fun k a => ?_⟩,?_,fun k a => ?_⟩
   ·rw[dN.jK,Bool.or_eq_true]at a
    rcases a with a|a
    ·exact h.has k a
    ·rw[<- h_ a]; exact dN.zN hi
   ·rw[dN.jK,Bool.or_eq_true]at a;rw[dN.tH];split
    ·rename_i e; subst e; exact(dN.Lh d hi).symm
    ·rename_i e
     rcases a with a|a
     ·exact h.par k a
     ·exact M_ (h_ a) e
   ·rw[dN.jK,f_ rfl,Bool.or_true]
   ·rw[dN.jK,a,Bool.true_or]
structure Li(T U:dN)(r k:Nat):Prop where
 sub:uU U T
 fst : ∀ j,j<r->j<T.n->U.has (T.x j)=true
 nxt:k<=r->r<T.n->U.has (T.x r)=true
theorem Li.start(T:dN) : ∀ {r:Nat},r=0->Li T dN.zero r T.n:=fun e=>⟨uU.zero T,fun j h=>by omega,fun a b=>by omega⟩
theorem Li.add{r k:Nat}(f:T.ok)(g:U.ok)(h:Li T U r k)(m:0<k)(o:k<=T.n)(l:T.p (k-1)=0\/U.has (T.p (k-1))=true):Li T (U.add (T.x (k-1)) (T.p (k-1))) r (k-1):=by
 obtain⟨c,d,b⟩:=uU.add f g h.sub (show k-1<T.n by omega) l;refine⟨c,fun j i a=>b _ (h.fst j i a),fun q a => ?_⟩;by_cases e:k<=r
 ·exact b _ (h.nxt e a)
 obtain rfl:r=k-1:=by omega
 exact d
theorem Li.skip{r k:Nat}(b:T.ok)(h:Li T U r k)(f:0<k)(g:k<=T.n)(d : ¬ T.p (k-1)=0)(a:U.has (T.p (k-1))=false):Li T U r (k-1):=by
 refine⟨h.sub,h.fst,fun j c => ?_⟩;by_cases e:k<=r
 ·exact h.nxt e c
 obtain rfl:r=k-1:=by omega
 rcases b.par (k-1) (by omega)with h1|⟨i,hi,h1⟩
 ·exact M_ h1 d
 rw[<- h1,h.fst i hi (by omega)]at a; cases a
theorem Li.next{r:Nat}(h:Li T U r 0):Li T U (r+1) T.n :=
 ⟨h.sub,fun j d a=>by
  by_cases e:j=r
  ·subst e; exact h.nxt (K_ _) a
  ·exact h.fst j (by omega) a,fun b c=>by omega⟩
theorem Li.all{r k:Nat}(h:Li T U r k)(hr:T.n<=r) : ∀ k,T.has k=true->U.has k=true:=fun k b=>by
 obtain⟨j,a,rfl⟩:=gU b;exact h.fst j (by omega) a
theorem Li.path{r k:Nat}(h:Li T U r k)(hr:T.n<=r)(q:Int):U.path q=T.path q:=h.sub.same (h.all hr) q
theorem Li.list{r k:Nat}(h:Li T U r k)(hr:T.n<=r){l m:List Int}(a:l.Pairwise (· < ·) /\ ∀ k,k∈l<->T.has k=true)(b:m.Pairwise (· < ·) /\ ∀ k,k∈m<->U.has k=true):m=l :=
 uR b.1 a.1 fun k=>(b.2 k).trans (Iff.trans ⟨h.sub.has k,h.all hr k⟩ (a.2 k).symm)
end
def Ry(l:List Int)(v:Int)(n:Nat)(b:Bool):Prop:=b=true <-> ∃ j,j<n/\j<l.length/\l.getD j 0=v
theorem Ry.zero(l:List Int)(v:Int):Ry l v 0 false:=⟨fun h=>(nomatch h),fun⟨j,h,_⟩=>M_ h (z_ _)⟩
theorem Ry.keep{l:List Int}{v:Int}{n:Nat}(h:Ry l v n true):Ry l v (n+1) true:=⟨fun _=>by obtain⟨j,b,a⟩:=h.1 rfl; exact⟨j,by omega,a⟩,fun _=>rfl⟩
theorem Ry.yes{l:List Int}{v:Int}{n:Nat}(a:n<l.length)(e:l.getD n 0=v):Ry l v (n+1) true:=⟨fun _=>⟨n,by omega,a,e⟩,fun _=>rfl⟩
theorem Ry.no{l:List Int}{v:Int}{n:Nat}(h:Ry l v n false)(e : ¬ l.getD n 0=v):Ry l v (n+1) false:=⟨fun h=>(nomatch h),fun⟨j,d,c,a⟩=>by
 by_cases b:j=n
 ·subst b; exact M_ a e
 ·exact h.2 ⟨j,by omega,c,a⟩⟩
theorem Ry.mem{l:List Int}{v:Int}{n:Nat}{b:Bool}(h:Ry l v n b)(i:l.length<=n):b=true<->v∈l:=by
 constructor
 ·intro f;obtain⟨j,_,c,d⟩:=h.1 f;exact uS c d
 intro g;obtain⟨j,a,e⟩:=List.getElem_of_mem g;refine h.2 ⟨j,by omega,a,?_⟩;rw[r_,o_ a]; exact e
end Rt
namespace Rt
def YA(x:Nat->Int)(v:Int)(j aq:Nat):Prop:=(aq=0 /\ ∀ q,q<j->x q≠v)\/(0<aq/\aq<=j/\x (aq-1)=v)
section
variable {x:Nat->Int} {v:Int} {j aq:Nat}
theorem YA.zero:YA x v 0 0 := .inl ⟨rfl,fun _ h=>M_ h (z_ _)⟩
theorem YA.yes(e:x j=v):YA x v (j+1) (j+1) := .inr ⟨by omega,by omega,e⟩
theorem YA.no(h:YA x v j aq)(e : ¬ x j=v):YA x v (j+1) aq:=by
 rcases h with ⟨a,b⟩|⟨a,b,h3⟩
 ·refine .inl ⟨a,fun q d => ?_⟩;by_cases c:q=j
  ·subst c; exact e
  exact b q (by omega)
 exact .inr ⟨a,by omega,h3⟩
end
section
variable {x p:Nat->Int} {n:Nat}
theorem rH : ∀ {d:Nat} {v:Int},jE x p n d v -> ∀ k,k<(jG x p n d v).length->dS x n ((jG x p n d v).getD k 0)=true /\
 (k+1<(jG x p n d v).length->(jG x p n d v).getD (k+1) 0=iH x p n ((jG x p n d v).getD k 0))/\(k+1=(jG x p n d v).length->dS x n (iH x p n ((jG x p n d v).getD k 0))=false)
 | 0,v,h,k,hk=>M_ hk (z_ _)
 | d+1,v,h,k,hk=>by
   cases hv:dS x n v with
   | false=>rw[kW hv]at hk; exact M_ hk (z_ _)
   | true =>
     have e:jG x p n (d+1) v=v::jG x p n d (iH x p n v):=(by show(if _ then _ else _)=_; rw[d_ hv]);have c:jE x p n d (iH x p n v):=h hv;have i := @rH d (iH x p n v) c;have g:0<(jG x p n d (iH x p n v)).length->(jG x p n d (iH x p n v)).getD 0 0=iH x p n v:=fun a=>by
      cases d with
      | zero=>exact M_ a (z_ _)
      | succ d =>
        unfold jG at a ⊢;split at a
        ·rename_i hq; rw[d_ hq]; rfl
        ·exact M_ a (z_ _)
     rw[e]at hk ⊢;rw[List.length_cons]at hk ⊢
     cases k with
     | zero =>
       rw[List.getD_cons_zero,List.getD_cons_succ];refine⟨hv,fun b=>g (by omega),fun b => ?_⟩
       cases hq:dS x n (iH x p n v)with
       | false=>rfl
       | true =>
         obtain⟨j,_,_,f⟩:=GY c hq;rw[f,List.length_cons]at b; omega
     | succ k =>
       rw[List.getD_cons_succ,List.getD_cons_succ];have:=i k (by omega);exact⟨this.1,fun b=>this.2.1 (by omega),fun b=>this.2.2 (by omega)⟩
end
section
variable {T:dN} {id pa k v:Int} {i j aq:Nat} {pl:List Int}
theorem YA.get(h:YA T.x v T.n aq)(d:T.has v=true):0<aq/\aq-1<T.n/\T.x (aq-1)=v:=by
 rcases h with ⟨a,b⟩|⟨a,b,h3⟩
 ·obtain⟨q,c,e⟩:=gU d;exact M_ e (b q c)
 exact⟨a,by omega,h3⟩
theorem dN.NC(h:T.ok)(e:pl=T.path v){q:Nat}(a:q<pl.length):T.has (pl.getD q 0)=true:=by
 subst e; exact(rH (h.stop v) q a).1
theorem dN.YB(h:T.ok)(e:pl=T.path v){q:Nat}(b:q+1<pl.length)(ha:aq-1<T.n)(hx:T.x (aq-1)=pl.getD q 0):T.p (aq-1)=pl.getD (q+1) 0:=by
 subst e;have:=(rH (h.stop v) q (Nat.lt_of_succ_lt b)).2.1 b;have a:=dN.Lh h ha;rw[hx]at a;exact a.symm.trans this.symm
theorem dN.YC(h:T.ok)(e:pl=T.path v){q:Nat}(c:q+1=pl.length)(ha:aq-1<T.n)(hx:T.x (aq-1)=pl.getD q 0):T.p (aq-1)=0:=by
 subst e;have a:=(rH (h.stop v) q (Nat.lt_of_succ_le (Nat.le_of_eq c))).2.2 c;have b:=dN.Lh h ha;rw[hx]at b;rw[show iH T.x T.p T.n ((jG T.x T.p T.n 4 v).getD q 0)=T.p (aq-1)from b]at a
 rcases h.par _ ha with h4|⟨i,hi,h4⟩
 ·exact h4
 rw[<- h4,jN (by omega) rfl]at a; cases a
theorem dN.adC(d : ¬ id=0)(e:pa=0\/T.has pa=true):T.err id pa=if T.has id=true then 14 else if 32<=T.n\/4<=(T.path pa).length then 6 else 0:=by
 show qW T.x T.p T.n id pa=_;unfold qW;rw[b_ d];have c : ¬ (¬ pa=0/\dS T.x T.n pa=false):=by
  rintro ⟨b,a⟩
  rcases e with h3|h3
  ·exact b h3
  ·rw[show dS T.x T.n pa=T.has pa from rfl,h3]at a; cases a
 rw[b_ c]; rfl
end
def Apt(v1 v2:Value):Prop := ∀ g,v1.ownBlock=some g->v2.ownBlock≠some g
section
variable {w w':World} {v v2:Value} {B s n g m c:Nat} {E:TypeId} {x:Nat->Value}
theorem Apt.symm(h:Apt v v2):Apt v2 v:=fun g a b=>h g b a
theorem Apt.nil:Apt (.slice none 0 0) v:=fun g h=>nomatch h
theorem Apt.app(h:Apt v v2)(b:Fx.Own w B E s v n x)(d:v2.ownBlock=some g\/g=w.heap.size):Apt v (bO g m c):=fun q a e=>by
 have e:some g=some q:=e;obtain rfl:=C_ e
 rcases d with h1|h1
 ·exact h _ a h1
 ·have:=(b.ge a).2; omega
end
end Rt
namespace Rt
def Gn(n:Nat):Nat->List Nat
 | 0 => []
 | j+1=>Gn n j ++ [n-1-j]
theorem Pg(n:Nat) : ∀ j,(Gn n j).length=j
 | 0=>rfl
 | j+1=>by unfold Gn; rw[E_,Pg n j]; rfl
def Mr(T:dN)(l:List Int)(a:List Nat):dN:=a.foldl (fun U x=>U.add (l.getD x 0) (T.par (l.getD x 0))) dN.zero
theorem FM(T:dN)(l:List Int)(a:List Nat)(x:Nat):Mr T l (a ++ [x])=(Mr T l a).add (l.getD x 0) (T.par (l.getD x 0)):=by unfold Mr; rw[List.foldl_append]; rfl
def lJ(l ll:List Int)(U:dN):Nat->dN
 | 0=>U
 | i+1=>if ll.getD i 0∈l then lJ l ll U i else(lJ l ll U i).add (ll.getD i 0) 0
section
variable {T U:dN} {l ll:List Int} {id pa k v:Int} {i j n:Nat}
theorem has_lt(t:U.ok)(h : ∀ k,U.has k=true->T.has k=true)(hx:T.has v=true)(o:U.has v=false):U.n<T.n:=by
 obtain⟨i,u,rfl⟩:=gU hx;have r : ∀ j,∃ q,j<U.n->q<T.n/\T.x q=U.x j:=fun j=>by
  by_cases g:j<U.n
  ·obtain⟨q,c,d⟩:=gU (h _ (dN.zN g));exact⟨q,fun _=>⟨c,d⟩⟩
  ·exact⟨0,fun h=>M_ h g⟩
 obtain⟨f,l⟩:=Classical.axiomOfChoice r;have:=Cx T.n (U.n+1) (fun j=>if j=U.n then i else f j) (fun j g=>by
  show(if j=U.n then i else f j)<T.n;split
  ·exact u
  ·exact(l j (by omega)).1) (fun a b w y e=>by
  have p : ∀ j,j<U.n->f j≠i:=fun j g e=>by
   have c:=(l j g).2;rw[e]at c;rw[c,dN.zN g]at o; cases o
  have e:(if a=U.n then i else f a)=(if b=U.n then i else f b):=e;by_cases c:a=U.n
  ·by_cases d:b=U.n
   ·omega
   ·rw[d_ c,b_ d]at e; exact M_ e.symm (p b (by omega))
  ·by_cases d:b=U.n
   ·rw[b_ c,d_ d]at e; exact M_ e (p a (by omega))
   ·rw[b_ c,b_ d]at e;have m:=(l a (by omega)).2;have s:=(l b (by omega)).2;rw[e]at m;exact t.inj a b (by omega) (by omega) (m.symm.trans s))
 omega
theorem Vk(p:U.ok)(h : ∀ k,U.has k=true->T.has k=true):U.n<=T.n:=by
 have l : ∀ j,∃ q,j<U.n->q<T.n/\T.x q=U.x j:=fun j=>by
  by_cases i:j<U.n
  ·obtain⟨q,m,o⟩:=gU (h _ (dN.zN i));exact⟨q,fun _=>⟨m,o⟩⟩
  ·exact⟨0,fun h=>M_ h i⟩
 obtain⟨f,c⟩:=Classical.axiomOfChoice l;exact Cx T.n U.n f (fun q r=>(c q r).1) fun a b d g e=>p.inj a b d g (by rw[<- (c a d).2,<- (c b g).2,e])
structure BwI(T U:dN)(l:List Int)(j:Nat):Prop where
 ok:U.ok
 sub:uU U T
 has : ∀ x,l.length-j<=x->x<l.length->U.has (l.getD x 0)=true
 only : ∀ k,U.has k=true->k∈l
theorem Vl(a:T.ok)(hi:i<T.n):0<=T.x i/\T.x i<=18446744073709551615:=by have:=a.pos i hi; omega
theorem YD(U:dN)(id pa k:Int)(h:(U.add id pa).has k=true):U.has k=true\/k=id:=by
 unfold dN.add at h;split at h
 ·rw[dN.jK,Bool.or_eq_true]at h
  rcases h with h|h
  ·exact .inl h
  exact .inr (h_ h).symm
 exact .inl h
theorem Vm(a:T.ok)(e:l=T.path pa) : ∀ j,j<=l.length->BwI T (Mr T l (Gn l.length j)) l j
 | 0,_=>⟨BF.zero _ _,uU.zero T,fun x g c=>by omega,fun k h=>nomatch h⟩
 | j+1,hj=>by
   have d:=Vm a e j (by omega);have m:l.length-1-j<l.length:=(by omega);have t:T.has (l.getD (l.length-1-j) 0)=true:=dN.NC a e m;obtain⟨i,f,b⟩:=gU t;have n:T.par (l.getD (l.length-1-j) 0)=T.p i:=(by rw[<- b]; exact dN.Lh a f);show BwI T (Mr T l (Gn l.length j ++ [l.length-1-j])) l (j+1);rw[FM,n,<- b];have s:T.p i=0\/(Mr T l (Gn l.length j)).has (T.p i)=true:=by
    by_cases r:l.length-1-j+1=l.length
    ·exact .inl (dN.YC (aq:=i+1) a e r f b)
    ·have c:=dN.YB (aq:=i+1) a e (show l.length-1-j+1<l.length by omega) f b;have c:T.p i=l.getD (l.length-1-j+1) 0:=c;right;rw[c];exact d.has _ (by omega) (by omega)
   obtain⟨u,v,w⟩:=uU.add a d.ok d.sub f s;refine⟨dN.I8 d.ok (Vl a f),u,fun x g c => ?_,fun k q => ?_⟩
   ·by_cases o:x=l.length-1-j
    ·rw[o,<- b]; exact v
    ·exact w _ (d.has x (by omega) c)
   ·rcases YD _ _ _ _ q with g|rfl
    ·exact d.only k g
    ·rw[b];rw[r_,o_ m]; exact Q_ m
structure RtI(T U:dN)(l ll:List Int)(i:Nat):Prop where
 ok:U.ok
 sub : ∀ k,U.has k=true->T.has k=true
 par : ∀ k,k∈l->U.has k=true/\U.par k=T.par k
 has : ∀ q,q<i->q<ll.length->U.has (ll.getD q 0)=true
 only : ∀ k,U.has k=true->k∈l \/ ∃ q,q<i/\q<ll.length/\ll.getD q 0=k
theorem adD(d:ll.Pairwise (· < ·)){a b:Nat}(ha:a<ll.length)(c:b<ll.length)(e:ll.getD a 0=ll.getD b 0):a=b:=by
 rw[r_,r_,o_ ha,o_ c]at e;have e:ll[a]=ll[b]:=e
 rcases Nat.lt_trichotomy a b with h1|h1|h1
 ·have:=List.pairwise_iff_getElem.1 d a b ha c h1; omega
 ·exact h1
 have:=List.pairwise_iff_getElem.1 d b a c ha h1; omega
theorem Vn(d:T.ok)(g:ll.Pairwise (· < ·) /\ ∀ k,k∈ll<->T.has k=true)(n:RtI T U l ll 0) : ∀ i,i<=ll.length->RtI T (lJ l ll U i) l ll i
 | 0,_=>n
 | i+1,hi=>by
   have b:=Vn d g n i (by omega);unfold lJ;have s:ll.getD i 0∈ll:=(by rw[r_,o_ (by omega)]; exact Q_ _);have f:=(g.2 _).1 s;by_cases c:ll.getD i 0∈l
   ·rw[d_ c];refine⟨b.ok,b.sub,b.par,fun q v h => ?_,fun k a => ?_⟩
    ·by_cases e:q=i
     ·rw[e]; exact(b.par _ c).1
     ·exact b.has q (by omega) h
    ·rcases b.only k a with h1|⟨q,h1,h2,h3⟩
     ·exact .inl h1
     ·exact .inr ⟨q,by omega,h2,h3⟩
   ·rw[b_ c];obtain⟨z,r,m⟩:=gU f;have o:=Vl d r;rw[m]at o;have u:=d.pos z r;rw[m]at u;have p:(lJ l ll U i).has (ll.getD i 0)=false:=by
     cases hh:(lJ l ll U i).has (ll.getD i 0)with
     | false=>rfl
     | true =>
       rcases b.only _ hh with h1|⟨q,h1,h2,h3⟩
       ·exact M_ h1 c
       ·have:=adD g.1 h2 (by omega) h3; omega
    have w:=has_lt b.ok b.sub f p;have x:=d.small;have j:(lJ l ll U i).err (ll.getD i 0) 0=0:=by
     rw[dN.adC (by omega) (.inl rfl),b_ (by rw[p]; decide),b_];rw[dN.adB b.ok];rintro (h1|h1)
     ·omega
     ·simp at h1
    rw[dN.Eo j];have t : ∀ k,k∈l -> ¬ ll.getD i 0=k:=fun k a e=>c (e ▸ a);refine⟨by have:=dN.I8 (pa:=0) b.ok o; rwa [dN.Eo j]at this,fun k a => ?_,fun k a => ?_,fun q v h => ?_,fun k a => ?_⟩
    ·rw[dN.jK,Bool.or_eq_true]at a
     rcases a with a|a
     ·exact b.sub k a
     ·rw[<- h_ a]; exact f
    ·rw[dN.jK,dN.tH,b_ (t k a),(b.par k a).1,Bool.true_or];exact⟨rfl,(b.par k a).2⟩
    ·rw[dN.jK];by_cases e:q=i
     ·rw[e,f_ rfl,Bool.or_true]
     ·rw[b.has q (by omega) h,Bool.true_or]
    ·rw[dN.jK,Bool.or_eq_true]at a
     rcases a with a|a
     ·rcases b.only k a with h1|⟨q,h1,h2,h3⟩
      ·exact .inl h1
      ·exact .inr ⟨q,by omega,h2,h3⟩
     ·exact .inr ⟨i,by omega,by omega,h_ a⟩
theorem Ig(c : ∀ k,U.has k=T.has k) : ∀(d:Nat) (k:Int),(∀ q,q∈jG T.x T.p T.n d k->U.par q=T.par q)->jG U.x U.p U.n d k=jG T.x T.p T.n d k
 | 0,_,_=>rfl
 | d+1,k,h=>by
   have a:dS U.x U.n k=dS T.x T.n k:=c k
   cases hk:dS T.x T.n k with
   | false=>rw[kW hk,kW (a.trans hk)]
   | true =>
     have b:jG T.x T.p T.n (d+1) k=k::jG T.x T.p T.n d (iH T.x T.p T.n k):=(by show(if _ then _ else _)=_; rw[d_ hk]);have e:jG U.x U.p U.n (d+1) k=k::jG U.x U.p U.n d (iH U.x U.p U.n k):=(by show(if _ then _ else _)=_; rw[d_ (a.trans hk)]);rw[b]at h;have f:iH U.x U.p U.n k=iH T.x T.p T.n k:=h k (List.mem_cons_self ..);rw[b,e,f,Ig c d _ fun q g=>h q (List.mem_cons_of_mem _ g)]
theorem YE(i:T.ok)(e:l=T.path pa)(m:ll.Pairwise (· < ·) /\ ∀ k,k∈ll<->T.has k=true):(lJ l ll (Mr T l (Gn l.length l.length)) ll.length).err id pa=T.err id pa:=by
 have d:=Vm i e l.length (A_ _);have t : ∀ k,k∈l -> ∃ x,x<l.length/\l.getD x 0=k:=fun k a=>by
  obtain⟨x,h,r⟩:=List.getElem_of_mem a;exact⟨x,h,by rw[r_,o_ h]; exact r⟩
 have s:RtI T (Mr T l (Gn l.length l.length)) l ll 0:=⟨d.ok,d.sub.has,fun k a=>by
  obtain⟨x,h,rfl⟩:=t k a;have:=d.has x (by omega) h;exact⟨this,d.sub.par _ this⟩,fun q b=>by omega,fun k a => .inl (d.only k a)⟩
 have c:=Vn i m s ll.length (A_ _);generalize lJ l ll (Mr T l (Gn l.length l.length)) ll.length=V at c;have g : ∀ k,V.has k=T.has k:=fun k=>by
  cases f:T.has k with
  | false =>
    cases j:V.has k with
    | false=>rfl
    | true=>rw[c.sub k j]at f; cases f
  | true =>
    obtain⟨q,b,o⟩:=List.getElem_of_mem ((m.2 k).2 f);have:=c.has q b b;rw[r_,o_ b]at this;rw[<- o]; exact this
 have u:V.n=T.n:=by
  have f:=Vk c.ok c.sub;have j:=Vk i (fun k a=>by rw[g]; exact a : ∀ k,T.has k=true->V.has k=true);omega
 have v:V.path pa=T.path pa:=Ig g 4 pa fun q b=>(c.par q (by rw[e]; exact b)).2;show qW V.x V.p V.n id pa=qW T.x T.p T.n id pa;unfold qW;have w:jG V.x V.p V.n 4 pa=jG T.x T.p T.n 4 pa:=v;rw[show dS V.x V.n id=dS T.x T.n id from g id,show dS V.x V.n pa=dS T.x T.n pa from g pa,w,u]
end
end Rt
namespace Fx
abbrev yE:=Exit->(Nat->Value)->List Deferred->World->Prop
def Vo(n:Nat)(Q:yE):Exit->Act->World->Prop:=fun e a w => ∃ f,Aw a n f/\Q e f a.defers w
def W0(ro:Option Nat)(m:Nat)(P:Program)(n:Nat)(c:Code)(Q:yE)(f:Nat->Value)(ds:List Deferred)(w:World):Prop := ∀ a,Aw a n f->a.defers=ds->c.wpIn (FR ro) m P (Vo n Q) a w
def Vp(ro:Option Nat)(m:Nat)(P:Program)(n:Nat)(y:Code)(Q:yE):yE:=fun e f ds w=>match e with | .normal=>W0 ro m P n y Q f ds w|e=>Q e f ds w
def Br(id:Nat)(Q:yE):yE:=fun e f ds w=>match e with | .exit id'=>if id'=id then Q .normal f ds w else Q (.exit id') f ds w|e=>Q e f ds w
def ND(I:(Nat->Value)->World->Prop)(b:(Nat->Value)->World->Nat)(k:Nat)(ds:List Deferred)(Q:yE):yE:=fun e f a w=>match e with | .normal=>a=ds/\I f w/\b f w<k|e=>Q e f a w
section
variable {ro:Option Nat} {m:Nat} {ds:List Deferred} {P:Program} {n:Nat} {Q:yE} {f:Nat->Value} {w:World}
theorem W0.seq{x y:Code}(h:W0 ro m P n x (Vp ro m P n y Q) f ds w):W0 ro m P n (.seq x y) Q f ds w:=fun a i j =>
 wpIn_seq (wpIn_mono (h a i j) fun e d w' b=>by
  obtain⟨g,c,b⟩:=b
  cases e <;> first|exact b d c rfl|exact⟨g,c,b⟩)
theorem W0.skip(h:Q .normal f ds w):W0 ro m P n .skip Q f ds w:=fun _ a b=>wpIn_skip ⟨f,a,b ▸ h⟩
theorem W0.ret(h:Q .ret f ds w):W0 ro m P n .ret Q f ds w:=fun _ a b=>wpIn_ret ⟨f,a,b ▸ h⟩
theorem W0.exit{id:Nat}(h:Q (.exit id) f ds w):W0 ro m P n (.exit id) Q f ds w:=fun _ a b=>wpIn_exit ⟨f,a,b ▸ h⟩
theorem W0.block{id:Nat}{c:Code}(h:W0 ro m P n c (Br id Q) f ds w):W0 ro m P n (.block id c) Q f ds w:=fun a i j =>
 wpIn_block (wpIn_mono (h a i j) fun e k w' b=>by
  obtain⟨d,g,b⟩:=b
  cases e <;> first
   | exact⟨d,g,b⟩
   | (simp only[Br]at b; simp only[Exit.inBlock]; split at b <;> rename_i hid <;> simp only[hid,if_true,if_false] <;> exact⟨d,g,b⟩))
theorem W0.cond{c:Operand}{x y:Code}{b:Bool}(h:ev f c = .bool b)(j:b=true->W0 ro m P n x Q f ds w)(i:b=false->W0 ro m P n y Q f ds w):W0 ro m P n (.cond c x y) Q f ds w:=fun a d g =>
 wpIn_cond_split (t:=b) (by rw[d.ev]; exact h) (fun e=>j e a d g) (fun e=>i e a d g)
theorem W0.loop{c:Code}(I:(Nat->Value)->World->Prop)(k:(Nat->Value)->World->Nat)(r:I f w)(hr : ∀ f w,I f w->W0 ro m P n c (ND I k (k f w) ds Q) f ds w):W0 ro m P n (.loop c) Q f ds w:=fun a s h =>
 wpIn_loop (fun a w => ∃ f,Aw a n f/\a.defers=ds/\I f w) (fun a w=>k (fun i=>a.tmps.getD i undef) w) ⟨f,s,h,r⟩ (fun a w g=>by
  obtain⟨f,l,h,g⟩:=g;have e:(fun i=>a.tmps.getD i undef)=f:=funext l.get;refine wpIn_mono (hr f w g a l h)<|fun p o w' b => ?_;obtain⟨d,j,b⟩:=b
  cases p <;> first
   | exact⟨d,j,b⟩
   | (have q:(fun i=>o.tmps.getD i undef)=d:=funext j.get
      exact⟨⟨d,j,b.1,b.2.1⟩,by rw[e,q]; exact b.2.2⟩))
theorem W0.list{id:Nat}{ops:List Oper}(h:L P n ops.toArray (fun e f w=>Q e f ds w) ops f w)(k:ops.all jX=true:=by rfl):W0 ro m P n (.region id ops.toArray false) Q f ds w:=fun a i j =>
 GX i h k fun e l w' ⟨b,c,d,g⟩=>⟨b,c,by rw[d,j]; exact g⟩
theorem qN{y:Code}(h:W0 ro m P n y Q f ds w):Vp ro m P n y Q .normal f ds w:=h
theorem ahn{id:Nat}{y:Code}(h:Q (.exit id) f ds w):Vp ro m P n y Q (.exit id) f ds w:=h
theorem Lj{id:Nat}(h:Q .normal f ds w):Br id Q .normal f ds w:=h
theorem aho{id:Nat}(h:Q .normal f ds w):Br id Q (.exit id) f ds w:=by simp only[Br,if_true]; exact h
theorem aoo{I:(Nat->Value)->World->Prop}{a:(Nat->Value)->World->Nat}{k id:Nat}(h:Q (.exit id) f ds w):ND I a k ds Q (.exit id) f ds w:=h
theorem ahp{I:(Nat->Value)->World->Prop}{a:(Nat->Value)->World->Nat}{k:Nat}(h:I f w)(b:a f w<k):ND I a k ds Q .normal f ds w:=⟨rfl,h,b⟩
def aas(P:Program)(m:Nat)(b:Func)(R:Ending->World->Prop):yE:=fun e f ds w => ∀ a,Aw a b.ntmps f->a.defers=ds->bodyPostM (FR none) m P b R e a w
theorem adE{g:FuncId}{b:Func}{c:Code}{args:Array Value}{R:Ending->World->Prop}(m:Nat)(k:P.funcs[g]? = some b)(j:b.body=some c)(f:b.ntmps=n)(ha:Nat.ble args.size n=true)(h:W0 none m P n c (aas P m b R) (start args) [] w):Calls P g args w R:=by
 have q:args.size<=n:=Nat.le_of_ble_eq_true ha;refine(callsIn_wide (n:=m)).1 (callsIn_of_wp_marks (F:=FR none) k j trivial ?_ rfl);refine wpIn_mono (h _ ⟨?_,?_⟩ rfl) fun e a w' ⟨p,l,o⟩=>o a (by rw[f]; exact l) rfl
 ·simp[f]; omega
 intro i;simp only[start,Array.getD_eq_getD_getElem?,Array.getElem?_append,Array.getElem?_replicate];by_cases d:i<args.size
 ·simp[d]
 rw[b_ d];split
 ·rw[Array.getElem?_eq_none (by omega)]; rfl
 rw[Array.getElem?_eq_none (by omega)]
theorem leaveD{b:Func}{R:Ending->World->Prop}{D:Nat}{v:Value}(c:w.heap[D]? = some (.deferred (some [])))(h:(zh b f).run P (w.putObj D (.deferred none)) = .ok v (w.putObj D (.deferred none)))(d:R (.returned v) (w.putObj D (.deferred none))) :
 aas P m b R .ret f [{ target := .collected D,args := #[] }] w:=fun a e g=>leave1 e g c h d
variable {ops:List Oper} {cs:List Nat} {S:World->World->Prop}
theorem R.ahq(T:lX n ops=true)(hsel:Region.noSelect ops.toArray=true)(aa:ops.all jX=true)(hS : ∀ w,S w w)(hT : ∀ a b c,S a b->S b c->S a c){fG:List (Nat × Nat × List Nat)} : ∀(k:Nat) (u:List Nat) (p:Array Bool) (a:Act) (f:Nat->Value) (w:World),u.length=k->p.size=ops.length->JO ops.toArray .any p ->
 (∀ i,i∈u<->i<ops.length/\p.getD i false=false)->u.Nodup->(u.Pairwise fun i j=>qz ops cs fG i j=true)->Aw a n f->a.defers=ds->R P n ops cs S (fun e f w=>Q e f ds w) u f w->wpAnyIn (FR ro) m P .any ops.toArray (Vo n Q) k p a w:=by
 intro k
 induction k with
 | zero =>
   intro u p a f w F ac J x G H A L h;have:u = []:=List.eq_nil_of_length_eq_zero F;subst this;refine⟨?_,f,A,by rw[L]; exact h⟩;rw[List.eq_nil_iff_forall_not_mem];intro j E;obtain⟨z,s,_,_⟩:=fM E;exact M_ ((x j).2 ⟨s,z⟩) (by simp)
 | succ k ih =>
   intro u p a f w F ac J x G H A L h;refine⟨fun hr => ?_,fun j E => ?_⟩
   ·cases u with
    | nil=>simp at F
    | cons r akJ =>
      exfalso;obtain⟨z,s⟩:=(x r).1 (List.mem_cons_self ..);have:r∈Region.ready .any ops.toArray p:=by
       refine mem_ready.2 ⟨getD_in (by omega) s,opAt ops r,by unfold opAt; rw[List.getElem?_toArray,r_,o_ z]; rfl,fun e M C => ?_⟩;have B:dI (opAt ops r) e.on=true:=by
        unfold dI; rw[Array.any_eq_true']; exact⟨e,M,by rw[C,Nat.beq_refl]; rfl⟩
       have hlt:=(fF T z).2.2.2 e.on B
       cases hle:p.getD e.on false with
       | true=>rfl
       | false =>
         have g:=(x e.on).2 ⟨by omega,hle⟩
         rcases List.mem_cons.1 g with e1|e1
         ·omega
         ·have o:=(List.pairwise_cons.1 H).1 _ e1;unfold qz at o;rw[B]at o; simp at o
      rw[hr]at this; simp at this
   ·obtain⟨z,s,W,X⟩:=fM E;have hjm:=(x j).2 ⟨s,z⟩;obtain⟨t,y,rfl⟩:=List.append_of_mem hjm;have C:=bubble (P:=P) (cs:=cs) (S:=S) (Q:=fun e f w=>Q e f ds w) T hsel hS hT s (l:=y) t (fun i N=>by
     obtain⟨h5,Y⟩:=(x i).1 (List.mem_append_left _ N);have O:i≠j:=fun e=>by
      subst e;exact(List.nodup_append.1 G).2.2 i N i (List.mem_cons_self ..) rfl
     have o:qz ops cs fG i j=true:=(List.pairwise_append.1 H).2.2 i N j (List.mem_cons_self ..);unfold qz at o;rw[S_,Bool.or_eq_true]at o;have abf:dI (opAt ops j) i=false:=by
      cases hq:dI (opAt ops j) i with
      | false=>rfl
      | true=>have:=X i hq; rw[Y]at this; cases this
     refine⟨h5,O,abf,by simpa using o.1,?_⟩
     rcases o.2 with o|o
     ·rw[S_,Bool.or_eq_true]at o;refine⟨o.1,?_⟩
      rcases o.2 with q|q
      ·rw[Bool.or_eq_true]at q;exact q.elim (fun q => .inl (B_ q)) (fun q => .inr (.inl q))
      ·rw[S_]at q;exact .inr (.inr ⟨B_ q.1,B_ q.2⟩)
     ·exfalso;rw[List.any_eq_true]at o;obtain⟨c,_,Z⟩:=o;rw[S_,S_]at Z;obtain⟨m,g⟩:=jf Z.2
      cases m with
      | zero=>unfold reach at g; simp at g; exact O g.symm
      | succ m =>
        unfold reach at g;rw[Bool.or_eq_true]at g
        rcases g with g|g
        ·simp at g; exact O g.symm
        ·rw[W]at g;simp only at g;rw[Array.any_eq_true']at g;obtain⟨e,M,g⟩:=g;rw[S_]at g;have B:dI (opAt ops j) e.on=true:=by
          unfold dI; rw[Array.any_eq_true']; exact⟨e,M,by rw[g.1,Nat.beq_refl]; rfl⟩
         have:=J.reach _ _ g.2 (X e.on B);rw[Y]at this; cases this) f w h
    have hperm:(t++y).length=k:=(by simp at F ⊢; omega);have hnd':(t++y).Nodup:=by
     refine G.sublist ?_;exact List.Sublist.append_left (List.sublist_cons_self ..) t
    have abg:(t++y).Pairwise fun i j=>qz ops cs fG i j=true:=H.sublist (List.Sublist.append_left (List.sublist_cons_self ..) t);have hmem' : ∀ i,i∈t++y<->i<ops.length/\(p.setIfInBounds j true).getD i false=false:=fun i=>by
     by_cases e:j=i
     ·subst e;rw[set_self (by omega)];constructor
      ·intro g;exfalso;have D:=List.nodup_append.1 G
       rcases List.mem_append.1 g with q|q
       ·exact D.2.2 j q j (List.mem_cons_self ..) rfl
       ·exact(List.nodup_cons.1 D.2.1).1 q
      ·intro q; cases q.2
     ·rw[kg e,<- x i];simp only[List.mem_append,List.mem_cons];constructor
      ·rintro (q|q)
       ·exact .inl q
       ·exact .inr (.inr q)
      ·rintro (q|q|q)
       ·exact .inl q
       ·exact M_ q.symm e
       ·exact .inr q
    have U : ∀(v:Value) (w':World),R P n ops cs S (fun e f w=>Q e f ds w) (t++y) (put f (opAt ops j).dst v) w'->wpAnyIn (FR ro) m P .any ops.toArray (Vo n Q) k (p.setIfInBounds j true) (a.put (opAt ops j).dst v) w':=fun v w' hR =>
     ih (t++y) _ _ _ w' hperm (by simp[ac]) (J.set E) hmem' hnd' abg (A.put (by
      cases D:(opAt ops j).dst with
      | none=>rfl
      | some d=>have:=((fF T s).1 d D).2; simpa [inn,Nat.blt_eq] using this) v) (by rw[put_defers]; exact L) hR
    have ab:jX (opAt ops j)=true:=by
     rw[List.all_eq_true]at aa;refine aa _ ?_;unfold opAt;rw[r_,o_ s];exact Q_ s
    unfold wpOpIn;rw[W];simp only;rw[A.yf];unfold R at C
    rcases C with ⟨I,V⟩|⟨I,⟨V,v,q3,q4⟩|⟨V,q3⟩⟩
    ·rw[b_ (by rw[I]; decide)]; exact⟨fun _ _=>trivial,U _ _ V⟩
    ·rw[d_ I];refine Out.wpIn (K:=fun v' w'=>v'=v/\w'=w) A ab (.inl ⟨v,w,q3 w (.inr (.inr rfl)),rfl,rfl⟩) ?_;rintro v' w' ⟨rfl,rfl⟩;exact U _ _ q4
    ·rw[d_ I];exact Out.wpIn A ab q3 fun v w' hk=>U v w' hk.2
theorem W0.ahr{f:Nat->Value}{w:World}{id:Nat}(l:List Nat)(cs:List Nat)(S:World->World->Prop)(o : ∀ w,S w w)(p : ∀ a b c,S a b->S b c->S a c)(fG:List (Nat × Nat × List Nat))(x:P.follows .mixedOrders=true)(z:lX n ops=true)(B:Region.noSelect ops.toArray=true)(g:zQ ops l=true)(A:vX ops cs fG l=true)
 (h : ∀ j,Below w.heap.size w j->j.heap.size=w.heap.size->R P n ops cs S (fun e f w=>Q e f ds w) l f j) (y:ops.all jX=true:=by rfl):W0 ro m P n (.region id ops.toArray true) Q f ds w:=fun a q r=>by
 refine wpIn_region_any x ?_;unfold zQ at g;rw[S_,S_,S_,List.all_eq_true,List.all_eq_true]at g;obtain⟨⟨⟨C,D⟩,p3⟩,p4⟩:=g;have v:=B_ C;have E:l.Nodup:=h_ p3;have:=R.ahq (ro:=ro) (m:=m) (ds:=ds) (P:=P) (Q:=Q) (fG:=fG) z B y o p ops.length l (Array.replicate ops.length false) a f { w with drawn:=w.drawn+1 } v (by simp) (JO.start _ _ _) (fun i=>by
  have s : ∀ i,(Array.replicate ops.length false).getD i false=false:=fun i=>getD_replicate_false _ _;constructor
  ·intro d; exact⟨by simpa [Nat.blt_eq] using D i d,s i⟩
  ·intro d;obtain⟨k,t,u⟩:=List.any_eq_true.1 (p4 i (by simpa using d.1));rw[B_ u]; exact t) E (vY A) q r (h { w with drawn:=w.drawn+1 } (Below.refl _ _).drew rfl)
 simpa using this
end
end Fx
namespace Rgx
def Ph{b:Type}(J:b->World->Prop):Prop := ∀ s W a,J s W->W.grownBy a none->J s a
def adF{d:Type}(F:Fence)(n:Nat)(P:Program)(g:Nat)(lb:Array Value)(j:d->Array Value)(i:World->World->Prop)(S:List d->Prop)(N:Nat)(h:World->Prop):Prop :=
 ∀(l:Nat) (J:List d->World->Prop) (W:World),h W->Ph J ->
  (∀ c x b,J c b->c.length<N->YieldAt F (n-1) P l (j x) b fun e a=>e = .returned (.bool true)/\J (c ++ [x]) a/\i b a) ->
  J [] W ->
  CallsIn F n P g (#[.func (.yield l) #[] #[]]++lb) W fun e a=>(∃ v,e = .returned v) /\ ∃ f,S f/\J f a
def NG{c:Type}(B:Nat)(I:c->World->Prop):Prop :=
 ∀ s W a b,I s W->W.grownBy a b->(∀ r,b=some r->B<=r /\ ∃ o:Obj,W.heap[r]? = some o/\o.isCells=false)->I s a
variable {F:Fence} {n:Nat} {P:Program}
theorem NG.putObj{a:Type}{B:Nat}{I:a->World->Prop}(h:NG B I){s:a}{W:World}{l:Nat}{o:Obj}(o':Obj)(f:I s W)(b:B<=l)(c:W.heap[l]? = some o)(d:o.isCells=false):I s (W.putObj l o') :=
 h s W _ (some l) f (grownBy_putObj' W l o') (fun r e=>by cases e; exact⟨b,o,c,d⟩)
theorem NG.alloc{a:Type}{B:Nat}{I:a->World->Prop}(h:NG B I){s:a}{W:World}(o:Obj)(b:I s W):I s (W.alloc o) :=
 h s W _ none b (World.grownBy_alloc W o none) (fun r e=>by cases e)
def KeepsFrom(B:Nat)(W a:World):Prop:=W.heap.size<=a.heap.size /\ ∀ k,B<=k->k<W.heap.size->a.heap[k]? = W.heap[k]?
def ahs{a:Type}(B:Nat)(b:World->World->Prop)(I:List a->World->Prop)(c:List a)(W:World):Exit->Act->World->Prop
 | .normal,_,W'=>KeepsFrom B W W'/\b W W'/\I c W'
 | _,_,_=>False
theorem DY{α:Type}{g:Operand}{ps:Array Tmp}{assign body:Code}{Q:Exit->Act->World->Prop}{a:Act}{w:World}
 (hro:F.round=none) (h1:1<=n) {gf:Nat} {lb:Array Value} (hg:a.eval g = .func (.func gf) #[] lb) (hFg:F.fn gf) (eg : ∀ args w,(callFunc gf args).run P w = .ok (.enter gf args) w)
 {encs:α->Array Value} {Kp:World->World->Prop} {S:List α->Prop} {N:Nat} {Ip:World->Prop} (hseq:adF F (n-1) P gf lb encs Kp S N Ip)
 (hIp:Ip w) (MQ : ∀ W o,w.heap.size<=W.heap.size->Ip W->Ip (W.alloc o))
 (hKt : ∀ {A B C:World},Kp A B->Kp B C->Kp A C) (hKb : ∀(W:World) (l:Nat) (o o':Obj),w.heap.size<=l->W.heap[l]? = some o->o.isCells=false->Kp W (W.putObj l o')) (hps : ∀ x,(encs x).size=ps.size)
 (I:List α->World->Prop) (hI:NG w.heap.size I) (h0:I [] w) (A₁:α->Act->Prop)
 (hassign : ∀(l:Nat) (x:α) (W:World),assign.wpIn (F.inRound l) (n-1-1) P (Exit.then (fun a' W'=>A₁ x a'/\W'=W) (fun _ _ _=>False)) { tmps:=(ps.zip (encs x)).foldl (fun t (p,v)=>t.setIfInBounds p v) a.tmps,defers := [] } W)
 (hbody : ∀(l:Nat) (pre:List α) (x:α) (W:World) (a':Act),A₁ x a'->I pre W->pre.length<N->w.heap.size<=W.heap.size->body.wpIn (F.inRound l) (n-1-1) P (ahs w.heap.size Kp I (pre ++ [x]) W) a' W)
 (hdone : ∀(D:Nat) (xs:List α) (W:World),w.heap.size<=D->S xs->I xs W->W.heap[D]? = some (.deferred (some []))->Q .normal { a with defers := { target := .collected D,args := #[] }::a.defers } W) :
 (Code.rangeFunc g ps assign body).wpIn F n P Q a w:=by
 refine wpIn_rangeFunc ?_;intro fn hfn;rw[hro];obtain⟨rec,hrec⟩ : ∃ rec:LoopState->Option Code->Loop,rec=fun st pe => { state:=st,pending:=pe,fn,tmps:=a.tmps,params:=ps,assign,body,defers:=w.heap.size }:=⟨_,rfl⟩;obtain⟨W1,hW1⟩ : ∃ W1,(w.alloc (.deferred (some []))).alloc (.loop (rec .ready none))=W1:=⟨_,rfl⟩;have hL1:W1.heap[w.heap.size+1]? = some (.loop (rec .ready none)):=by
  rw[<- hW1]; have:=World.alloc_heap_new (w.alloc (.deferred (some []))) (.loop (rec .ready none)); rwa [World.size_alloc]at this
 have hK1:W1.heap[w.heap.size]? = some (.deferred (some [])):=by
  rw[<- hW1]; exact(Below.heap_alloc _ _ _ (by simp)).trans (World.alloc_heap_new w _)
 have hI1:I [] W1:=by rw[<- hW1]; exact hI.alloc _ (hI.alloc _ h0)
 have hp1:Ip W1:=by rw[<- hW1]; exact MQ _ _ (by simp) (MQ _ _ (A_ _) hIp)
 refine⟨w.heap.size+1,[{ target := .collected w.heap.size,args := #[] }],W1,{ target := .fn (.func gf) lb,args := #[.func (.yield (w.heap.size+1)) #[] #[]] },W1,gf,
  #[.func (.yield (w.heap.size+1)) #[] #[]]++lb,W1,?_,?_,?_,?_,fun _=>h1,?_⟩
 ·rw[<- hW1,hrec]; exact run_enterLoop_outer _ _ _ _ _
 ·simp only[resolve,hg];simp[go_sem]
 ·intro f' hf'; simp[Target.leads]at hf'; subst hf'; exact hFg
 ·simp[invoke,go_sem,eg]
 refine(hseq (w.heap.size+1)
  (fun pre W=>I pre W/\W.heap[w.heap.size+1]? = some (.loop (rec .ready none))/\W.heap[w.heap.size]? = some (.deferred (some [])))
  W1 hp1
  (fun s A B hs hg'=>⟨hI s A B none hs.1 hg' (fun r e=>nomatch e),(hg'.block _ (t_.1 hs.2.1).1 (fun e=>nomatch e)).trans hs.2.1,(hg'.block _ (t_.1 hs.2.2).1 (fun e=>nomatch e)).trans hs.2.2⟩)
  ?_ ⟨hI1,hL1,hK1⟩).mono ?_
 ·-- one round
  rintro pre x W ⟨hi,hl,hk⟩ hlen;have hlt:w.heap.size+1<W.heap.size:=(t_.1 hl).1;have hy:=run_yield (P:=P) (args:=encs x) hl (by rw[hrec]; exact hps x);rw[hrec]at hy;refine⟨fn,_,assign,body,hy,roundIn_of_wpIn hfn (wpIn_mono (hassign _ x W) ?_)⟩;rintro e1 a1 w1 hq1
  cases e1 with
  | exit id=>exact hq1.elim
  | goto t=>exact hq1.elim
  | ret=>exact hq1.elim
  | panic ch=>exact hq1.elim
  | outgrown=>exact hq1.elim
  | normal =>
  obtain⟨hA1,ew⟩:=hq1;rw[ew];refine⟨_,run_beginRound hl (by rw[hrec]),?_⟩;have hl2:(W.putObj (w.heap.size+1) (.loop { rec .ready none with state := .busy })).heap[w.heap.size+1]? = some (.loop { rec .ready none with state := .busy }):=World.putObj_heap_same hlt;have hk2:(W.putObj (w.heap.size+1) (.loop { rec .ready none with state := .busy })).heap[w.heap.size]? = some (.deferred (some [])):=(World.putObj_heap_other (by omega)).trans hk;have hw2:Kp W (W.putObj (w.heap.size+1) (.loop { rec .ready none with state := .busy })):=hKb _ _ _ _ (by omega) hl rfl;refine wpIn_mono (hbody _ pre x _ a1 hA1 (hI.putObj _ hi (by omega) hl rfl) hlen (by simp; omega)) ?_;rintro e a3 W3 hp
  cases e with
  | normal =>
    obtain⟨hk3,hkp3,hi3⟩:=hp;have hl3:=(hk3.2 _ (by omega) (t_.1 hl2).1).trans hl2;have aop:=(hk3.2 _ (by omega) (t_.1 hk2).1).trans hk2;have hr:=run_endRound (P:=P) none hl3;rw[hrec]at hr hl3;refine⟨_,_,hr,rfl,⟨hI.putObj _ hi3 (by omega) hl3 rfl,?_,(World.putObj_heap_other (by omega)).trans aop⟩,hKt (hKt hw2 hkp3) (hKb _ _ _ _ (by omega) hl3 rfl)⟩;rw[hrec]; exact World.putObj_heap_same (t_.1 hl3).1
  | ret=>exact hp.elim
  | exit id=>exact hp.elim
  | goto t=>exact hp.elim
  | panic ch=>exact hp.elim
  | outgrown=>exact hp.elim
 rintro e W2 ⟨⟨v,rfl⟩,xs,hS,hi,hl,hk⟩;exact⟨none,_,by have:=run_endLoop (P:=P) hl (by rw[hrec]; simp); rw[hrec]at this; exact this,hdone _ xs _ (A_ _) hS (hI.putObj _ hi (by omega) hl rfl) ((World.putObj_heap_other (by omega)).trans hk)⟩
end Rgx
namespace Fx
theorem Ll{a:Act}{n p q:Nat}{u v:Value}{f:Nat->Value}(h:Aw a n f)(c:p<n)(g:q<n):Aw { tmps:=(#[p,q].zip #[u,v]).foldl (fun t (p,v)=>t.setIfInBounds p v) a.tmps,defers := [] } n (put (put f (some p) u) (some q) v):=by
 have b:=(h.put (d:=some p) (by simpa [inn,Nat.blt_eq] using c) u).put (d:=some q) (by simpa [inn,Nat.blt_eq] using g) v;have e:(#[p,q].zip #[u,v]).foldl (fun t (p,v)=>t.setIfInBounds p v) a.tmps=((a.put (some p) u).put (some q) v).tmps:=by simp[Array.zip,Act.put]
 rw[e]; exact⟨b.size,b.get⟩
theorem W0.adG{P:Program}{n m:Nat}{Q:yE}{f:Nat->Value}{ds:List Deferred}{w:World}{c:Type}{g:Operand}{p q:Tmp}{E G:Code}{gf:Nat}{lb:Array Value}(h1:1<=m)(hg:ev f g = .func (.func gf) #[] lb)(J : ∀ z w,(callFunc gf z).run P w = .ok (.enter gf z) w)
 {eu ev2:c->Value} {d:World->World->Prop} {S:List c->Prop} {N:Nat} {s:World->Prop} (hseq:Rgx.adF (FR none) (m-1) P gf lb (fun x => #[eu x,ev2 x]) d S N s)
 (R:s w) (T : ∀ W o,w.heap.size<=W.heap.size->s W->s (W.alloc o)) (V : ∀ {A B C:World},d A B->d B C->d A C) (U : ∀(W:World) (l:Nat) (o o':Obj),w.heap.size<=l->W.heap[l]? = some o->o.isCells=false->d W (W.putObj l o')) (hp:p<n) (hq:q<n)
 (I:List c->World->Prop) (O:Rgx.NG w.heap.size I) (L:I [] w) (A:c->(Nat->Value)->Prop)
 (X : ∀(l:Nat) (x:c) (W:World),W0 (some l) (m-1-1) P n E (fun e b H h=>e = .normal/\H = []/\A x b/\h=W) (put (put f (some p) (eu x)) (some q) (ev2 x)) [] W)
 (Y : ∀(l:Nat) (r:List c) (x:c) (W:World) (b:Nat->Value),A x b->I r W->r.length<N->w.heap.size<=W.heap.size->W0 (some l) (m-1-1) P n G (fun e K H h=>e = .normal/\Rgx.KeepsFrom w.heap.size W h/\d W h/\I (r ++ [x]) h) b [] W)
 (aa : ∀(D:Nat) (u:List c) (W:World),w.heap.size<=D->S u->I u W->W.heap[D]? = some (.deferred (some []))->Q .normal f ({ target := .collected D,args := #[] }::ds) W):W0 none m P n (.rangeFunc g #[p,q] E G) Q f ds w:=fun a t Z=>by
 refine Rgx.DY (F:=FR none) rfl h1 (by rw[t.ev]; exact hg) trivial J hseq R T V U (fun _=>rfl) I O L (fun x i => ∃ b,Aw i n b/\i.defers = []/\A x b) ?_ ?_ ?_
 ·intro l x W;refine wpIn_mono (X l x W _ (Ll t hp hq) rfl) ?_;rintro e i w' ⟨b,y,rfl,j,k,rfl⟩;exact⟨⟨b,y,j,k⟩,rfl⟩
 ·rintro l r x W i ⟨b,y,j,k⟩ hi hl hs;refine wpIn_mono (Y l r x W b k hi hl hs i y j) ?_;rintro e a'' w' ⟨K,avB,rfl,v⟩;exact v
 ·intro D u W j k v M;refine⟨f,⟨t.size,t.get⟩,?_⟩;show Q .normal f (_::a.defers) W;rw[Z]; exact aa D u W j k v M
end Fx
end Go.Proofs.YtcbedgfikejkoaaGreatDoor
namespace Go.Proofs.YtcbedgfikejkoaaGreatDoor
open Go.RowKit Rt
open Fx (fE eT bC dR Lv sN Ln Ws Wl Wr Sb Wk rV Rs Rn Wb Wx Wo gP mW tZ aR Stp Mp iO mY dG bR bZ cu gL ig)
namespace Rt
structure Pj(sb:Nat)(v:Value)(W W':World):Prop where
 size:W.heap.size<=W'.heap.size
 b:W'.heap[sb]? = W.heap[sb]?
 g : ∀ g,v.ownBlock=some g->W'.heap[g]? = W.heap[g]?
theorem Pj.trans{a:Nat}{v:Value}{A B C:World}(h:Pj a v A B)(k:Pj a v B C):Pj a v A C:=⟨m_ h.size k.size,k.b.trans h.b,fun g c=>(k.g g c).trans (h.g g c)⟩
theorem Pj.put{a B:Nat}{v:Value}(e:a<B)(c : ∀ g,v.ownBlock=some g->g<B)(W:World)(l:Nat)(o o':Obj)(d:B<=l):Pj a v W (W.putObj l o'):=⟨by simp,World.putObj_heap_other (by omega),fun g b=>World.putObj_heap_other (by have:=c g b; omega)⟩
theorem Pj.BP{a b:Nat}{v:Value}{W c:World}(h:Stp b W c)(h1:a<W.heap.size)(f:a≠b)(e : ∀ g,v.ownBlock=some g->g<W.heap.size/\g≠b):Pj a v W c:=⟨h.size,h.block a h1 f,fun g d=>h.block g (e g d).1 (e g d).2⟩
theorem adH{q n c s:Nat}{a:Option Addr}{x:Nat->Value}{W d:World}(l:mY W a n s x)(r:0<s)(k:Pj q (.slice a n c) W d):mY d a n s x:=fun h=>by
 obtain⟨b,p,e,m⟩:=l h;refine⟨b,p,e,fun i o => ?_⟩;have f:=m i o;have j:=k.g b (by rw[e]; rfl);unfold World.cell? at f ⊢;rw[j]; exact f
def BwP(b:Nat)(a:Option Addr)(n c:Nat)(l:List Int)(W:World):Prop:=aR W b 1 (fun _ => .slice a n c) 53/\mY W a n 1 (xO l)
theorem BwP.alloc{f n c:Nat}{a:Option Addr}{l:List Int}{W:World}(h:BwP f a n c l W)(o:Obj):BwP f a n c l (W.alloc o) :=
 ⟨(Below.heap_alloc W o f h.1.lt).trans h.1,fun g=>by
   obtain⟨b,p,e,k⟩:=h.2 g;refine⟨b,p,e,fun i m => ?_⟩;have d:=k i m;have j:=Below.heap_alloc W o b (block_lt_of_cell d);unfold World.cell? at d ⊢;rw[j]; exact d⟩
theorem Vq{h f B:Nat}{c:World}{F:List Nat->dN}(h1:h<c.heap.size)(j:f<c.heap.size):Rgx.NG c.heap.size (fun(n:List Nat) W=>sj W B h f (F n)/\Stp f c W):=fun s W i o a b m=>by
 have g : ∀ k,k<c.heap.size->i.heap[k]? = W.heap[k]? := fun k d=>b.block k (n_ d a.2.size) fun e=>by
  have:=(m k e.symm).1; omega
 exact⟨sj.keep a.1 (g h h1) (g f j),⟨b.os.trans a.2.os,b.tape.trans a.2.tape,b.output.trans a.2.output,m_ a.2.size b.size,fun k d l=>(g k d).trans (a.2.block k d l)⟩⟩
theorem YF{w:World}{B E s n b m:Nat}{v:Value}{x:Nat->Value}{k:Nat->Int}{y:Nat->Value}(a:Fx.Own w B E s v n x)(d:Mp w b m k y){g:Nat}(c:v.ownBlock=some g):g<w.heap.size/\g≠b:=⟨(a.ge c).2,fun e=>d.rU (by rw[<- e]; exact a.ty c)⟩
theorem adI{T:dN}{k:Int}(h : ∀ i,i<T.n->T.x i≠k):T.par k=0:=by
 have : ∀ n,(∀ i,i<n->T.x i≠k)->iH T.x T.p n k=0:=fun n=>by
  induction n with
  | zero=>exact fun _=>rfl
  | succ n ih=>exact fun h=>by unfold iH; rw[b_ (h n (by omega))]; exact ih fun i a=>h i (by omega)
 exact this _ h
structure JB(J:List Nat->World->Prop)(pre:List Nat)(w:World):Prop where
 ab:Rgx.Ph J
 j:J pre w
end Rt
theorem aor(a:Option Addr)(n c:Nat)(w:World) :
 Calls Tryz.prog 230 #[.slice a (n) (c)] w fun e w' => ∃ d,e = .returned (.func (.func 241) #[] #[(pt d)])/\w.heap.size<=d/\aR w' d 1 (fun _ => .slice a n c) 53/\Below w.heap.size w w':=by
 refine Kent Tryz.func230 4 ?_;refine ay<|xV (.slice a (n) (c)) fun b l h f j m => ?_;have g:=bE j.old (Below.refl w.heap.size w);have i:=gT h;have k:=f.lt;refine av (.nilFunc)<|aD<|ay<|Lv (.func (.func 241) #[] #[(pt b)]) (Fx.mX (us := []) (vs := [(pt b)]) rfl rfl rfl)<|av (.func (.func 241) #[] #[(pt b)])<|aD<|Wr<|aJ (.func (.func 241) #[] #[(pt b)]) ?_;exact⟨b,rfl,i,f,g⟩
theorem aht(J:List Nat->World->Prop)(h d c:Nat)(a:Option Addr)(l:List Int)(w:World)(o:aR w d 1 (fun _ => .slice a (l.length) (c)) 53)(I:mY w a l.length 1 (xO l))(n:JB J [] w)(U:l.length<=1000)
 (L : ∀ r x m,J r m->r.length<l.length->Go.YieldAt (Fx.FR none) 1 Tryz.prog h #[au (x:Nat),aC (l.getD x 0)] m fun e y=>e = .returned (.bool true)/\J (r ++ [x]) y/\Pj d (.slice a l.length c) m y) :
  Calls Tryz.prog 241 #[.func (.yield h) #[] #[],(pt d)] w fun e w'=>(∃ v,e = .returned v) /\ ∃ F,F=Gn l.length l.length/\J F w':=by
 have V:=o.lt;have n:JB J (Gn l.length (l.length-l.length)) w:=by rw[Nat.sub_self]; exact n
 refine Kent Tryz.func241 19 ?_;refine ay<|Lv (.slice a (l.length) (c)) (aM o.aH 0)<|av (au l.length)<|Lv (au ((l.length:Int)-1)) gD<|av (au ((l.length:Int)-1))<|aD<|Wb<|Wo (fun f u => ∃ k:Nat,k<=l.length/\f 0 = .func (.yield h) #[] #[]/\f 1=(pt d)/\f 3=au ((k:Int)-1)/\aR u d 1 (fun _ => .slice a (l.length) (c)) 53/\mY u a l.length 1 (xO l)/\JB J (Gn l.length (l.length-k)) u) (fun f _=>(intOf (f 3)+1).toNat) ⟨l.length,(A_ _),(by rfl),(by rfl),Fx.ic,o,I,n⟩ ?_;rintro S X ⟨k,T,A,B,g,D,E,p⟩;refine Ws<|ay<|bf g ?_;by_cases z:0<=((k:Int)-1)
 ·refine Lv aG (kP z)<|aD<|aO<|Wk<|sN<|Ws<|Wb<|Ws<|Fx.W.ZW 2<|Fx.Ly.v (.func (.yield h) #[] #[]) (fE rfl A) ?_;refine Fx.Ly.v (au ((k:Int)-1)) (fE rfl g) ?_;refine Fx.Ly.v (.slice a (l.length) (c)) (bC (x:=fun _ => .slice a (l.length) (c)) rfl B (by kernel_rfl) D.aH (i:=0) (by omega) (by omega) rfl) ?_;refine Fx.Ly.v (au ((k:Int)-1)) (fE rfl g) ?_;obtain⟨G,Q,H,M⟩:=E (by omega);refine Fx.Ly.v (pf G (k+Q-1)) (dR rfl (rfl.trans (L_ (fun q=>Value.slice q (l.length) (c)) H)) rfl Tryz.underlying53 (s:=1) (by kernel_rfl) (by omega) (by omega) (by omega)) ?_;refine Fx.Ly.v (aC (l.getD (k-1) 0)) (bC (x:=xO l) rfl rfl (by kernel_rfl) M (i:=k-1) (by omega) (by omega) rfl) ?_;refine Fx.Ly.yield (l:=h) (args := [au ((k:Int)-1),aC (l.getD (k-1) 0)]) rfl rfl rfl (Fx.args2 rfl rfl) rfl (by have:=L (Gn l.length (l.length-k)) (k-1) _ p.j (by rw[Pg]; omega); rw[show((k-1:Nat):Int)=(k:Int)-1 by omega]at this; exact this) ?_;rintro R t ⟨rfl,K,C⟩;refine⟨.bool true,rfl,?_⟩;have N:aR t d 1 (fun _ => .slice a (l.length) (c)) 53:=C.b.trans D;have O:mY t a l.length 1 (xO l):=adH E (by decide) C;have P:JB J (Gn l.length (l.length-(k-1))) t:=⟨p.ab,by rw[show l.length-(k-1)=(l.length-k)+1 by omega]; unfold Gn; rw[show l.length-1-(l.length-k)=k-1 by omega]; exact K⟩;refine Fx.Ly.v (.bool false) (Fx.RL rfl rfl) ?_;refine Fx.Ly.nil ?_;refine sN<|aK<|Wk<|bR<|sN<|Wl<|bf g<|Lv (au ((k:Int)-2)) gD<|av (au ((k:Int)-2))<|Ln<|ig ⟨k-1,(by omega),A,B,Fx.ic,N,O,P⟩ ?_;show(intOf (au ((k:Int)-2))+1).toNat<_;simp only[g,intOf]; omega
 refine Lv aF (kr z) (aD (aK (Wx (bZ (gL (cu (⟨.tuple #[],iO Tryz.results241,?_⟩)))))));exact⟨⟨_,rfl⟩,_,rfl,by have:=p.j; rw[show l.length-k=l.length by omega]at this; exact this⟩
theorem adJ(b c:Nat)(a:Option Addr)(l:List Int)(i:l.length<=1000) :
 Rgx.adF (Fx.FR none) 2 Tryz.prog 241 #[(pt b)] (fun x:Nat => #[au (x:Int),aC (l.getD x 0)]) (Pj b (.slice a l.length c)) (fun k=>k=Gn l.length l.length) l.length (BwP b a l.length c l) :=
 fun j J W ⟨h,e⟩ g f d=>callsIn_wide.2 (aht J j b c a l W h e ⟨g,d⟩ i f)
namespace Rt
theorem Pk{l:List Int}{T:dN}(b:T.ok)(h : ∀ k,k∈l->T.has k=true)(x:Nat):0<=l.getD x 0/\l.getD x 0<=18446744073709551615:=by
 by_cases a:x<l.length
 ·have d:l.getD x 0∈l:=by rw[r_,o_ a]; exact Q_ a
  obtain⟨i,c,e⟩:=gU (h _ d);rw[<- e]; exact Vl b c
 rw[r_,List.getElem?_eq_none (by omega)]; decide
theorem Pm{l:List Int}{T:dN}{pa:Int}(a:T.ok)(e:l=T.path pa)(x:Nat):0<=l.getD x 0/\l.getD x 0<=18446744073709551615:=Pk a (fun k d=>by
 obtain⟨i,b,c⟩:=List.getElem_of_mem d;have:=dN.NC a e b;rw[r_,o_ b]at this;rw[<- c]; exact this) x
theorem YG{l:List Int}{T:dN}(a:T.ok)(h : ∀ k,k∈l<->T.has k=true)(x:Nat):0<=l.getD x 0/\l.getD x 0<=18446744073709551615:=Pk a (fun k b=>(h k).1 b) x
end Rt
theorem adK(m:dO)(lp B:Nat)(w:World)(h:lN w B lp m)(id pa:Int)(hid:0<=id/\id<=18446744073709551615) :
 Calls Tryz.prog 215 #[(pt lp),aC id,aC pa] w fun e w'=>e = .returned (au (m.T.err id pa))/\Below w.heap.size w w':=by
 have hC:=h.c;have hT:=h.t;have hP:=h.p;have hR:=h.r;have hG:=h.g;have hA:=h.a;have hN:=h.ne;have lC:=h.c.lt;have lT:=h.t.lt;have lP:=h.p.lt;have lR:=h.r.lt;have lG:=h.g.lt;have lA:=h.a.lt;refine Fx.adE 3 Tryz.func215 rfl (n:=55) rfl (by rfl) ?_;refine Fx.W0.seq<|Fx.W0.list<|xV (pt lp) fun g1 w1 mo m1 s1 z1 => ?_;have⟨m2,m3,m4,m5,m6,m7,b1⟩:=jR s1.old hC hT hP hR hG hA (Below.refl w.heap.size w);have sM:=gT mo;have⟨nG,yD,xC,Bq,zL⟩:=zS mo hC.lt hP.lt hR.lt hG.lt hA.lt;have ug:=m1.lt;refine av (au 0)<|Ln<|Fx.qN<|Fx.W0.seq<|Fx.W0.list<|mh (aag _) ?_;rintro e9 w2 ⟨v,j,u,hg1,m8,hb1⟩;refine⟨_,u,?_⟩;clear u;have nem.asC:m.mb≠j:=u_ (n_ m3.lt hg1);have⟨m9,m10,m11,m12,m13,m14,m15,b2⟩:=ny hb1 m2 m3 m4 m5 m6 m7 m1 b1;have m16:sj w2 (w.heap.size) v j dN.zero:=m8.weak b1.size;clear m8 hg1;refine rR 1 (fun _ => .pointer none) fun L w3 AA m17 s3 z2 => ?_;have⟨m18,m19,m24,mQ,b3⟩:=qU s3.old m9 m10 m15 m16 b2;have ru:=iQ AA b2.size;have⟨adL,aos,aot,aou,aov,aow⟩:=IZ AA m9.lt m11.lt m12.lt m13.lt m14.lt m15.lt;have zK:=m17.lt;refine jg m17 0 (pt v) fun w4 nH s4 z3 => ?_;have oq:aR w4 L 1 (fun _=>(pt v)) 107:=dG nH;have gV:=gP s4 m17.ty;have⟨oL,oM,nV,qC⟩:=Kg gV m18 m19 m24 mQ;have b4:=s4.below b3 b3.size (by omega);refine Ln<|Fx.qN<|Fx.W0.seq<|Fx.W0.list<|Lv (pt lp) (aM nV.aH 0)<|av (pt lp)<|av (pf lp 18)<|Lv (pt m.tp) (aM oL.aH 18)<|av (aC pa)<|mh (I9 pa oM) ?_;rintro e9 w5 ⟨F,G,u,oN,hb2⟩;refine⟨_,u,?_⟩;clear u;have⟨nK,rY,qK,b5⟩:=kV hb2 nV qC oq b4;obtain⟨l,J⟩ : ∃ q,q=dN.path m.T pa:=⟨_,rfl⟩;rw[<- J]at oN ⊢;have hl4:l.length<=4:=by rw[J]; exact dN.yX
 refine av (.slice F (l.length) (G))<|Ln<|Fx.qN<|Fx.W0.seq<|Fx.W0.seq<|Fx.W0.list<|av (.slice F (l.length) (G))<|mh (aor F l.length G _) ?_;rintro e9 w6 ⟨sb1,u,hg2,oO,hb3⟩;refine⟨_,u,?_⟩;clear u;have⟨uJ,E,xY,uK,U⟩:=qU hb3 nK rY qK oN b5;refine Ln<|Fx.qN<|Fx.W0.block ?_;have ahu:g1≠j:=E.map.ne uJ.ty;have avC:=uJ.lt;have ahv:L≠j:=E.map.ne xY.ty;have avD:=xY.lt;have aau:sb1≠j:=E.map.ne oO.ty;have ahw:=oO.lt;have hgm:=E.gm;have ltm:=E.lt;have ltt:=E.blk.lt;have K : ∀ g,(.slice F (l.length) (G):Value).ownBlock=some g->g<w6.heap.size/\g≠j:=fun g y=>YF uK E.map y;refine Fx.W0.adG (gf:=241) (lb := #[(pt sb1)]) (eu:=fun x:Nat=>au (x:Int)) (ev2:=fun x=>aC (l.getD x 0)) (by decide) rfl (fun args w=>jZ Tryz.func241 (by kernel_rfl) rfl args w) (adJ sb1 G F l (by omega)) ⟨oO,Fx.abZ uK⟩ (fun W o _ hi=>hi.alloc o) (fun h k=>h.trans k) (fun W l o o' J _ _=>Pj.put ahw (fun g y=>(K g y).1) W l o o' J) (by decide) (by decide) (fun xs W=>sj W (w.heap.size) v j (Mr m.T l xs)/\Stp j w6 W) (Vq ltt ltm) ⟨E,mW _ _⟩ (fun x f=>f 3=(pt g1)/\f 7=(pt L)/\f 10=aC (l.getD x 0)) ?_ ?_ ?_
 ·intro ly x W;exact Fx.W0.list (Lv (aC (l.getD x 0)) (eT rfl rfl) (Ln ⟨rfl,rfl,⟨rfl,rfl,rfl⟩,rfl⟩))
 ·rintro ly pre x W f9 ⟨q3,q7,q10⟩ ⟨hT2,s⟩ hpl hWs;have H:Below w.heap.size w W:=s.below U U.size hgm;have C:=h.up H;have hPW:=C.p;have M:=C.c;have N:=C.t;have Q:=uJ.cO s ahu;have ahx:=Q.lt;have R:=xY.cO s ahv;have ahy:=R.lt;have lWm:j<W.heap.size:=n_ ltm s.size;have lWt:w6.heap.size<=W.heap.size:=s.size;have lCW:=M.lt;have lPW:=hPW.lt;have lTW:=N.lt;have lh0:=h.t.lt;have lh1:=h.p.lt;refine Fx.W0.block ?_;refine Fx.W0.ahr [1,6,0,2,3,4,5,7,8] [4,0,4,0,0,4,0,4,3] Fx.Mk tZ Fx.Mk.trans (fG := [(8,0,[0]),(8,2,[7,5,4,3,2]),(8,5,[7,5]),(8,7,[7])]) (by kernel_rfl) (by kernel_rfl) (by kernel_rfl) (by kernel_rfl) (by kernel_rfl) fun qA dP iE => ?_;have s7:Stp W.heap.size W qA:=Sb dP;have⟨sU,tN,xZ,qZ,vN,oD⟩:=rT dP M hPW N Q R hT2;have b7:=(mW j W).then s7 (.inr (mW j W).size);refine bW q10<|bW q10<|Rs (pt v) (aM vN.aH 0 (ha:=q7)) ?_;refine Rs (pt lp) (aM qZ.aH 0 (ha:=q3)) ?_;refine aY (pt lp)<|aY (pf lp 19)<|Rs (.map (some m.pb)) (aM sU.aH 19) ?_
  rcases Fx.rW m.T.x m.T.n (l.getD x 0)with ⟨Vr,Dm,Dn⟩|jF
  ·refine Rs (aC (m.T.p Vr)) (Fx.wm (z:=aC 0) rfl rfl rfl tN Tryz.underlying108 Tryz.underlying23 (by rfl) Dm Dn rfl) ?_;refine gQ<|dJ (KD (l.getD x 0) (m.T.p Vr) oD (Pm h.t.inv J x)) _ rfl ?_;rintro w7 ⟨uj,s8⟩;have O:=oD.BN s8;have m64:=sU.dX O;have xG:=tN.dX O (by omega);have xu:=xZ.dX O (by omega);have vO:=qZ.dX O;have xH:=vN.dX O;have V:=b7.then s8 (.inl rfl);refine Ln<|Rn<|Fx.Lj ?_;have ep:m.T.par (l.getD x 0)=m.T.p Vr:=AQ C.t.inv.inj Dm Dn;refine⟨rfl,⟨V.size,fun q hq hq2=>V.block q hq2 (by omega)⟩,Pj.BP V (by omega) aau (fun g y=>⟨n_ (K g y).1 lWt,(K g y).2⟩),?_,s.then V (.inl rfl)⟩;rw[FM,ep]; exact uj
  refine Rs (aC 0) (Fx.Ov (z:=aC 0) rfl rfl rfl tN Tryz.underlying108 Tryz.underlying23 (by rfl) jF) ?_;refine gQ<|dJ (KD (l.getD x 0) 0 oD (Pm h.t.inv J x)) _ rfl ?_;rintro w8 ⟨sV,s9⟩;have P:=oD.BN s9;have vP:=sU.dX P;have uT:=tN.dX P (by omega);have vQ:=xZ.dX P (by omega);have vR:=qZ.dX P;have zJ:=vN.dX P;have X:=b7.then s9 (.inl rfl);refine Ln<|Rn<|Fx.Lj ?_;have ep:m.T.par (l.getD x 0)=0:=adI jF;refine⟨rfl,⟨X.size,fun q hq hq2=>X.block q hq2 (by omega)⟩,Pj.BP X (by omega) aau (fun g y=>⟨n_ (K g y).1 lWt,(K g y).2⟩),?_,s.then X (.inl rfl)⟩;rw[FM,ep]; exact sV
 rintro D xs W hD rfl ⟨hT2,s⟩ hK;have H:Below w.heap.size w W:=s.below U U.size hgm;have C:=h.up H;have hPW:=C.p;have M:=C.c;have N:=C.t;have Q:=uJ.cO s ahu;have ahx:=Q.lt;have R:=xY.cO s ahv;have ahy:=R.lt;have lWm:j<W.heap.size:=n_ ltm s.size;have lWt:w6.heap.size<=W.heap.size:=s.size;have lCW:=M.lt;have lPW:=hPW.lt;have lTW:=N.lt;have lh0:=h.t.lt;have lh1:=h.p.lt;have lDW:=(t_.1 hK).1;have oW:=uK.cO s (fun e=>(K _ e).2 rfl);refine Fx.Lj<|Fx.qN<|Fx.W0.seq<|Fx.W0.seq<|Fx.W0.list<|Lv (pt lp) (aM Q.aH 0) ?_;refine av (pt lp)<|av (pf lp 18)<|Lv (pt m.tp) (aM M.aH 18)<|mh (TI N) ?_;rintro e9 w9 ⟨la1,A,d,u,xw,hq1,ahz,hb4⟩;refine⟨_,u,?_⟩;clear u;have s10:=Sb hb4;have⟨wE,wF,yc⟩:=iy hb4 R hT2 oW;have b10:=(mW j W).then s10 (.inr (mW j W).size);refine av (au d.length)<|av (au 0)<|Ln<|Fx.qN<|Fx.W0.block<|Fx.W0.loop (fun f S => ∃ i:Nat,i<=d.length/\f 1=aC id/\f 2=aC pa/\f 7=(pt L)/\f 8 = .slice F (l.length) (G)/\f 37 = .slice la1 (d.length) (A)/\f 38=au (d.length:Int)/\f 39=au (i:Int)/\aR S L 1 (fun _=>(pt v)) 107/\sj S (w.heap.size) v j (lJ l d (Mr m.T l (Gn l.length l.length)) i)/\Fx.Own S W.heap.size 23 1 (.slice la1 (d.length) (A)) d.length (xO d)/\Fx.Own S w4.heap.size 23 1 (.slice F (l.length) (G)) l.length (xO l)/\Stp j W S) (fun f _=>((d.length:Int)-intOf (f 39)).toNat) ⟨0,(by omega),Fx.ic,Fx.ic,(by rfl),(by rfl),(by rfl),Fx.ic,Fx.ic,wE,wF,xw,yc,b10⟩ ?_;rintro f1 sO ⟨i,hi,h1,h2,h3,h4,h5,h6,I,zW,yg,AZ,Ay,b11⟩;refine Fx.W0.seq<|Fx.W0.list ?_;by_cases c40:(i:Int)<(d.length:Int)
 ·refine Lv aG (iq c40 (hx:=I) (hy:=h6)) (Ln (Fx.qN (Fx.W0.seq (Fx.W0.cond (b:=true) rfl (fun _=>Fx.W0.skip (Fx.qN (Fx.W0.seq (Fx.W0.block (Fx.W0.seq (Fx.W0.list ?_)))))) (fun h=>nomatch h)))));obtain⟨Gm,Z⟩:=AZ.addr (by omega);have Az:Fx.Own sO W.heap.size 23 1 (bO Gm d.length A) d.length (xO d):=AZ.fH (L_ (fun q=>Value.slice q d.length A) Z);refine Lv (pf Gm i) (dh 1 (hx:=(h5.trans (L_ (fun q=>Value.slice q (d.length) (A)) Z))) (hi:=I))<|Lv (aC (d.getD i 0)) (aM Az.aH i)<|av (aC (d.getD i 0))<|Ln<|Fx.qN<|Fx.W0.seq<|Fx.W0.list<|bf h4<|av (aC (d.getD i 0))<|dJ (akR l (d.getD i 0) _ _ _ _ Ay (by omega)) (ax := #[.slice F (l.length) (G),aC (d.getD i 0)]) _ rfl ?_;intro Gi hb5;have s11:=Sb hb5;have⟨zX,zY,A8,ET⟩:=kV hb5 zW yg Ay Az;have b12:=b11.then s11 (.inr b11.size);by_cases Y:d.getD i 0∈l
  ·skip
   refine Lv aF (Fx.RL rfl (L_ Value.bool (f_ Y)))<|Ln<|Fx.qN<|Fx.W0.cond (b:=false) rfl (fun h=>nomatch h)<|fun _=>Fx.W0.skip<|Fx.Lj<|Fx.qN<|Fx.W0.list<|Lv (au ((i:Int)+1)) (fC (hx:=I))<|av (au ((i:Int)+1))<|Ln ?_;have DT:Fx.Own Gi W.heap.size 23 1 (.slice la1 (d.length) (A)) d.length (xO d):=ET.fH (L_ (fun q=>Value.slice q d.length A) Z.symm);have Ce:sj Gi (w.heap.size) v j (lJ l d (Mr m.T l (Gn l.length l.length)) (i+1)):=by unfold lJ; rw[d_ Y]; exact zY
   skip
   refine Fx.ahp ⟨i+1,(by omega),(h1.trans Fx.ic),(h2.trans Fx.ic),h3,h4,h5,(h6.trans Fx.ic),Fx.ic,zX,Ce,DT,A8,b12⟩ ?_;show((d.length:Int)-intOf (au ((i:Int)+1))).toNat<_;simp only[I,intOf]; omega
  skip
  refine Lv aG (Fx.aaO rfl (L_ Value.bool (g_ Y))) (Ln (Fx.qN (Fx.W0.cond (b:=true) rfl (fun _=>Fx.W0.list (Lv (pt v) (aM zX.aH 0 (ha:=h3)) ?_)) (fun h=>nomatch h))));refine av (aC (d.getD i 0))<|dJ (KD (d.getD i 0) 0 zY (YG h.t.inv hq1.2 i)) _ rfl ?_;rintro BR ⟨Dc,s12⟩;have adM:=zY.BN s12;have Ae:=zX.dX adM;have Gj:=A8.dX adM;have Ef:=ET.dX adM;have b13:=b12.then s12 (.inl rfl);refine Ln<|Fx.Lj<|Fx.qN<|Fx.W0.list<|Lv (au ((i:Int)+1)) (fC (hx:=I))<|av (au ((i:Int)+1))<|Ln ?_;have Gl:Fx.Own BR W.heap.size 23 1 (.slice la1 (d.length) (A)) d.length (xO d):=Ef.fH (L_ (fun q=>Value.slice q d.length A) Z.symm);have Gu:sj BR (w.heap.size) v j (lJ l d (Mr m.T l (Gn l.length l.length)) (i+1)):=by unfold lJ; rw[b_ Y]; exact Dc
  skip
  refine Fx.ahp ⟨i+1,(by omega),(h1.trans Fx.ic),(h2.trans Fx.ic),h3,h4,h5,(h6.trans Fx.ic),Fx.ic,Ae,Gu,Gl,Gj,b13⟩ ?_;show((d.length:Int)-intOf (au ((i:Int)+1))).toNat<_;simp only[I,intOf]; omega
 refine Lv aF (iw c40 (hx:=I) (hy:=h6))<|Ln<|Fx.qN<|Fx.W0.seq<|Fx.W0.cond (b:=false) rfl (fun h=>nomatch h)<|fun _=>Fx.W0.exit<|Fx.ahn<|Fx.aoo<|Fx.aho<|Fx.qN<|Fx.W0.seq ?_;have hil:i=d.length:=by omega
 refine Fx.W0.list<|Lv (pt v) (aM zW.aH 0 (ha:=h3)) ?_;refine bf h1<|bf h2<|dJ (KD id pa yg hid) _ rfl ?_;rintro Gt ⟨wN,s13⟩;have adN:=yg.BN s13;have yj:=zW.dX adN;have wO:=AZ.dX adN;have uo:=Ay.dX adN;have b14:=b11.then s13 (.inl rfl);refine av (au (dN.err (lJ l d (Mr m.T l (Gn l.length l.length)) i) id pa))<|Ln<|Fx.qN<|Fx.W0.ret ?_;have hKD:=(b14.block D lDW (by omega)).trans hK;have eD:dN.err (lJ l d (Mr m.T l (Gn l.length l.length)) d.length) id pa=m.T.err id pa:=YE h.t.inv J hq1;refine Fx.leaveD hKD (rV Tryz.results215 (show Fx.Gq Tryz.prog _ _ (.tmp 6) (au (dN.err (lJ l d (Mr m.T l (Gn l.length l.length)) i) id pa))from rfl)) ⟨by rw[hil,eD],?_⟩;exact(b14.below H H.size hgm).grown (grownBy_putObj' _ D _) (b14.below H H.size hgm).size fun r e=>by cases e; omega
end Go.Proofs.YtcbedgfikejkoaaGreatDoor
