/-
  What the proof of the law rests on, part 5: walks of functions, and plain laws; each says its conditions itself.
-/
import Derived.Test.YtahbiajdgealnaaGreatDoorRows
import Derived.OrdersIn
import Derived.Test.YtahbiajdgealnaaGreatDoorZE4
set_option maxHeartbeats 1600000
set_option linter.unusedVariables false
set_option linter.unusedSimpArgs false
namespace Go.Proofs.YtahbiajdgealnaaGreatDoor
open Go.RowKit Rt
open Fx (fD eP fJ bD gP gM dD dS gD jB eX jC fU jD je Lv sN Ln Ws Qv Wl Rp Wc Qs Wr Sb Lk Wk rC rV sR Rs Rn Rd Rk Wb Wx Wo Dy Wt qW Qn FM Bc yN zh C9 Dw qo gY zi ng uq uo vO wZ zf Dk Ap rv aC aS bI aM ev cK Stp dH aW flat dA Mp fq aY gX iU bF down iN jO iW ou bK bJ cells_one iP bV xk unseen jK iB bY dM bM bQ cu cB gJ gT qb gQ)
section
namespace Rt
structure Inv0(L:fP)(T:Nat):Prop where
 BL:L.tn=L.nn
 nn:L.nn<=32
 tid : ∀ i,i<L.nn->L.t i 0=L.id i/\L.t i 1=L.par i
 rise : ∀ i j,i<j->j<L.nn->L.id i<L.id j
 pos : ∀ i,i<L.nn->1<=L.id i
 top : ∀ i,i<L.nn->L.id i<7696581394432
 up : ∀ i,i<L.nn->L.par i=0 \/ ∃ j,j<L.nn/\L.id j=L.par i
 dep : ∀ x,∃ D,D<=4/\bE L.t L.tn (bA L.t L.tn D x)<0
 gn:L.gn<=T
 rn : ∀ i,i<6->L.rn i<=T
 may : ∀ k,k<L.nn->may (L.R k)=true
 g47 : ∀ k,k<L.nn -> ∀ a,a<6->L.R k a<=140737488355328
 kn:F3 L.known
theorem Zy(a:Int):a<0\/0<=a:=by omega
theorem iC{t:Nat->Nat->Int}{tn:Nat}{x:Int}:0<=bE t tn x <-> ∃ i,i<tn/\t i 0=x:=by
 constructor
 ·intro h;obtain⟨j,c,_,e⟩:=uR h;exact⟨j,c,e⟩
 rintro ⟨i,b,e⟩
 rcases jJ (fun i=>decide (t i 0=x)) tn with ⟨k,_,a,_⟩|⟨_,h2⟩
 ·unfold bE; rw[a]; omega
 have:=h2 i b; rw[f_ e]at this; cases this
theorem uX{t:Nat->Nat->Int}{tn:Nat}{x:Int}:bE t tn x<0 <-> ∀ i,i<tn->t i 0≠x:=by
 constructor
 ·intro h i a e;have:=iC.2 ⟨i,a,e⟩; omega
 intro h
 rcases Zy (bE t tn x)with h1|h1
 ·exact h1
 obtain⟨i,a,e⟩:=iC.1 h1;exact L_ e (h i a)
theorem uY{t:Nat->Nat->Int}{tn i:Nat}(c : ∀ i j,i<tn->j<tn->t i 0=t j 0->i=j)(hi:i<tn):bE t tn (t i 0)=(i:Int):=by
 obtain⟨j,b,e,a⟩:=uR (iC.2 ⟨i,hi,rfl⟩);rw[e,c j i b hi a]
theorem EX{t:Nat->Nat->Int}{tn:Nat}{x:Int} : ∀ j,bA t tn (j+1) x=bA t tn j (bA t tn 1 x)
 | 0=>rfl
 | j+1=>by
   show t (bE t tn (bA t tn (j+1) x)).toNat 1=t (bE t tn (bA t tn j (bA t tn 1 x))).toNat 1;rw[EX j]
section
variable {L:fP} {T:Nat}
theorem Inv0.inj(h:Inv0 L T) : ∀ i j,i<L.nn->j<L.nn->L.id i=L.id j->i=j:=fun i j a b e=>by
 rcases Nat.lt_trichotomy i j with h1|h1|h1
 ·have:=h.rise i j h1 b; omega
 ·exact h1
 ·have:=h.rise j i h1 a; omega
theorem Inv0.afT(h:Inv0 L T) : ∀ i j,i<L.tn->j<L.tn->L.t i 0=L.t j 0->i=j:=fun i j a b e=>by
 rw[h.BL]at a b;rw[(h.tid i a).1,(h.tid j b).1]at e;exact h.inj i j a b e
theorem CG{P Q:Nat->Bool} : ∀ {n:Nat},(∀ i,i<n->P i=Q i)->gU P n=gU Q n
 | 0,_=>rfl
 | n+1,h=>by
   simp only[gU];rw[CG (n:=n) fun i a=>h i (by omega),h n (by omega)]
theorem Inv0.node(h:Inv0 L T)(x:Int):L.node x=bE L.t L.tn x:=by
 unfold fP.node bE;rw[h.BL];exact CG fun i a=>by rw[(h.tid i a).1]
theorem Inv0.w(h:Inv0 L T):abX L T where
 nn:=by have:=h.nn; omega
 gn:=h.gn
 rn:=h.rn
 tn:=h.node
 dx:=fun x=>by obtain⟨D,b,a⟩:=h.dep x; exact⟨D,by omega,a⟩
 may:=h.may
 kn:=h.kn
theorem Inv0.mono{T':Nat}(h:Inv0 L T)(a:T<=T'):Inv0 L T' := { h with gn:=m_ h.gn a,rn:=fun i b=>m_ (h.rn i b) a }
theorem DX{a:Type}{f:Nat->a}{k i:Nat}{v:a}(h:i<k):cK f k v i=f i:=by unfold cK; rw[d_ h]
theorem dG{a:Type}{f:Nat->a}{k:Nat}{v:a}:cK f k v k=v:=by unfold cK; rw[b_ (by omega),d_ rfl]
theorem DY{a:Type}{f:Nat->a}{k i:Nat}{v:a}(h:k<i):cK f k v i=f (i-1):=by unfold cK; rw[b_ (by omega),b_ (by omega)]
theorem dU{k i n:Nat}(b:k<=n)(hi:i<n+1):i=k \/ ∃ j,j<n/\(∀ {α:Type} (f:Nat->α) (v:α),cK f k v i=f j)/\(j<k->i=j)/\(k<=j->i=j+1):=by
 rcases Nat.lt_trichotomy i k with h|h|h
 ·exact .inr ⟨i,by omega,fun f v=>DX h,fun _=>rfl,fun a=>by omega⟩
 ·exact .inl h
 exact .inr ⟨i-1,by omega,fun f v=>DY h,fun a=>by omega,fun _=>by omega⟩
theorem AP{k j n:Nat}(a:j<n) : ∃ i,i<n+1/\i≠k /\ ∀ {α:Type} (f:Nat->α) (v:α),cK f k v i=f j:=by
 by_cases h:j<k
 ·exact⟨j,by omega,by omega,fun f v=>DX h⟩
 exact⟨j+1,by omega,by omega,fun f v=>by rw[DY (by omega)]; rfl⟩
theorem yF(t:Nat->Nat->Int)(k:Nat)(id par:Int)(i:Nat):oF t k id par i=cK t k (fun j=>if j=0 then id else par) i:=rfl
theorem GK{P Q:Nat->Bool} : ∀ {n:Nat},(∀ i,i<n->P i=Q i)->down P n=down Q n
 | 0,_=>rfl
 | n+1,h=>by
   unfold down;rw[GK (n:=n) fun i a=>h i (by omega),h n (by omega)]
structure oJ(t t':Nat->Nat->Int)(tn:Nat)(id par:Int):Prop where
 u : ∀ i j,i<tn->j<tn->t i 0=t j 0->i=j
 u' : ∀ i j,i<tn+1->j<tn+1->t' i 0=t' j 0->i=j
 no : ∀ i,i<tn->t i 0≠id
 old : ∀ i,i<tn -> ∃ j,j<tn+1/\t' j=t i
 new : ∃ j,j<tn+1/\t' j 0=id/\t' j 1=par
 back : ∀ j,j<tn+1->t' j 0=id \/ ∃ i,i<tn/\t' j=t i
variable {t t':Nat->Nat->Int} {tn:Nat} {id par:Int}
theorem oJ.find(h:oJ t t' tn id par){x:Int}:0<=bE t' (tn+1) x<->(0<=bE t tn x\/x=id):=by
 rw[iC,iC];constructor
 ·rintro ⟨j,b,e⟩
  rcases h.back j b with a|⟨i,hi,a⟩
  ·exact .inr (e.symm.trans a)
  exact .inl ⟨i,hi,by rw[<- a]; exact e⟩
 rintro (⟨i,hi,e⟩|e)
 ·obtain⟨j,b,a⟩:=h.old i hi;exact⟨j,b,by rw[a]; exact e⟩
 obtain⟨j,b,a,_⟩:=h.new;exact⟨j,b,a.trans e.symm⟩
theorem oJ.XD(h:oJ t t' tn id par){x:Int}(hx:0<=bE t tn x):t' (bE t' (tn+1) x).toNat 1=t (bE t tn x).toNat 1:=by
 obtain⟨i,b,e⟩:=iC.1 hx;obtain⟨j,f,a⟩:=h.old i b;have c:bE t tn x=(i:Int):=by rw[<- e]; exact uY h.u b
 have d:bE t' (tn+1) x=(j:Int):=by
  have:t' j 0=x:=by rw[a]; exact e
  rw[<- this]; exact uY h.u' f
 rw[c,d];show t' j 1=t i 1;rw[a]
theorem oJ.iter(h:oJ t t' tn id par){x:Int} : ∀ K,(∀ i,i<K->0<=bE t tn (bA t tn i x))->bA t' (tn+1) K x=bA t tn K x
 | 0,_=>rfl
 | K+1,hk=>by
   have a:=oJ.iter h K fun i b=>hk i (by omega);show t' (bE t' (tn+1) (bA t' (tn+1) K x)).toNat 1=t (bE t tn (bA t tn K x)).toNat 1;rw[a]; exact h.XD (hk K (by omega))
theorem uZ{t:Nat->Nat->Int}{tn:Nat}{x:Int} : ∀ D,bE t tn (bA t tn D x)<0 -> ∃ K,K<=D/\bE t tn (bA t tn K x)<0 /\ ∀ i,i<K->0<=bE t tn (bA t tn i x)
 | 0,h=>⟨0,z_ _,h,fun _ a=>L_ a (u_ _)⟩
 | D+1,h=>by
   by_cases f : ∀ i,i<D+1->0<=bE t tn (bA t tn i x)
   ·exact⟨D+1,z_ _,h,f⟩
   ·obtain⟨i,a⟩:=Classical.not_forall.1 f;obtain⟨a,o⟩:=Classical.not_imp.1 a
    rcases Nat.lt_or_ge i D with h3|h3
    ·-- an earlier end
     have : ∀ n,n<=D->(∃ j,j<=n/\bE t tn (bA t tn j x)<0) -> ∃ K,K<=n/\bE t tn (bA t tn K x)<0 /\ ∀ i,i<K->0<=bE t tn (bA t tn i x):=by
      intro n
      induction n with
      | zero=>rintro _ ⟨j,m,k⟩; obtain rfl:j=0:=by omega
              exact⟨0,z_ _,k,fun _ a=>L_ a (u_ _)⟩
      | succ n ih =>
        rintro k ⟨j,m,g⟩;by_cases c : ∃ j,j<=n/\bE t tn (bA t tn j x)<0
        ·obtain⟨K,d,l⟩:=ih (by omega) c; exact⟨K,by omega,l⟩
        ·refine⟨n+1,z_ _,?_,fun i a => ?_⟩
         ·by_cases e:j=n+1
          ·rw[<- e]; exact g
          ·exact L_ ⟨j,by omega,g⟩ c
         ·rcases Zy (bE t tn (bA t tn i x))with h7|h7
          ·exact L_ ⟨i,by omega,h7⟩ c
          ·exact h7
     obtain⟨K,d,b⟩:=this i (by omega) ⟨i,z_ _,by omega⟩;exact⟨K,by omega,b⟩
    ·obtain rfl:i=D:=(by omega);obtain⟨K,d,b⟩:=uZ (t:=t) (tn:=tn) (x:=x) i (by omega);exact⟨K,by omega,b⟩
theorem oJ.dep(h:oJ t t' tn id par)(z:1<=id)(v : ∀ i,i<tn->t i 1=0\/0<=bE t tn (t i 1))(s:par=0\/0<=bE t tn par)(B:bE t tn 0<0)(o : ∀ x,∃ D,D<=4/\bE t tn (bA t tn D x)<0)(p : ¬ Cy t tn par) :
 ∀ x,∃ D,D<=4/\bE t' (tn+1) (bA t' (tn+1) D x)<0:=by
 have A:bE t tn id<0:=uX.2 h.no;have k : ∀ x K,x≠id->bE t tn (bA t tn K x)<0->(∀ i,i<K->0<=bE t tn (bA t tn i x))->bE t' (tn+1) (bA t' (tn+1) K x)<0:=fun x K c f a=>by
  rw[h.iter K a]
  rcases Zy (bE t' (tn+1) (bA t tn K x))with h1|h1
  ·exact h1
  ·exfalso
   rcases h.find.1 h1 with h2|h2
   ·omega
   ·cases K with
    | zero=>exact c h2
    | succ K =>
      have q:=a K (by omega);obtain⟨i,b,e⟩:=iC.1 q;have d:bA t tn (K+1) x=t i 1:=by
       show t (bE t tn (bA t tn K x)).toNat 1=t i 1;rw[<- e,uY h.u b]; rfl
      rw[d]at h2 f
      rcases v i b with h4|h4
      ·omega
      ·omega
 intro x;by_cases c:x=id
 ·subst c;obtain⟨i,b⟩:=Classical.not_forall.1 p;obtain⟨y,b⟩:=Classical.not_imp.1 b;obtain⟨K,f,g,a⟩:=uZ (t:=t) (tn:=tn) (x:=par) i (by omega);refine⟨K+1,by omega,?_⟩;have l:bA t' (tn+1) 1 x=par:=by
   obtain⟨j,r,m,d⟩:=h.new;show t' (bE t' (tn+1) x).toNat 1=par;rw[<- m,uY h.u' r]; exact d
  rw[EX,l];refine k par K ?_ g a;rintro rfl
  rcases s with h1|h1 <;> omega
 obtain⟨D,w,n⟩:=o x;obtain⟨K,f,g,a⟩:=uZ D n;exact⟨K,by omega,k x K c g a⟩
end
end Rt
end
section
namespace Rt
section
variable {L:fP} {T:Nat} {v:EvM}
theorem XE{t:Nat->Nat->Int}{tn:Nat}{id par:Int}(h:jv t tn id par=0):id≠0/\bE t tn id<0/\(par=0\/0<=bE t tn par)/\tn<32 /\ ¬ Cy t tn par:=by
 unfold jv at h;split at h; · cases h
 rename_i h1;split at h; · cases h
 rename_i h2;split at h; · cases h
 rename_i h3;split at h; · cases h
 rename_i h4;refine⟨h1,by omega,?_,?_,fun b=>h4 (.inr b)⟩
 ·rcases Zy (bE t tn par)with h5|h5
  ·by_cases a:par=0
   ·exact .inl a
   exact L_ ⟨a,h5⟩ h3
  exact .inr h5
 rcases Nat.lt_or_ge tn 32 with h5|h5
 ·exact h5
 exact L_ (Or.inl h5) h4
theorem nP(h:bO v=true):1<=v.o/\v.o<=6/\1<=v.seq/\v.seq<1099511627776:=by
 have a:=iL h;have b:=DI h;unfold pI at a;simp only[R_,decide_eq_true_eq]at a;exact⟨a.1,a.2,b.1,b.2⟩
theorem qN(h:bO v=true):jc v.o v.seq=1099511627776*v.o+v.seq:=by
 have:=nP h;unfold jc; rw[d_ (by omega)]
theorem mG(h:bO v=true):aP v<6:=by
 have:=nP h; unfold aP; omega
theorem XF{a:Nat}{n:Int}(ha:a<6)(f:0<=n)(h1:n<=1125899906842624):may (upd (fun _=>0) a n)=true:=by
 have e : ∀ p,upd (fun _=>0) a n p=if p=a then n else 0:=fun p=>rfl;rw[jy];refine⟨fun p l => ?_,fun k h => ?_,?_⟩
 ·rw[e]; split <;> omega
 ·have b : ∀ i j,R (upd (fun _=>0) a n) i j=0:=fun i j=>by unfold R; rw[e,b_ (by omega)]
  refine⟨?_,?_,b k k⟩
  ·unfold L;simp only[b];have g:0<=G (upd (fun _=>0) a n) k:=by unfold G; rw[e]; split <;> omega
   have d:F (upd (fun _=>0) a n) k=0:=(by unfold F; rw[e,b_ (by omega)]);have c:C (upd (fun _=>0) a n) k=0:=(by unfold C; rw[e,b_ (by omega)]);omega
  have d:F (upd (fun _=>0) a n) k=0:=by unfold F; rw[e,b_ (by omega)]
  have c:C (upd (fun _=>0) a n) k=0:=by unfold C; rw[e,b_ (by omega)]
  omega
 unfold oD G;simp only[e];have:(if 0=a then n else 0)+(if 1=a then n else 0)+(if 2=a then n else 0)+(if 3=a then n else 0)+(if 4=a then n else 0)+(if 5=a then n else 0)=n:=six a ha n;omega
theorem wE(h:Inv0 L T)(d:bO v=true)(F:v.kind=1)(f:jX L v=0) : ∃ k,k<=L.nn/\1<=jc v.o v.seq/\L.nn<32/\(0<=v.aU/\v.aU<=140737488355328)/\(v.node=0\/0<=bE L.t L.tn v.node) /\ ¬ Cy L.t L.tn v.node /\
 qj L v = { L with nn:=L.nn+1,id:=cK L.id k (jc v.o v.seq),par:=cK L.par k v.node,R:=cK L.R k (upd (fun _=>0) (aP v) v.aU),tn:=L.tn+1,t:=oF L.t k (jc v.o v.seq) v.node } /\
 (∀ i j,i<j->j<L.nn+1->cK L.id k (jc v.o v.seq) i<cK L.id k (jc v.o v.seq) j)/\(∀ i,i<L.nn+1->oF L.t k (jc v.o v.seq) v.node i 0=cK L.id k (jc v.o v.seq) i/\oF L.t k (jc v.o v.seq) v.node i 1=cK L.par k v.node i) /\
 oJ L.t (oF L.t k (jc v.o v.seq) v.node) L.tn (jc v.o v.seq) v.node:=by
 unfold jX at f;split at f
 ·cases f
 rename_i h47;obtain⟨K,s,w,M,y⟩:=XE f;have S:=nP d;have U:=qN d;have W:=mG d;have D:0<=v.aU/\v.aU<=140737488355328:=by
  have Q : ¬ 140737488355328<v.aU:=fun h=>h47 (.inr h);unfold bO at d;simp only[R_]at d;have l:=d.2;unfold dJ at l;rw[d_ F]at l;simp only[R_,decide_eq_true_eq]at l;omega
 generalize hx:jc v.o v.seq=x at *;have J:1<=x:=by omega
 have A:down (fun i=>decide (x<L.t i 0)) L.tn=rH L.id L.nn x:=by
  unfold rH; rw[h.BL]; exact GK fun i a=>by rw[(h.tid i a).1]
 have z:qj L v = { L with nn:=L.nn+1,id:=cK L.id (rH L.id L.nn x) x,par:=cK L.par (rH L.id L.nn x) v.node,R:=cK L.R (rH L.id L.nn x) (upd (fun _=>0) (aP v) v.aU),tn:=L.tn+1,t:=oF L.t (rH L.id L.nn x) x v.node }:=by
  unfold qj; rw[hx,A]; rfl
 generalize hkk:rH L.id L.nn x=k at *;have c:k<=L.nn:=by rw[<- hkk]; exact Fx.yu _ _
 have G : ∀ i,i<L.nn->L.id i≠x:=fun i a e=>uX.1 s i (by rw[h.BL]; exact a) (by rw[(h.tid i a).1]; exact e);have C : ∀ q,k<=q->q<L.nn->x<L.id q:=fun q b g=>by
  have:=Fx.Ig (P:=fun i=>decide (x<L.id i)) (n:=L.nn) (i:=q) (by show rH L.id L.nn x<=q; omega) g;exact h_ this
 have B : ∀ q,q<k->L.id q<x:=fun q b=>by
  obtain⟨j,rfl⟩ : ∃ j,k=j+1:=⟨k-1,by omega⟩;have g:=Fx.Ih (P:=fun i=>decide (x<L.id i)) (n:=L.nn) (j:=j) hkk;have N : ¬ x<L.id j:=j_ g;have O:=G j (by omega);by_cases e:q=j
  ·subst e; omega
  ·have:=h.rise q j (by omega) (by omega); omega
 have H:L.nn<32:=by have:=h.BL; omega
 have m : ∀ i j,i<j->j<L.nn+1->cK L.id k x i<cK L.id k x j:=fun i j V hj=>by
  rcases dU c (show i<L.nn+1 by omega)with rfl|⟨q,hq,eq,q1,q2⟩
  ·rcases dU c hj with rfl|⟨r,hr,er,r1,r2⟩
   ·omega
   ·rw[dG,er];exact C r (by omega) hr
  ·rcases dU c hj with rfl|⟨r,hr,er,r1,r2⟩
   ·rw[dG,eq];exact B q (by omega)
   ·rw[eq,er];exact h.rise q r (by omega) hr
 have p : ∀ i,i<L.nn+1->oF L.t k x v.node i 0=cK L.id k x i/\oF L.t k x v.node i 1=cK L.par k v.node i:=fun i a=>by
  rw[yF]
  rcases dU c a with rfl|⟨q,hq,eq,_,_⟩
  ·rw[dG,dG,dG]; exact⟨rfl,rfl⟩
  ·rw[eq,eq,eq]; exact h.tid q hq
 have E : ∀ i j,i<L.nn+1->j<L.nn+1->cK L.id k x i=cK L.id k x j->i=j:=fun i j a hj e=>by
  rcases Nat.lt_trichotomy i j with b|b|b
  ·have:=m i j b hj; omega
  ·exact b
  ·have:=m j i b a; omega
 have I:oJ L.t (oF L.t k x v.node) L.tn x v.node := {
  u:=h.afT
  u':=fun i j a hj e=>by
   rw[h.BL]at a hj;rw[(p i a).1,(p j hj).1]at e;exact E i j a hj e
  no:=uX.1 s
  old:=fun i a=>by
   obtain⟨j,hj,_,e⟩:=AP (k:=k) a;exact⟨j,hj,by rw[yF]; exact e L.t _⟩
  new:=⟨k,by have:=h.BL; omega,by rw[yF,dG]; rfl,by rw[yF,dG]; rfl⟩
  back:=fun j hj=>by
   rw[h.BL]at hj
   rcases dU c hj with rfl|⟨q,hq,eq,_,_⟩
   ·exact .inl (by rw[yF,dG]; rfl)
   ·exact .inr ⟨q,by rw[h.BL]; exact hq,by rw[yF]; exact eq L.t _⟩ }
 exact⟨k,c,J,H,D,w,y,z,m,p,I⟩
theorem PY(h:Inv0 L T)(c:bO v=true)(w:v.kind=1)(r:jX L v=0):Inv0 (qj L v) (T+1):=by
 obtain⟨k,a,m,K,s,g,n,p,B,E,F⟩:=wE h c w r;have I:=nP c;have J:=qN c;have C:=mG c;rw[p];generalize hx:jc v.o v.seq=x at *;have z : ∀ j,j<L.nn -> ∃ i,i<L.nn+1/\cK L.id k x i=L.id j:=fun j hj=>by
  obtain⟨i,hi,_,e⟩:=AP (k:=k) hj;exact⟨i,hi,e L.id x⟩
 have H:bE L.t L.tn 0<0:=uX.2 fun i hi e=>by
  rw[h.BL]at hi;rw[(h.tid i hi).1]at e;have:=h.pos i hi; omega
 have A:v.node=0 \/ ∃ j,j<L.nn/\L.id j=v.node:=by
  rcases g with e|e
  ·exact .inl e
  ·obtain⟨i,hi,d⟩:=iC.1 e;rw[h.BL]at hi;exact .inr ⟨i,hi,by rw[<- (h.tid i hi).1]; exact d⟩
 exact {
  BL:=by show L.tn+1=L.nn+1; rw[h.BL]
  nn:=by show L.nn+1<=32; omega
  tid:=E
  rise:=B
  pos:=fun i hi=>by
   show 1<=cK L.id k x i
   rcases dU a hi with rfl|⟨q,hq,eq,_,_⟩
   ·rw[dG]; exact m
   ·rw[eq]; exact h.pos q hq
  top:=fun i hi=>by
   show cK L.id k x i<_
   rcases dU a hi with rfl|⟨q,hq,eq,_,_⟩
   ·rw[dG]; omega
   ·rw[eq]; exact h.top q hq
  up:=fun i hi=>by
   show cK L.par k v.node i=0 \/ ∃ j,j<L.nn+1/\cK L.id k x j=cK L.par k v.node i;have l : ∀ y,(y=0 \/ ∃ j,j<L.nn/\L.id j=y)->(y=0 \/ ∃ j,j<L.nn+1/\cK L.id k x j=y):=fun y G=>G.imp id fun⟨j,hj,e⟩=>by
    obtain⟨i,hi,d⟩:=z j hj;exact⟨i,hi,d.trans e⟩
   rcases dU a hi with rfl|⟨q,hq,eq,_,_⟩
   ·rw[dG]; exact l _ A
   ·rw[eq]; exact l _ (h.up q hq)
  dep:=by
   show ∀ y,∃ D,D<=4/\bE (oF L.t k x v.node) (L.tn+1) (bA (oF L.t k x v.node) (L.tn+1) D y)<0;refine F.dep m (fun i hi => ?_) g H h.dep n;have f:=hi;rw[h.BL]at f;rw[(h.tid i f).2]
   rcases h.up i f with e|⟨j,hj,e⟩
   ·exact .inl e
   ·exact .inr (iC.2 ⟨j,by rw[h.BL]; exact hj,by rw[(h.tid j hj).1]; exact e⟩)
  gn:=Nat.le_succ_of_le h.gn
  rn:=fun i hi=>Nat.le_succ_of_le (h.rn i hi)
  may:=fun i hi=>by
   show may (cK L.R k _ i)=true
   rcases dU a hi with rfl|⟨q,hq,eq,_,_⟩
   ·rw[dG]; exact XF C s.1 (by omega)
   ·rw[eq]; exact h.may q hq
  g47:=fun i hi b u=>by
   show cK L.R k _ i b<=_
   rcases dU a hi with rfl|⟨q,hq,eq,_,_⟩
   ·rw[dG];show(if b=aP v then v.aU else 0)<=_;split <;> omega
   ·rw[eq]; exact h.g47 q hq b u
  kn:=h.kn }
theorem GL{b:fP}{T':Nat}(h:Inv0 L T)(c:b.nn=L.nn)(d:b.id=L.id)(f:b.par=L.par)(g:b.tn=L.tn)(j:b.t=L.t)(m:b.known=L.known)(n:b.gn<=T')(hr : ∀ i,i<6->b.rn i<=T')
 (l : ∀ k,k<L.nn->may (b.R k)=true /\ ∀ a,a<6->b.R k a<=140737488355328):Inv0 b T' where
 BL:=by rw[c,g]; exact h.BL
 nn:=by rw[c]; exact h.nn
 tid:=by rw[c,d,f,j]; exact h.tid
 rise:=by rw[c,d]; exact h.rise
 pos:=by rw[c,d]; exact h.pos
 top:=by rw[c,d]; exact h.top
 up:=by rw[c,d,f]; exact h.up
 dep:=by rw[g,j]; exact h.dep
 gn:=n
 rn:=hr
 may:=by rw[c]; exact fun k e=>(l k e).1
 g47:=by rw[c]; exact fun k e=>(l k e).2
 kn:=by rw[m]; exact h.kn
def tX(x:Nat->Int):Prop:=may x=true /\ ∀ a,a<6->x a<=140737488355328
theorem EY{f:(Nat->Int)->(Nat->Int) × Int}{idx:Nat->Nat}{R:Nat->Nat->Int}{n:Nat}(g : ∀ x,tX x->(f x).2=0->tX (f x).1)(d : ∀ k,k<n->tX (R k)) : ∀ K k,k<n->tX ((dw f idx R K).1 k)
 | 0,k,hk=>d k hk
 | K+1,k,hk=>by
   have a:=EY g d (idx:=idx) K;unfold dw;by_cases e:(dw f idx R K).2=0
   ·rw[d_ e];by_cases b:(f ((dw f idx R K).1 (idx K))).2=0
    ·rw[d_ b];show tX (if k=idx K then _ else _);by_cases c:k=idx K
     ·rw[d_ c]; exact g _ (by rw[<- c]; exact a k hk) b
     ·rw[b_ c]; exact a k hk
    ·rw[b_ b]; exact a k hk
   ·rw[b_ e]; exact a k hk
theorem XG{x:Nat->Int}{i n:Int}(h:tX x)(c:(bC x i n).2=0):tX (bC x i n).1:=by
 obtain⟨a,g,_,_,_,_,_,f,_,_,_,e⟩:=II c;exact⟨f,fun b d=>by rw[e,fZ _ _ _ _ (by omega)]; exact h.2 b d⟩
theorem XH{x:Nat->Int}{i n:Int}(h:tX x)(c:(bG x i n).2=0):tX (bG x i n).1:=by
 obtain⟨a,g,_,_,_,_,f,_,_,_,e⟩:=IJ c;exact⟨f,fun b d=>by rw[e,fZ _ _ _ _ (by omega)]; exact h.2 b d⟩
theorem XI{x:Nat->Int}{i j n:Int}(h:tX x)(d:(dn x i j n).2=0):tX (dn x i j n).1:=by
 obtain⟨a,b,k,l,_,_,_,_,_,_,g,e⟩:=AL d;exact⟨g.may,fun c f=>by rw[e,fZ _ _ _ _ (by omega)]; exact h.2 c f⟩
theorem TV{x:Nat->Int}{a:Nat}{n:Int}(ha:a<6)(h:tX x)(s:0<=n)(q : ¬ 140737488355328<x a+n):tX (upd x a (x a+n)):=by
 have d:=(jy x).1 h.1;have e : ∀ p,upd x a (x a+n) p=if p=a then x a+n else x p:=fun p=>rfl;have t:=d.1 a (by omega);have c : ∀ b,b<6->upd x a (x a+n) b<=140737488355328:=fun b l=>by
  rw[e]; split
  ·omega
  ·exact h.2 b l
 refine⟨(jy _).2 ⟨fun p o => ?_,fun k m => ?_,?_⟩,c⟩
 ·have:=d.1 p o;rw[e]; split <;> omega
 ·obtain⟨r,i,j⟩:=d.2.1 k m;have f:C (upd x a (x a+n)) k=C x k:=by unfold C; rw[e,b_ (by omega)]
  have g:F (upd x a (x a+n)) k=F x k:=by unfold F; rw[e,b_ (by omega)]
  refine⟨?_,?_,?_⟩
  ·rw[TH x a (by omega),f,g,afC]; split <;> omega
  ·rw[f,g]; exact i
  unfold R; rw[e,b_ (by omega)]; exact j
 unfold oD G;have:=c 0 (by omega); have:=c 1 (by omega); have:=c 2 (by omega); have:=c 3 (by omega); have:=c 4 (by omega); have:=c 5 (by omega);omega
theorem Inv0.Ko(h:Inv0 L T) : ∀ k,k<L.nn->tX (L.R k):=fun k a=>⟨h.may k a,h.g47 k a⟩
theorem Oa(h:Inv0 L T)(a:Nat) : ∀ i,i<6->aJ L.rn a (L.rn a+1) i<=T+1:=fun i b=>by
 unfold aJ;by_cases e:i=a
 ·subst e; rw[d_ rfl]; have:=h.rn i b; omega
 ·rw[b_ e]; have:=h.rn i b; omega
theorem Ob{q:Nat}{r:Nat->Int}(h : ∀ k,k<L.nn->tX (L.R k))(hr:tX r) : ∀ k,k<L.nn->tX (aJ L.R q r k):=fun k a=>by
 unfold aJ; split
 ·exact hr
 ·exact h k a
theorem Inv0.Oc(h:Inv0 L T){x:Int}(hx : ¬ L.node x<0):(L.node x).toNat<L.nn:=by
 rw[h.node]at hx ⊢;obtain⟨j,a,e,_⟩:=uR (show 0<=bE L.t L.tn x by omega);rw[e]; have:=h.BL; simp; omega
theorem PZ(h:Inv0 L T)(a : ∀ k,k<L.nn->tX ((mR L v).1 k)):Inv0 (lN L v) (T+1):=by
 unfold lN qm;generalize mR L v=W at a;exact GL h rfl rfl rfl rfl rfl rfl (Nat.succ_le_succ h.gn) (Oa h _) a
theorem P5(h:Inv0 L T)(a : ∀ k,k<L.nn->tX ((lQ L v).1 k)):Inv0 (jY L v) (T+1):=by
 unfold jY qm;generalize lQ L v=W at a;exact GL h rfl rfl rfl rfl rfl rfl (Nat.le_succ_of_le h.gn) (Oa h _) a
theorem TW(h:Inv0 L T)(f:bO v=true)(a:dR L v=0):Inv0 (iI L v) (T+1):=by
 have q:=iY f;have o:=mG f;have e:=h.gn;have d : ∀ i,i<6->L.rn i<=T+1:=fun i n=>Nat.le_succ_of_le (h.rn i n);unfold dR at a;unfold iI;by_cases b:v.kind=1
 ·rw[d_ b]at a ⊢; exact PY h f b a
 by_cases c:v.kind=2
 ·rw[b_ b,d_ c]at a ⊢;unfold wD at a;split at a; · cases a
  rename_i n1;split at a; · cases a
  rename_i n2;have p:=kR f (.inl c);exact GL h rfl rfl rfl rfl rfl rfl (Nat.le_succ_of_le e) d (Ob h.Ko (TV o (h.Ko _ (h.Oc n1)) (by omega) n2))
 by_cases g:v.kind=3
 ·rw[b_ b,b_ c,d_ g]at a ⊢;have j : ∀ k,k<L.nn->tX ((mR L v).1 k):=by unfold mR; exact EY (fun x=>XG) h.Ko _
  exact PZ h j
 by_cases l:v.kind=4
 ·rw[b_ b,b_ c,b_ g,d_ l]at a ⊢;have j : ∀ k,k<L.nn->tX ((lQ L v).1 k):=by unfold lQ; exact EY (fun x=>XH) h.Ko _
  exact P5 h j
 by_cases m:v.kind=5
 ·rw[b_ b,b_ c,b_ g,b_ l,d_ m]at a ⊢;unfold oI at a;split at a; · cases a
  rename_i n1;split at a; · cases a
  exact GL h rfl rfl rfl rfl rfl rfl (Nat.le_succ_of_le e) d (Ob h.Ko (XI (h.Ko _ (h.Oc n1)) a))
 rw[b_ b,b_ c,b_ g,b_ l,b_ m];split
 ·exact GL h rfl rfl rfl rfl rfl rfl (Nat.le_succ_of_le e) d h.Ko
 exact GL h rfl rfl rfl rfl rfl rfl (Nat.le_succ_of_le e) d h.Ko
theorem zW(h:Inv0 L T):Inv0 (aA L v) (T+1):=by
 unfold aA;by_cases a:bP L v=0
 ·rw[d_ a];unfold bP at a;split at a; · cases a
  rename_i h1;split at a; · cases a
  split at a; · cases a
  rename_i h3;split at a; · cases a
  have b:bO v=true:=by simpa using h1
  have c:dI L.known v=true:=by simpa using h3
  have g:=TW h b a;have k:=mG b;have m:=DI b;refine { g with kn:=fun i j => ?_ };have e:(GJ (iI L v) v).known=aJ L.known (aP v) (L.known (aP v)+1):=by unfold GJ; simp only[pJ]
  rw[e];unfold dI at c;simp only[R_,decide_eq_true_eq]at c;have d:=h.kn;unfold aJ;split
  ·have f:=c.1.2;have l:v.seq=L.known (aP v)+1:=f;have:=d (aP v) k;omega
  exact d i j
 rw[b_ a]; exact h.mono (Nat.le_succ T)
end
end Rt
end
section
namespace Rt
def AQ(t:Nat->Nat->Int)(tn:Nat)(x y:Int):Nat->Int
 | 0=>0
 | k+1=>AQ t tn x y k+if bA t tn k x=y then 1 else 0
def zX(t:Nat->Nat->Int)(tn:Nat)(x y:Int):Int:=AQ t tn x y (bT t tn x)
def lZ(t:Nat->Nat->Int)(tn:Nat)(g:Nat->Int)(y:Int):Int:=if g 4=0 then g 3*zX t tn (g 2) y else 0
def jG(t:Nat->Nat->Int)(tn:Nat)(g:Nat->Nat->Int)(y:Int):Nat->Int
 | 0=>0
 | q+1=>jG t tn g y q+lZ t tn (g q) y
structure zY(L:fP):Prop where
 us : ∀ k,k<L.nn->kH (L.R k)=jG L.t L.tn L.g (L.id k) L.gn
 gb : ∀ q,q<L.gn->0<=bE L.t L.tn (L.g q 2)/\1<=L.g q 0/\L.g q 0<=6/\0<=L.g q 3/\L.g q 3<=1125899906842624
structure nY(v:EvM):Prop where
 aU:v.aU<=65536
 req:v.req<=256
structure P6(L:fP)(T:Nat):Prop where
 kt : ∀ i,i<6->L.known i<=T
 rb : ∀ k,k<L.nn -> ∀ a,a<54->L.R k a<=2097152*T
 rq : ∀ i,i<6 -> ∀ j,j<L.rn i->L.rq i j<=256
structure Inv(L:fP)(T:Nat):Prop extends Inv0 L T where
 s:zY L
 b:P6 L T
section
variable {L:fP} {T:Nat} {v:EvM}
theorem IQ{P:Nat->Bool} : ∀ {n i:Nat},i<lead P n->P i=true
 | 0,i,h=>L_ h (u_ _)
 | n+1,i,h=>by
   unfold lead at h;by_cases e:lead P n=n/\P n=true
   ·rw[d_ e]at h;by_cases a:i=n
    ·rw[a]; exact e.2
    ·exact IQ (n:=n) (by omega)
   ·rw[b_ e]at h; exact IQ h
theorem AU{t:Nat->Nat->Int}{tn i:Nat}{x:Int}(h:i<bT t tn x):0<=bE t tn (bA t tn i x):=h_ (IQ (P:=fun i=>decide (0<=bE t tn (bA t tn i x))) h)
theorem yG{t t':Nat->Nat->Int}{tn b:Nat}{g a:Nat->Nat->Int}{y c:Int} : ∀ n,(∀ q,q<n->lZ t' b (a q) c=lZ t tn (g q) y)->jG t' b a c n=jG t tn g y n
 | 0,_=>rfl
 | n+1,h=>by unfold jG; rw[yG n fun q d=>h q (by omega),h n (by omega)]
theorem GN{t:Nat->Nat->Int}{tn:Nat}{g:Nat->Nat->Int}{y:Int} : ∀ n,(∀ q,q<n->lZ t tn (g q) y=0)->jG t tn g y n=0
 | 0,_=>rfl
 | n+1,h=>by unfold jG; rw[GN n fun q a=>h q (by omega),h n (by omega)]; rfl
theorem Kq{t:Nat->Nat->Int}{tn k:Nat}{g:Nat->Nat->Int}{x:Nat->Int}{y:Int} : ∀ n,k<n->jG t tn (aJ g k x) y n=jG t tn g y n-lZ t tn (g k) y+lZ t tn x y
 | 0,h=>L_ h (u_ _)
 | n+1,h=>by
   unfold jG;by_cases e:k=n
   ·subst e;rw[yG (t:=t) (tn:=tn) (g:=g) (y:=y) k fun q a=>by unfold aJ; rw[b_ (by omega)]];unfold aJ; rw[d_ rfl]; omega
   ·rw[Kq n (by omega)];have:aJ g k x n=g n:=b_ (fun h=>e h.symm);rw[this]; omega
theorem Kt{t:Nat->Nat->Int}{tn k:Nat}{g:Nat->Nat->Int}{x:Nat->Int}{y:Int} : ∀ n,k<=n->jG t tn (cK g k x) y (n+1)=jG t tn g y n+lZ t tn x y
 | 0,h=>by
   obtain rfl:k=0:=(by omega);show(0:Int)+lZ t tn (cK g 0 x 0) y=0+_;rw[dG]
 | n+1,h=>by
   by_cases e:k=n+1
   ·subst e;show jG t tn (cK g (n+1) x) y (n+1)+lZ t tn (cK g (n+1) x (n+1)) y=_;rw[dG,yG (t:=t) (tn:=tn) (g:=g) (y:=y) (n+1) fun q a=>by rw[DX a]]
   ·show jG t tn (cK g k x) y (n+1)+lZ t tn (cK g k x (n+1)) y=jG t tn g y n+lZ t tn (g n) y+_;rw[Kt n (by omega),DY (by omega),Nat.add_sub_cancel]; omega
def TY(idx:Nat->Nat)(k:Nat):Nat->Int
 | 0=>0
 | j+1=>TY idx k j+if idx j=k then 1 else 0
theorem BM{f:(Nat->Int)->(Nat->Int) × Int}{idx:Nat->Nat}{R:Nat->Nat->Int}{d:Int}(e : ∀ x,(f x).2=0->kH (f x).1=kH x+d) : ∀ K,(dw f idx R K).2=0 -> ∀ k,kH ((dw f idx R K).1 k)=kH (R k)+d*TY idx k K
 | 0,_,k=>by show kH (R k)=kH (R k)+d*0; omega
 | K+1,h,k=>by
   unfold dw at h ⊢;by_cases a:(dw f idx R K).2=0
   ·have g:=BM e K a k;rw[d_ a]at h ⊢;by_cases b:(f ((dw f idx R K).1 (idx K))).2=0
    ·rw[d_ b];show kH (aJ _ (idx K) _ k)=_;unfold aJ TY;rw[Int.mul_add];by_cases c:k=idx K
     ·subst c;rw[d_ rfl,d_ rfl,e _ b,g]; omega
     ·rw[b_ c,b_ (fun h=>c h.symm),g]; omega
    ·rw[b_ b]at h; exact L_ h b
   ·rw[b_ a]at h; exact L_ h a
theorem MB{t:Nat->Nat->Int}{tn k:Nat}{x y:Int}{idx:Nat->Nat} : ∀ K,(∀ i,i<K->(idx i=k<->bA t tn i x=y))->TY idx k K=AQ t tn x y K
 | 0,_=>rfl
 | K+1,h=>by
   unfold TY AQ;rw[MB K fun i b=>h i (by omega)];by_cases e:idx K=k
   ·rw[d_ e,d_ ((h K (by omega)).1 e)]
   ·rw[b_ e,b_ (fun a=>e ((h K (by omega)).2 a))]
theorem DZ(h:Inv0 L T){x:Int}{i k:Nat}(g:k<L.nn)(hi:i<bT L.t L.tn x):nX L x i=k<->bA L.t L.tn i x=L.id k:=by
 obtain⟨j,f,e,c⟩:=uR (AU hi);have b:j<L.nn:=by rw[<- h.BL]; exact f
 have l:nX L x i=j:=by unfold nX; rw[h.node,e]; rfl
 rw[l];have a:L.id j=bA L.t L.tn i x:=by rw[<- (h.tid j b).1]; exact c
 constructor
 ·rintro rfl; exact a.symm
 intro d; exact h.inj j k b g (a.trans d)
theorem Ku{x:Nat->Int}{a:Nat}{n:Int}(ha:a<6):kH (upd x a n)=kH x:=by
 have b : ∀ k,C (upd x a n) k=C x k:=fun k=>fZ _ _ _ _ (by omega);have c : ∀ k,F (upd x a n) k=F x k:=fun k=>fZ _ _ _ _ (by omega);unfold kH; simp only[b,c]
theorem T9(h:bO v=true)(b:v.kind=4):1<=v.req:=by
 unfold bO at h;simp only[R_]at h;have a:=h.2;unfold dJ at a;rw[b_ (by omega),b_ (by omega),b_ (by omega),d_ b]at a;simp only[R_,decide_eq_true_eq]at a;exact a.1.1
theorem abY{n k:Nat}{g:Nat->Nat->Int}{x:Nat->Int}(a:k<=n)(P:(Nat->Int)->Prop)(h : ∀ q,q<n->P (g q))(hx:P x) : ∀ q,q<n+1->P (cK g k x q):=fun q b=>by
 rcases dU a b with rfl|⟨j,hj,e,_,_⟩
 ·rw[dG]; exact hx
 ·rw[e]; exact h j hj
attribute [local irreducible] bT in
theorem MC(j:Inv0 L T)(h:zY L)(e:bO v=true)(b:v.kind=3)(a:iQ L v=0):zY (lN L v):=by
 unfold iQ at a;split at a; · cases a
 split at a; · cases a
 rename_i hp;have c:=nP e;have l:=kR e (.inr (.inl b));unfold lN qm;have p:=BM (f:=fun x=>bC x v.o v.aU) (idx:=nX L v.node) (R:=L.R) (d:=v.aU) (fun x s=>by obtain⟨_,_,_,_,_,_,_,_,_,_,r,_⟩:=II s; exact r) _ a;refine⟨fun k b => ?_,fun q n => ?_⟩
 ·show kH ((mR L v).1 k)=jG L.t L.tn (cK L.g (down (fun i=>EN v (L.g i)) L.gn) (pY v)) (L.id k) (L.gn+1);rw[Kt _ (Fx.yu _ _)];have:=p k;rw[show lZ L.t L.tn (pY v) (L.id k)=v.aU*zX L.t L.tn v.node (L.id k)from rfl,<- h.us k b];unfold zX;rw[<- MB (idx:=nX L v.node) (k:=k) _ fun i m=>DZ j b m];exact this
 exact abY (Fx.yu _ _) (fun y=>0<=bE L.t L.tn (y 2)/\1<=y 0/\y 0<=6/\0<=y 3/\y 3<=1125899906842624) h.gb
  ⟨AU (i:=0) (x:=v.node) (by omega),c.1,c.2.1,by show 0<=v.aU; omega,l.2⟩ q n
attribute [local irreducible] bT in
theorem ME(s:Inv0 L T)(h:zY L)(z:bO v=true)(c:v.kind=4)(b:iH L v=0):zY (jY L v):=by
 unfold iH at b;split at b; · cases b
 split at b; · cases b
 rename_i l;have F:=T9 z c
 have E:0<=L.grant v.o v.of:=by rcases Zy (L.grant v.o v.of)with h|h; · exact L_ (.inl h) l
                                ·exact h
 have D:L.g (zy L v) 4=0:=by
  by_cases e:L.g (zy L v) 4=0
  ·exact e
  ·exact L_ (.inr e) l
 have n:zy L v<L.gn:=by
  rcases jJ (fun i=>decide (L.g i 0=v.o)&&decide (L.g i 1=v.of)) L.gn with ⟨k,c,e,_⟩|⟨e,_⟩
  ·have m:L.grant v.o v.of=(k:Int):=e;unfold zy; rw[m]; exact c
  ·have m:L.grant v.o v.of = -1:=e;omega
 unfold jY qm lQ;unfold lQ at b;generalize zy L v=q at *;have A:=BM (f:=fun x=>bG x v.o (L.g q 3)) (idx:=nX L (L.g q 2)) (R:=L.R) (d := -(L.g q 3)) (fun x C=>by obtain⟨_,_,_,_,_,_,_,_,_,B,_⟩:=IJ C; rw[B]; omega) _ b;have u:=h.gb q n;refine⟨fun k c => ?_,fun p l => ?_⟩
 ·show kH ((dw _ _ _ _).1 k)=jG L.t L.tn (aJ L.g q (aJ (L.g q) 4 v.req)) (L.id k) L.gn;rw[Kq _ n,<- h.us k c,A k];have a:lZ L.t L.tn (aJ (L.g q) 4 v.req) (L.id k)=0:=by
   unfold lZ; rw[b_]; show ¬ v.req=0; omega
  have r:lZ L.t L.tn (L.g q) (L.id k)=L.g q 3*zX L.t L.tn (L.g q 2) (L.id k):=d_ D;rw[a,r];unfold zX;rw[<- MB (idx:=nX L (L.g q 2)) (k:=k) _ fun i w=>DZ s c w,Int.neg_mul];omega
 show 0<=bE L.t L.tn (aJ L.g q (aJ (L.g q) 4 v.req) p 2)/\1<=aJ L.g q (aJ (L.g q) 4 v.req) p 0/\aJ L.g q (aJ (L.g q) 4 v.req) p 0<=6/\0<=aJ L.g q (aJ (L.g q) 4 v.req) p 3/\aJ L.g q (aJ (L.g q) 4 v.req) p 3<=1125899906842624;by_cases e:p=q
 ·subst e;have a : ∀ j,j≠4->aJ L.g p (aJ (L.g p) 4 v.req) p j=L.g p j:=fun j y=>by
   show(if p=p then aJ (L.g p) 4 v.req else L.g p) j=_;rw[d_ rfl]; exact b_ y
  rw[a 2 (by omega),a 0 (by omega),a 3 (by omega)]; exact u
 have a:aJ L.g q (aJ (L.g q) 4 v.req) p=L.g p:=b_ e;rw[a]; exact h.gb p l
theorem IU{a:fP}(h:zY L)(j:a.nn=L.nn)(l:a.id=L.id)(c:a.tn=L.tn)(d:a.t=L.t)(e:a.gn=L.gn)(f:a.g=L.g)(m : ∀ k,k<L.nn->kH (a.R k)=kH (L.R k)):zY a:=by
 refine⟨fun k b => ?_,fun q i => ?_⟩
 ·rw[j]at b; rw[l,c,d,e,f,m k b]; exact h.us k b
 rw[e]at i; rw[c,d,f]; exact h.gb q i
theorem Ua{q:Nat}{r:Nat->Int}{R:Nat->Nat->Int}(hr:kH r=kH (R q))(k:Nat):kH (aJ R q r k)=kH (R k):=by
 unfold aJ; split
 ·rename_i e; rw[e]; exact hr
 rfl
theorem oJ.path{t t':Nat->Nat->Int}{tn:Nat}{id par z y:Int}(h:oJ t t' tn id par)(A:1<=id)(r : ∀ i,i<tn->t i 1=0\/0<=bE t tn (t i 1))(p : ∃ D,D<=4/\bE t tn (bA t tn D z)<0)(C:0<=bE t tn z) :
 zX t' (tn+1) z y=zX t tn z y/\(y=id->zX t tn z y=0):=by
 obtain⟨D,w,g⟩:=p;obtain⟨K,x,c,a⟩:=uZ D g;have f:K=bT t tn z:=uV a c g (by omega);have d : ∀ i,i<=K->bA t' (tn+1) i z=bA t tn i z:=fun i b=>h.iter i fun j B=>a j (by omega);have k:bE t' (tn+1) (bA t' (tn+1) K z)<0:=by
  rw[d K (z_ _)]
  rcases Zy (bE t' (tn+1) (bA t tn K z))with h1|h1
  ·exact h1
  ·exfalso
   rcases h.find.1 h1 with h2|h2
   ·omega
   ·cases K with
    | zero=>have:bE t tn z<0:=c; omega
    | succ K =>
      obtain⟨i,b,e⟩:=iC.1 (a K (by omega));have l:bA t tn (K+1) z=t i 1:=by
       show t (bE t tn (bA t tn K z)).toNat 1=t i 1;rw[<- e,uY h.u b]; rfl
      rw[l]at h2 c
      rcases r i b with h4|h4
      ·omega
      ·omega
 have m:K=bT t' (tn+1) z:=uV (fun i b=>by rw[d i (by omega)]; exact h.find.2 (.inl (a i b))) k k (by omega);have o : ∀ n,n<=K->AQ t' (tn+1) z y n=AQ t tn z y n:=by
  intro n
  induction n with
  | zero=>intro _; rfl
  | succ n ih=>intro q; unfold AQ; rw[ih (by omega),d n (by omega)]
 refine⟨?_,fun s => ?_⟩
 ·unfold zX; rw[<- f,<- m]; exact o K (z_ _)
 subst s;have : ∀ n,n<=K->AQ t tn z y n=0:=by
  intro n
  induction n with
  | zero=>intro _; rfl
  | succ n ih =>
    intro q; unfold AQ;rw[ih (by omega),b_]
    ·rfl
    ·intro e;have:=a n (by omega);rw[e]at this;have v:=uX.2 h.no;omega
 unfold zX; rw[<- f]; exact this K (z_ _)
attribute [local irreducible] bT in
theorem MF(a:Inv0 L T)(h:zY L)(l:bO v=true)(s:v.kind=1)(r:jX L v=0):zY (qj L v):=by
 obtain⟨k,u,A,E,D,B,C,p,F,G,n⟩:=wE a l s r;have z:=mG l;rw[p];generalize jc v.o v.seq=x at *;have w : ∀ i,i<L.tn->L.t i 1=0\/0<=bE L.t L.tn (L.t i 1):=fun i c=>by
  have d:=c;rw[a.BL]at d;rw[(a.tid i d).2]
  rcases a.up i d with e|⟨j,hj,e⟩
  ·exact .inl e
  ·exact .inr (iC.2 ⟨j,by rw[a.BL]; exact hj,by rw[(a.tid j hj).1]; exact e⟩)
 have m : ∀ q,q<L.gn -> ∀ y,zX (oF L.t k x v.node) (L.tn+1) (L.g q 2) y=zX L.t L.tn (L.g q 2) y/\(y=x->zX L.t L.tn (L.g q 2) y=0):=fun q b y=>n.path A w (a.dep _) (h.gb q b).1;refine⟨fun i c => ?_,fun q b => ?_⟩
 ·show kH (cK L.R k (upd (fun _=>0) (aP v) v.aU) i)=jG (oF L.t k x v.node) (L.tn+1) L.g (cK L.id k x i) L.gn;rw[yG (t:=L.t) (tn:=L.tn) (g:=L.g) (y:=cK L.id k x i) L.gn fun q b=>by unfold lZ; rw[(m q b _).1]]
  rcases dU u c with rfl|⟨j,hj,e,_,_⟩
  ·rw[dG,dG,Ku z,GN L.gn fun q b=>by unfold lZ; rw[(m q b _).2 rfl,Int.mul_zero]; exact ite_self _];rfl
  rw[e,e]; exact h.us j hj
 have f:=h.gb q b;exact⟨n.find.2 (.inl f.1),f.2⟩
theorem GQ(g:Inv0 L T)(h:zY L)(c:bO v=true)(a:dR L v=0):zY (iI L v):=by
 have m:=iY c;have l:=mG c;unfold dR at a;unfold iI;by_cases b:v.kind=1
 ·rw[d_ b]at a ⊢; exact MF g h c b a
 by_cases d:v.kind=2
 ·rw[b_ b,d_ d]at a ⊢;exact IU h rfl rfl rfl rfl rfl rfl fun k _=>Ua (Ku l) k
 by_cases e:v.kind=3
 ·rw[b_ b,b_ d,d_ e]at a ⊢; exact MC g h c e a
 by_cases f:v.kind=4
 ·rw[b_ b,b_ d,b_ e,d_ f]at a ⊢; exact ME g h c f a
 by_cases i:v.kind=5
 ·rw[b_ b,b_ d,b_ e,b_ f,d_ i]at a ⊢;unfold oI at a;split at a; · cases a
  split at a; · cases a
  obtain⟨_,_,_,_,_,_,_,_,_,_,j,_⟩:=AL a;exact IU h rfl rfl rfl rfl rfl rfl fun k _=>Ua j.u k
 rw[b_ b,b_ d,b_ e,b_ f,b_ i];split
 ·exact IU h rfl rfl rfl rfl rfl rfl fun _ _=>rfl
 exact IU h rfl rfl rfl rfl rfl rfl fun _ _=>rfl
theorem Ub{t:Nat->Nat->Int}{tn D:Nat}{x:Int}(h:bE t tn (bA t tn D x)<0):bT t tn x<=D:=by
 rcases Nat.lt_or_ge D (bT t tn x)with h1|h1
 ·have:=AU h1; omega
 exact h1
theorem Inv0.afU(h:Inv0 L T)(x:Int):bT L.t L.tn x<=4:=by
 obtain⟨D,b,a⟩:=h.dep x;have:=Ub a; omega
theorem AV{x:Nat->Int}{p:Nat}{n c:Int}(h : ∀ a,a<54->x a<=c)(d:n<=c) : ∀ a,a<54->upd x p n a<=c:=fun a b=>by
 show(if a=p then n else x a)<=c;split
 ·exact d
 ·exact h a b
theorem EZ{f:(Nat->Int)->(Nat->Int) × Int}{idx:Nat->Nat}{R:Nat->Nat->Int}{n:Nat}{B d:Int}(o:0<=d)(m : ∀ x c,(f x).2=0->(∀ a,a<54->x a<=c) -> ∀ a,a<54->(f x).1 a<=c+d)(j : ∀ k,k<n -> ∀ a,a<54->R k a<=B) : ∀(K:Nat) k,k<n -> ∀ a,a<54->(dw f idx R K).1 k a<=B+d*(K:Int)
 | 0,k,hk,a,ha=>by have h:=j k hk a ha; show R k a<=B+d*0; omega
 | K+1,k,hk,a,ha=>by
   have b:=EZ o m j (idx:=idx) K;have e:d*((K+1:Nat):Int)=d*(K:Int)+d:=(by rw[Int.natCast_succ,Int.mul_add,Int.mul_one]);rw[e];unfold dw;by_cases l:(dw f idx R K).2=0
   ·rw[d_ l];by_cases g:(f ((dw f idx R K).1 (idx K))).2=0
    ·rw[d_ g];show(if k=idx K then _ else _:Nat->Int) a<=_;by_cases i:k=idx K
     ·rw[d_ i];have:=m _ (B+d*(K:Int)) g (by rw[<- i]; exact b k hk) a ha; omega
     ·rw[b_ i]; have:=b k hk a ha; omega
    ·rw[b_ g]; have:=b k hk a ha; show(dw f idx R K).1 k a<=_; omega
   ·rw[b_ l]; have:=b k hk a ha; omega
theorem Uc{i n c:Int}{x:Nat->Int}(g:n<=65536)(h:(bC x i n).2=0)(hx : ∀ a,a<54->x a<=c) : ∀ a,a<54->(bC x i n).1 a<=c+65536:=by
 obtain⟨a,f,_,_,_,_,_,_,_,_,_,e⟩:=II h;rw[e];have:=hx (6+a) (by omega);exact AV (fun b d=>by have:=hx b d; omega) (by omega)
theorem Ud{i n c:Int}{x:Nat->Int}(h:(bG x i n).2=0)(hx : ∀ a,a<54->x a<=c) : ∀ a,a<54->(bG x i n).1 a<=c+0:=by
 obtain⟨a,g,_,_,_,b,_,_,_,_,e⟩:=IJ h;rw[e,C_];have d:=hx (6+a) (by omega);have f:n<=x (6+a)-x (12+a):=b;exact AV hx (by omega)
theorem Od(h:P6 L T){a:Nat}{r:Int}(hr:r<=256) : ∀ i,i<6 -> ∀ j,j<aJ L.rn a (L.rn a+1) i->aJ L.rq a (aJ (L.rq a) (L.rn a) r) i j<=256:=fun i d j b=>by
 unfold aJ at b ⊢;by_cases e:i=a
 ·subst e;rw[d_ rfl]at b ⊢;by_cases c:j=L.rn i
  ·rw[d_ c]; exact hr
  ·rw[b_ c]; exact h.rq i d j (by omega)
 ·rw[b_ e]at b ⊢; exact h.rq i d j b
attribute [local irreducible] bT in
theorem P7(A:Inv0 L T)(h:P6 L T)(E:nY v)(D:bO v=true)(d:dR L v=0) :
 (∀ k,k<(iI L v).nn -> ∀ a,a<54->(iI L v).R k a<=2097152*((T+1:Nat):Int))/\(∀ i,i<6 -> ∀ j,j<(iI L v).rn i->(iI L v).rq i j<=256):=by
 have m:=iY D;have ab:=mG D;have V:(0:Int)<=(T:Int):=Int.natCast_nonneg _;have X:((T+1:Nat):Int)=(T:Int)+1:=Int.natCast_succ _;have u : ∀ k,k<L.nn -> ∀ a,a<54->L.R k a<=2097152*((T+1:Nat):Int):=fun k m a l=>by have:=h.rb k m a l; omega
 have G : ∀ q r,(∀ a,a<54->r a<=2097152*((T+1:Nat):Int)) -> ∀ k,k<L.nn -> ∀ a,a<54->aJ L.R q r k a<=2097152*((T+1:Nat):Int):=fun q r O k m a l=>by
  unfold aJ; split
  ·exact O a l
  ·exact u k m a l
 have P:=E.aU;unfold dR at d;unfold iI;by_cases s:v.kind=1
 ·rw[d_ s]at d ⊢;obtain⟨k,N,ae,Z,Y,Q,S,I,aa,ac,ad⟩:=wE A D s d;rw[I];refine⟨fun i M a l => ?_,h.rq⟩;show cK L.R k (upd (fun _=>0) (aP v) v.aU) i a<=_
  rcases dU N M with rfl|⟨j,hj,e,_,_⟩
  ·rw[dG];exact AV (c:=2097152*((T+1:Nat):Int)) (fun b _=>by omega) (by omega) a l
  rw[e]; exact u j hj a l
 by_cases z:v.kind=2
 ·rw[b_ s,d_ z]at d ⊢;unfold wD at d;split at d; · cases d
  rename_i n1;split at d; · cases d
  have w:=A.Oc n1;have J:=h.rb _ w (aP v) (by omega);exact⟨G _ _ (AV (fun b B=>u _ w b B) (by omega)),h.rq⟩
 by_cases C:v.kind=3
 ·rw[b_ s,b_ z,d_ C]at d ⊢;have y : ∀ k,k<L.nn -> ∀ a,a<54->(mR L v).1 k a<=2097152*((T+1:Nat):Int):=fun k m a l=>by
   have U:=A.afU v.node;have:=EZ (f:=fun x=>bC x v.o v.aU) (idx:=nX L v.node) (by decide) (fun x c=>Uc P) h.rb (bT L.t L.tn v.node) k m a l;unfold mR; omega
  unfold lN qm;generalize mR L v=W at y;exact⟨y,Od h E.req⟩
 by_cases F:v.kind=4
 ·rw[b_ s,b_ z,b_ C,d_ F]at d ⊢;have y : ∀ k,k<L.nn -> ∀ a,a<54->(lQ L v).1 k a<=2097152*((T+1:Nat):Int):=fun k m a l=>by
   have:=EZ (f:=fun x=>bG x v.o (L.g (zy L v) 3)) (idx:=nX L (L.g (zy L v) 2)) (M_ 0) (fun x c=>Ud) h.rb (bT L.t L.tn (L.g (zy L v) 2)) k m a l;unfold lQ; omega
  unfold jY qm;generalize lQ L v=W at y;exact⟨y,Od h E.req⟩
 by_cases H:v.kind=5
 ·rw[b_ s,b_ z,b_ C,b_ F,d_ H]at d ⊢;unfold oI at d;split at d; · cases d
  rename_i n1;split at d; · cases d
  have w:=A.Oc n1;obtain⟨a,b,l,B,_,_,_,_,_,_,_,e⟩:=AL d;have J:=h.rb _ w (18+a*6+b) (by omega);have K:=G (L.node v.node).toNat _ (AV (x:=L.R (L.node v.node).toNat) (p:=18+a*6+b) (n:=L.R (L.node v.node).toNat (18+a*6+b)+v.aU) (fun b B=>u _ w b B) (by omega));refine⟨?_,h.rq⟩;show ∀ k,k<L.nn -> ∀ c,c<54->aJ L.R (L.node v.node).toNat (xU L v).1 k c<=_;unfold xU;rw[e]; exact K
 rw[b_ s,b_ z,b_ C,b_ F,b_ H];split
 ·exact⟨u,h.rq⟩
 exact⟨u,h.rq⟩
theorem P6.mono{T':Nat}(h:P6 L T)(e:T<=T'):P6 L T' where
 kt:=fun i c=>by have:=h.kt i c; omega
 rb:=fun k d a b=>by have:=h.rb k d a b; omega
 rq:=h.rq
theorem GR(j:nY v)(h:Inv L T):Inv (aA L v) (T+1):=by
 refine⟨zW h.toInv0,?_,?_⟩ <;> unfold aA <;> by_cases a:bP L v=0
 ·rw[d_ a];unfold bP at a;split at a; · cases a
  rename_i d;split at a; · cases a
  split at a; · cases a
  split at a; · cases a
  have e:bO v=true:=by simpa using d
  have c:=GQ h.toInv0 h.s e a;exact⟨c.us,c.gb⟩
 ·rw[b_ a]; exact h.s
 ·rw[d_ a];unfold bP at a;split at a; · cases a
  rename_i d;split at a; · cases a
  split at a; · cases a
  split at a; · cases a
  have e:bO v=true:=by simpa using d
  have c:=P7 h.toInv0 h.b j e a;refine⟨fun i g => ?_,c.1,c.2⟩;have f:(GJ (iI L v) v).known=aJ L.known (aP v) (L.known (aP v)+1):=by unfold GJ; simp only[pJ]
  rw[f];have d:=h.b.kt i g;have k:=h.b.kt (aP v) (mG e);unfold aJ;split <;> omega
 rw[b_ a]; exact h.b.mono (Nat.le_succ T)
theorem Inv.mono{T':Nat}(h:Inv L T)(a:T<=T'):Inv L T':=⟨h.toInv0.mono a,h.s,h.b.mono a⟩
end
end Rt
end
section
namespace Rt
def evX(e:Nat->EvM):Nat->Value:=flat 14 fun k=>bS (e k)
noncomputable def oh(e:Nat->EvM)(K:Nat->Int)(L:fP):Nat->fP
 | 0=>L
 | j+1=>if(e j).seq<=K (aP (e j))then aA (oh e K L j) (e j)else oh e K L j
def Kv(L M:fP):Prop := ∀ i,i<6->L.known i=M.known i
open Classical in
noncomputable def iR(e:Nat->EvM)(n:Nat)(K:Nat->Int):Nat->fP->fP
 | 0,L=>L
 | f+1,L=>if Kv (oh e K L n) L then oh e K L n else iR e n K f (oh e K L n)
noncomputable def E5(e:Nat->EvM)(n:Nat)(K:Nat->Int)(L:fP):fP:=iR e n K (n+1) L
section
variable {e:Nat->EvM} {K:Nat->Int} {L M M':fP} {j n r:Nat}
theorem Ue(h:M=oh e K L j)(b:(e j).seq<=K (aP (e j)))(a:M'=aA M (e j)):M'=oh e K L (j+1):=by unfold oh; rw[d_ b,<- h,a]
theorem XJ(h:M=oh e K L j)(a : ¬ (e j).seq<=K (aP (e j))):M=oh e K L (j+1):=by unfold oh; rw[b_ a,<- h]
theorem P8(hr:r<=n)(h:M=oh e K L n)(a:Kv M L):iR e n K (n+1-r) L=M:=by
 rw[show n+1-r=(n-r)+1 by omega]; unfold iR; rw[<- h,d_ a]
theorem Uf(hr:r<=n)(h:M=oh e K L n)(a : ¬ Kv M L):iR e n K (n+1-(r+1)) M=iR e n K (n+1-r) L:=by
 rw[show n+1-r=(n-r)+1 by omega,show n+1-(r+1)=n-r by omega]
 conv=>rhs; unfold iR
 rw[<- h,b_ a]
theorem GU{m a:kX}:Kv m.core a.core <-> ∀ i,i<6->(rv .u64 m.s.known) i=(rv .u64 a.s.known) i:=by
 unfold Kv rv;simp only[Value.int.injEq,true_and]; exact Iff.rfl
end
theorem F3.kd{K:Nat->Int}(h:F3 K):Fx.Kd (List.replicate 6 (some .u64)) (rv .u64 K):=Fx.QZ fun i a=>Fx.um (by have:=h i a; omega)
end Rt
attribute [irreducible] Rt.iR
set_option maxRecDepth 20000 in
theorem XK(m:kX)(B p T:Nat)(O:Option Addr)(an E:Nat)(ev:Nat->EvM)(K:Nat->Int)(w:World)(hL:vF w B p m)(hI:Inv m.core T)(hA:ou w O an 14 (evX ev))(hwf : ∀ k,k<an->gy (ev k))(hmay : ∀ k,k<an->bO (ev k)=true)(hsm : ∀ k,k<an->nY (ev k))(han:an<=60)(hT:T<=890000) :
 Calls Tryz.prog 37 #[(pt p),.slice O (an) (E),.agg (aC 6 (rv .u64 K))] w fun e w' => ∃ p' m',e = .returned (pt p')/\m'.core=E5 ev an K m.core/\Inv m'.core (T+3660)/\vF w' B p' m'/\Below w.heap.size w w':=by
 refine Kent Tryz.func37 59 ?_;refine ay<|rU fun H w1 mD g s1 z1 => ?_;have⟨l,b1⟩:=fC s1.old hL (Below.refl w.heap.size w);have uG:=iE mD;have wO:=g.lt;refine av (.pointer none)<|aD<|Ws<|ay<|av (au 0)<|aD<|Wb<|Wo (fun f z => ∃ r:Nat,∃ x:Nat,∃ g:kX,∃ N:Nat,r<=an+1/\iR ev an K (an+1-r) g.core=E5 ev an K m.core/\Inv g.core N/\N<=T+r*60/\f 0=(pt x)/\f 1 = .slice O (an) (E)/\f 5=(pt H)/\f 7=au (r:Int)/\aS z H 6 (rv .u64 K) 30/\vF z B x g/\Below w.heap.size w z) (fun f _=>(an+1-(intOf (f 7)).toNat)) ⟨0,p,m,T,by omega,rfl,hI,by omega,(by rfl),(by rfl),(by rfl),Fx.ic,g,l,b1⟩ ?_;rintro f1 w2 ⟨r,x,g,N,hr,hc1,S,hT1,h1,h2,h3,h4,m3,m4,b2⟩;refine Ws<|ay<|aX h4<|aX h2<|av (au an) ?_;by_cases c13:(r:Int)<=(an:Int)
 ·refine Lv aH (nD c13)<|aD<|aO<|Wk<|sN<|Ws<|Wb<|Ws ?_;have afV:=m4.c;refine Wl<|aX h1<|av (pt x)<|av (pt x)<|av (pf x 12)<|Lv (.agg (aC 6 (rv .u64 g.s.known))) (gI afV.aI 12 (fun j V=>lM _ (by omega) (mW _ V (by omega))))<|xg 6 (rv .u64 (fun _=>0)) fun g2 w3 yA m5 s2 z2 => ?_;have⟨m6,m7,b3⟩:=ku s2.old m3 m4 b2;have sG:=jI yA b2.size;have⟨aft,afW⟩:=xM yA m3.lt afV.lt;have Bg:=m5.lt;refine fH m5 0 fun w4 m9 s3 z3 => ?_;have m10:aS w4 g2 6 (rv .u64 g.s.known) 30:=aW m9;have m11:=m6.cZ s3 (by omega);have gK:=gY s3 m5.ty;have m12:=lJ gK m7;have b4:=s3.below b3 b3.size (by omega);refine aD<|Ws<|ay<|av (au 0)<|aD<|Wb<|Wo (fun f z => ∃ j:Nat,∃ u:Nat,∃ l:kX,∃ A:Nat,j<=an/\l.core=oh ev K g.core j/\Inv l.core A/\A<=T+r*60+j/\f 0=(pt u)/\f 1 = .slice O (an) (E)/\f 5=(pt H)/\f 7=au (r:Int)/\f 8=(pt g2)/\f 9=au (j:Int)/\aS z H 6 (rv .u64 K) 30/\aS z g2 6 (rv .u64 g.s.known) 30/\vF z B u l/\Below w.heap.size w z) (fun f _=>(an-(intOf (f 9)).toNat)) ⟨0,x,g,N,by omega,rfl,S,by omega,h1,h2,h3,(h4.trans Fx.ic),(by rfl),Fx.ic,m11,m10,m12,b4⟩ ?_;rintro f2 t ⟨j,u,l,A,V,U,D,hT2,I,C,R,h8,h9,y,W,m15,J,G⟩;refine Ws<|ay<|aX y<|aX C<|av (au an) ?_;by_cases c24:(j:Int)<(an:Int)
  ·refine Lv aH (gV c24)<|aD<|aO<|Wk<|sN<|Ws<|Wb<|Ws ?_;obtain⟨a,ha,ho⟩:=fA (iL (hmay j (by omega)));have eN:aP (ev j)=a:=(by unfold aP; omega);refine xL<|dX C<|dX y ?_;obtain⟨F,L,eq1,Z⟩:=(hA.up G rfl) (by omega);have amF:F<t.heap.size:=Z.lt (by omega);refine Qv (pf F (14*j+L)) (fun b d=>dh 14 (hx:=(rfl.trans (K_ (fun q=>Value.slice q (an) (E)) eq1))))<|aT (pf F (14*j+L+1))<|Qv (aF ((ev j).seq)) (fun b d=>aN (Z.dr d) (14*j+1) (Fx.dW (k:=j) (j:=1) (by omega) (by omega) rfl))<|dX C<|dX y<|Qv (pf F (14*j+L)) (fun b d=>dh 14 (hx:=(rfl.trans (K_ (fun q=>Value.slice q (an) (E)) eq1))))<|aT (pf F (14*j+L))<|Qv (au ((ev j).o)) (fun b d=>aN (Z.dr d) (14*j) (Fx.dW (k:=j) (j:=0) (by omega) (by omega) rfl))<|Qv (au a) (fun b d=>gu)<|Qv (pf H a) (fun b d=>jE 6 1 (hx:=R))<|Qv (aF (K a)) (fun b d=>aN (W.aI.dr d) a) ?_;by_cases P:((ev j).seq)<=(K a)
   ·refine Qv aH (fun b d=>nD P)<|Qn ?_;rintro _ ⟨v,rfl⟩;obtain⟨Cw,oG⟩ : ∃ b,b=World.drewN t v:=⟨_,rfl⟩;rw[<- oG];have s4:Stp t.heap.size t Cw:=(by rw[oG]; exact Sb (jl t v));have⟨m18,m19,m20,m21,b6⟩:=vP s4.old W m15 J Z G;clear oG;refine sN<|aO<|Wl<|aX I<|aX C<|aX y<|Lv (pf F (14*j+L)) (dh 14 (hx:=(rfl.trans (K_ (fun q=>Value.slice q (an) (E)) eq1))))<|Lv (.agg (aC 14 (bS (ev j)))) (gI m21 (14*j) (fun jq hjq=>Fx.nA (k:=j) (by omega) hjq))<|lS (N9 l B u A (ev j) _ m20 (hwf j (by omega)) D.w (by omega)) ?_;rintro e9 w6 ⟨M,m3,he,hc3,hL1,hb1⟩;refine⟨.tuple #[(pt M),au (bP l.core (ev j))],he,?_⟩;clear he;have⟨m22,m23,b7⟩:=ku hb1 m18 m19 b6;refine av (.tuple #[(pt M),au (bP l.core (ev j))])<|av (pt M)<|av (au (bP l.core (ev j)))<|av (pt M)<|Ln<|bQ<|sN<|Wl<|aX y<|Lv (au ((j:Int)+1)) eY<|av (au ((j:Int)+1))<|Ln<|gT ⟨j+1,M,m3,A+1,by omega,(Ue U (by rw[eN]; exact P) hc3),(by rw[hc3]; exact GR (hsm j (by omega)) D),by omega,(by rfl),C,R,(h8.trans Fx.ic),h9,Fx.ic,m22,m23,hL1,b7⟩ ?_;show(an-(intOf (au ((j:Int)+1))).toNat)<_;simp only[y,intOf]; omega
   refine Qv aG (fun b d=>nT P)<|Qn ?_;rintro _ ⟨v,rfl⟩;obtain⟨wq2,rJ⟩ : ∃ b,b=World.drewN t v:=⟨_,rfl⟩;rw[<- rJ];have s6:Stp t.heap.size t wq2:=(by rw[rJ]; exact Sb (jl t v));have⟨ni,nZ,oz,b8⟩:=oZ s6.old W m15 J G;clear rJ;refine sN<|aL<|Wk<|bQ<|sN<|Wl<|aX y<|Lv (au ((j:Int)+1)) eY<|av (au ((j:Int)+1))<|Ln<|gT ⟨j+1,u,l,A,by omega,(XJ U (by rw[eN]; exact P)),D,by omega,I,C,R,(h8.trans Fx.ic),h9,Fx.ic,ni,nZ,oz,b8⟩ ?_;show(an-(intOf (au ((j:Int)+1))).toNat)<_;simp only[y,intOf]; omega
  refine Lv aG (gW c24)<|aD<|aL<|Wx<|cu<|gJ<|cB<|sN<|Ws ?_;have amG:=J.c;refine xL<|dX I<|aT (pt u)<|aT (pt u)<|aT (pf u 12)<|Qv (.agg (aC 6 (rv .u64 l.s.known))) (fun b d=>gI (amG.aI.dr d) 12 (fun j V=>lM _ (by omega) (mW _ V (by omega))))<|Qv (.agg (aC 6 (rv .u64 g.s.known))) (fun b d=>gI (m15.aI.dr d) 0 (ha:=h9)) ?_;by_cases Q : ∀ i,i<6->(rv .u64 l.s.known) i=(rv .u64 g.s.known) i
  ·refine Qv aH (fun b d=>Fx.xG (n:=6) (ks:=List.replicate 6 (some .u64)) (X:=rv .u64 l.s.known) (Y:=rv .u64 g.s.known) 12 true rfl rfl rfl (Fx.Wn Q) (F3.kd D.kn) (F3.kd S.kn) rfl (by kernel_rfl) (by kernel_rfl) (by kernel_rfl) (by kernel_rfl) (by kernel_rfl))<|Qn ?_;rintro _ ⟨v,rfl⟩;obtain⟨Jm,zU⟩ : ∃ b,b=World.drewN t v:=⟨_,rfl⟩;rw[<- zU];have s7:Stp t.heap.size t Jm:=(by rw[zU]; exact Sb (jl t v));have⟨mE,b9⟩:=fC s7.old J G;clear zU;refine sN<|aO<|ay<|aX I<|av (pt u)<|aD<|Wr<|bM<|sR<|qb<|bM<|sR<|aK (pt u) ?_;exact⟨u,l,rfl,((P8 (n:=an) (r:=r) (by omega) (by rw[show an=j by omega]; exact U) (GU.2 Q)).symm.trans hc1),D.mono (by omega),mE,b9⟩
  refine Qv aG (fun b d=>Fx.xG (n:=6) (ks:=List.replicate 6 (some .u64)) (X:=rv .u64 l.s.known) (Y:=rv .u64 g.s.known) 12 false rfl rfl rfl (Fx.nob Q) (F3.kd D.kn) (F3.kd S.kn) rfl (by kernel_rfl) (by kernel_rfl) (by kernel_rfl) (by kernel_rfl) (by kernel_rfl))<|Qn ?_;rintro _ ⟨v,rfl⟩;obtain⟨TL,zV⟩ : ∃ b,b=World.drewN t v:=⟨_,rfl⟩;rw[<- zV];have s8:Stp t.heap.size t TL:=by rw[zV]; exact Sb (jl t v)
  have⟨qh,pW,b10⟩:=ku s8.old W J G;clear zV;refine sN<|aL<|Wk<|bQ<|sN<|Wl<|aX h8<|Lv (au ((r:Int)+1)) eY<|av (au ((r:Int)+1))<|Ln<|gT ⟨r+1,u,l,A,by omega,(Uf (by omega) (by rw[show an=j by omega]; exact U) (fun h=>Q (GU.1 h))).trans hc1,D,by omega,I,C,R,Fx.ic,qh,pW,b10⟩ ?_;show(an+1-(intOf (au ((r:Int)+1))).toNat)<_;simp only[h4,intOf]; omega
 refine Lv aG (nT c13)<|aD<|aL<|Wx<|cu<|gJ<|cB<|sN<|ay<|aX h1<|av (pt x)<|aD<|Wr<|aK (pt x) ?_;exact⟨x,g,rfl,(by rw[<- hc1,show an+1-r=0 by omega]; unfold iR; rfl),S.mono (by omega),m4,b2⟩
end
section
namespace Rt
def zeroE:EvM:=⟨0,0,fun _=>0,0,0,0,0,0,0⟩
def fT(ev:Nat->EvM):Nat->Nat->Int
 | 0,_=>0
 | k+1,i=>fT ev k i+if aP (ev k)=i then 1 else 0
structure Oe(ev:Nat->EvM)(an:Nat)(K:Nat->Int):Prop where
 le : ∀ i,i<6->K i<=fT ev an i
 cl : ∀ k,k<an->(ev k).seq<=K (aP (ev k)) -> ∀ i,i<6->(ev k).deps i<=K i
structure Cz(n an:Nat)(ev:Nat->EvM)(kn:Nat->Nat->Int):Prop where
 rd : ∀ k,k<an->dI (fT ev k) (ev k)=true
 reg : ∀ k,k<an->aP (ev k)<n
 own : ∀ o,o<n->kn o o=fT ev an o
 kc : ∀ o,o<n->Oe ev an (kn o)
section
variable {ev:Nat->EvM} {an n j k i:Nat} {K:Nat->Int} {kn kn':Nat->Nat->Int} {v:EvM} {L:fP}
theorem Ug : ∀ d k i,fT ev k i<=fT ev (k+d) i
 | 0,_,_=>M_ _
 | d+1,k,i=>by have:=Ug d k i; show _<=fT ev (k+d) i+_; split <;> omega
theorem cnt_mono(h:j<=k):fT ev j i<=fT ev k i:=by have:=Ug (ev:=ev) (k-j) j i; rwa [show j+(k-j)=k by omega]at this
theorem D5(h:j<k):fT ev j (aP (ev j))+1<=fT ev k (aP (ev j)):=by
 have a:fT ev (j+1) (aP (ev j))<=fT ev k (aP (ev j)):=cnt_mono (by omega);have b:fT ev (j+1) (aP (ev j))=fT ev j (aP (ev j))+1:=by show _+(if _ then _ else _)=_; rw[d_ rfl]
 omega
theorem E8 : ∀ k i,0<=fT ev k i
 | 0,_=>M_ _
 | k+1,i=>by have:=E8 k i; unfold fT; split <;> omega
theorem E9(h:dI K v=true):bO v=true/\v.seq=K (aP v)+1 /\ ∀ i,i<6->v.deps i<=K i:=by
 unfold dI at h;simp only[R_,decide_eq_true_eq]at h;refine⟨h.1.1,h.1.2,fun i a => ?_⟩;have:=h.2;unfold xQ at this;rw[List.all_eq_true]at this;exact h_ (this i (N_.2 a))
theorem MG(h1:bO v=true)(a:v.seq=K (aP v)+1)(b : ∀ i,i<6->v.deps i<=K i):dI K v=true:=by
 unfold dI;simp only[R_,decide_eq_true_eq];refine⟨⟨h1,a⟩,?_⟩;unfold xQ;rw[List.all_eq_true];intro i c;exact f_ (b i (N_.1 c))
theorem Cz.seq(h:Cz n an ev kn)(a:k<an):(ev k).seq=fT ev k (aP (ev k))+1:=(E9 (h.rd k a)).2.1
theorem Cz.MH(h:Cz n an ev kn)(a:k<an):(ev k).seq<=fT ev an (aP (ev k)):=by rw[h.seq a]; exact D5 a
theorem Cz.uniq(h:Cz n an ev kn)(c:j<an)(d:k<an)(b:aP (ev j)=aP (ev k))(a:(ev j).seq=(ev k).seq):j=k:=by
 rw[h.seq c,h.seq d]at a
 rcases Nat.lt_trichotomy j k with h1|h1|h1
 ·have:=D5 (ev:=ev) h1; rw[b]at this a; omega
 ·exact h1
 have:=D5 (ev:=ev) h1; rw[<- b]at this a; omega
theorem Cz.step(h:Cz n an ev kn)(c:Oe ev an K)(d:j<an)(hr:dI K (ev j)=true):Oe ev an (aJ K (aP (ev j)) (K (aP (ev j))+1)):=by
 obtain⟨_,l,m⟩:=E9 hr;have g : ∀ i,K i<=aJ K (aP (ev j)) (K (aP (ev j))+1) i:=fun i=>by unfold aJ; split <;> (try subst_vars) <;> omega
 refine⟨fun i a => ?_,fun k f b i a => ?_⟩
 ·unfold aJ; split
  ·rename_i e; rw[e,<- l]; exact h.MH d
  exact c.le i a
 by_cases e:(ev k).seq<=K (aP (ev k))
 ·exact Q_ (c.cl k f e i a) (g i)
 unfold aJ at b;split at b
 ·rename_i e2;rw[e2]at e;have:k=j:=h.uniq f d e2 (by omega);subst this;exact Q_ (m i a) (g i)
 exact L_ b e
theorem iZ(h:bP L v=0):dI L.known v=true:=by
 unfold bP at h;split at h; · cases h
 split at h; · cases h
 split at h; · cases h
 rename_i h3
 cases e:dI L.known v with
 | true=>rfl
 | false=>exact L_ e h3
theorem qO(L:fP)(v:EvM):(bP L v=0/\(aA L v).known=aJ L.known (aP v) (L.known (aP v)+1))\/(bP L v≠0/\aA L v=L):=by
 by_cases h:bP L v=0
 ·refine .inl ⟨h,?_⟩;unfold aA; rw[d_ h];show aJ (iI L v).known _ _=_;rw[pJ]
 refine .inr ⟨h,?_⟩;unfold aA; rw[b_ h]
def KnO(ev:Nat->EvM)(an o:Nat)(K:Nat->Int):Prop:=Oe ev an K/\K o=fT ev an o
theorem Cz.apply(h:Cz n an ev kn){o:Nat}(a:KnO ev an o L.known)(c:j<an):KnO ev an o (aA L (ev j)).known:=by
 rcases qO L (ev j)with ⟨f,b⟩|⟨_,b⟩
 ·have d:=iZ f;rw[b];refine⟨h.step a.1 c d,?_⟩;unfold aJ;split
  ·rename_i e;have:=(E9 d).2.1;have g:=h.MH c;rw[<- e]at this g;have:=a.2;omega
  exact a.2
 rw[b]; exact a
theorem Cz.pass(h:Cz n an ev kn){o:Nat}{b:Nat->Int}(a:KnO ev an o L.known) : ∀ j,j<=an->KnO ev an o (oh ev b L j).known
 | 0,_=>a
 | j+1,hj=>by
   unfold oh;split
   ·exact h.apply (h.pass a j (by omega)) (by omega)
   ·exact h.pass a j (by omega)
theorem Cz.iR(h:Cz n an ev kn){o:Nat}{a:Nat->Int} : ∀ f L,KnO ev an o L.known->KnO ev an o (iR ev an a f L).known
 | 0,L,hL=>by unfold Rt.iR; exact hL
 | f+1,L,hL=>by
   unfold Rt.iR;split
   ·exact h.pass hL an (z_ _)
   ·exact h.iR f _ (h.pass hL an (z_ _))
theorem Cz.learn(h:Cz n an ev kn){o:Nat}(g:o<n){b:Nat->Int}(i:L.known=kn o)(c : ∀ q,q≠o->kn' q=kn q)(d:kn' o=(E5 ev an b L).known):Cz n an ev kn':=by
 have f:KnO ev an o (E5 ev an b L).known:=h.iR (an+1) L (by rw[i]; exact⟨h.kc o g,h.own o g⟩);refine⟨h.rd,h.reg,fun q a => ?_,fun q a => ?_⟩
 ·by_cases e:q=o
  ·subst e; rw[d]; exact f.2
  rw[c q e]; exact h.own q a
 by_cases e:q=o
 ·subst e; rw[d]; exact f.1
 rw[c q e]; exact h.kc q a
theorem wF : ∀ k,k<=an -> ∀ i,fT (aJ ev an v) k i=fT ev k i
 | 0,_,_=>rfl
 | k+1,hk,i=>by
   have e:aJ ev an v k=ev k:=(by unfold aJ; rw[b_ (by omega)]);show fT (aJ ev an v) k i+(if aP (aJ ev an v k)=i then 1 else 0)=fT ev k i+if aP (ev k)=i then 1 else 0;rw[e,wF k (by omega) i]
theorem Og(i:Nat):fT (aJ ev an v) (an+1) i=fT ev an i+if aP v=i then 1 else 0:=by
 show fT (aJ ev an v) an i+(if aP (aJ ev an v an)=i then 1 else 0)=_;rw[wF an (z_ _)];unfold aJ; rw[d_ rfl]
theorem Cz.event(h:Cz n an ev kn){o:Nat}(m:o<n)(hr:dI (kn o) v=true)(d:aP v=o)(y:v.deps=kn o)(g : ∀ q,q≠o->kn' q=kn q)(j:kn' o=aJ (kn o) o (kn o o+1)):Cz n (an+1) (aJ ev an v) kn':=by
 obtain⟨u,t,z⟩:=E9 hr;rw[d]at t;have s : ∀ k,k<an->aJ ev an v k=ev k:=fun k l=>by unfold aJ; rw[b_ (by omega)]
 have r:aJ ev an v an=v:=by unfold aJ; rw[d_ rfl]
 have p:=h.own o m;refine⟨fun k l => ?_,fun k l => ?_,fun q c => ?_,fun q c=>⟨fun i b => ?_,fun k l a i b => ?_⟩⟩
 ·have e:fT (aJ ev an v) k=fT ev k:=funext fun i=>wF k (by omega) i;rw[e];by_cases f:k=an
  ·subst f; rw[r];refine MG u (by rw[d,t,p]) fun i b => ?_;exact Q_ (z i b) ((h.kc o m).le i b)
  rw[s k (by omega)]; exact h.rd k (by omega)
 ·by_cases f:k=an
  ·subst f; rw[r,d]; exact m
  rw[s k (by omega)]; exact h.reg k (by omega)
 ·rw[Og,d];by_cases e:q=o
  ·subst e; rw[j,d_ rfl]; unfold aJ; rw[d_ rfl,p]
  rw[g q e,b_ (fun x=>e x.symm),h.own q c,C_]
 ·rw[Og,d];by_cases e:q=o
  ·subst e; rw[j]; unfold aJ;split
   ·rename_i ei; subst ei; rw[d_ rfl,p]; exact M_ _
   have:=(h.kc q c).le i b; split <;> omega
  rw[g q e]; have:=(h.kc q c).le i b; split <;> omega
 by_cases f:k=an
 ·subst f;rw[r]at a ⊢;by_cases e:q=o
  ·subst e; rw[j,y]; unfold aJ; split <;> (try subst_vars) <;> omega
  rw[g q e,d,t]at a;have:=(h.kc q c).le o;have w:o<6:=by have:=mG u; omega
  have:=this w;omega
 rw[s k (by omega)]at a ⊢;by_cases e:q=o
 ·subst e;rw[j]at a ⊢;have A : ∀ i,kn q i<=aJ (kn q) q (kn q q+1) i:=fun i=>by unfold aJ; split <;> (try subst_vars) <;> omega
  refine Q_ ((h.kc q c).cl k (by omega) ?_ i b) (A i);unfold aJ at a;split at a
  ·rename_i e3; have:=h.MH (k:=k) (by omega); rw[e3]at this ⊢; omega
  exact a
 rw[g q e]at a ⊢; exact(h.kc q c).cl k (by omega) a i b
theorem Cz.zero(n:Nat)(h : ∀ o,o<n->kn o=fun _=>0):Cz n 0 ev kn:=⟨fun _ h=>L_ h (u_ _),fun _ h=>L_ h (u_ _),fun o a=>by rw[h o a]; rfl,fun o a=>⟨fun i _=>by rw[h o a]; exact M_ _,fun _ h=>L_ h (u_ _)⟩⟩
end
end Rt
end
end Go.Proofs.YtahbiajdgealnaaGreatDoor
namespace Go.Proofs.YtahbiajdgealnaaGreatDoor
open Go.RowKit
namespace Fx
section
variable {S S':Nat->Prop}
theorem jO.trans(w w' c:World)(h:jO S w w')(k:jO S w' c):jO S w c:=⟨k.os.trans h.os,k.tape.trans h.tape,k.output.trans h.output,m_ h.size k.size,fun i b a=>(k.block i (n_ b h.size) a).trans (h.block i b a)⟩
theorem jO.mono{w w':World}(h:jO S w w')(a : ∀ k,S k->S' k):jO S' w w':=⟨h.os,h.tape,h.output,h.size,fun i b c=>h.block i b fun d=>c (a i d)⟩
theorem jO.Bp{g:Nat}{w w':World}(h:Stp g w w'):jO (fun k=>k=g) w w':=(uo _ w).then h (.inl rfl)
end
end Fx
end Go.Proofs.YtahbiajdgealnaaGreatDoor
namespace Go.Proofs.YtahbiajdgealnaaGreatDoor
open Go.RowKit Rt
open Fx (fD eP fJ bD gP gM dD dS gD jB eX jC fU jD je Lv sN Ln Ws Qv Wl Rp Wc Qs Wr Sb Lk Wk rC rV sR Rs Rn Rd Rk Wb Wx Wo Dy Wt qW Qn FM Bc yN zh C9 Dw qo gY zi ng uq uo vO wZ zf Dk Ap rv aC aS bI aM ev cK Stp dH aW flat dA Mp fq aY gX iU bF down iN jO iW ou bK bJ cells_one iP bV xk unseen jK iB bY dM bM bQ cu cB gJ gT qb gQ)
section
set_option linter.unusedVariables false
set_option maxRecDepth 20000
structure dP where
 inn:Nat->Bool
 left:Nat->Bool
 known:Nat->Int
 own:Nat->Int
 T:dK
 R:Nat->Nat->Int
 gn:Nat
 g:Nat->Nat->Int
 an:Nat
 ao:Nat->Int
 ar:Nat->Int
 tp:Nat
 mb:Nat
 pb:Nat
 rb:Nat
 gb:Nat
 ab:Nat
def vg(m:dP):Nat->Value:=fun p=>if p<6 then .bool (m.inn p)else if p<12 then .bool (m.left (p-6))else if p<18 then .int .u64 (m.known (p-12))else if p=18 then .pointer (some ⟨m.tp,0,none⟩)else if p=19 then .map (some m.pb)else if p=20 then .map (some m.rb)else if p<27 then .int .i64 (m.own (p-21))else if p=27 then .map (some m.gb)else .map (some m.ab)
section
variable {m:dP} {p q:Nat}
theorem BN(h:p<6):vg m p = .bool (m.inn p):=by unfold vg; rw[d_ h]
theorem AX(h:p<6)(e:q=p+6):vg m q = .bool (m.left p):=by subst e; unfold vg; rw[b_ (by omega),d_ (by omega),Nat.add_sub_cancel]
theorem vk(h:p<6)(e:q=p+12):vg m q = .int .u64 (m.known p):=by subst e; unfold vg; rw[b_ (by omega),b_ (by omega),d_ (by omega),Nat.add_sub_cancel]
theorem IV(h:p<6)(e:q=p+21):vg m q = .int .i64 (m.own p):=by subst e; unfold vg; rw[b_ (by omega),b_ (by omega),b_ (by omega),b_ (by omega),b_ (by omega),b_ (by omega),d_ (by omega),Nat.add_sub_cancel]
theorem Uh{i:Nat}(hi:i<6)(b:Bool):dA (vg m) i (.bool b)=vg { m with inn:=aJ m.inn i b }:=by
 funext p
 unfold dA;by_cases e:p=i
 ·subst e; rw[d_ rfl,BN hi]; simp[aJ]
 rw[b_ e]; unfold vg;by_cases h:p<6
 ·rw[d_ h,d_ h]; simp[aJ,e]
 rw[b_ h,b_ h]
theorem Ui{i:Nat}(hi:i<6)(e0:q=i+6)(b:Bool):dA (vg m) q (.bool b)=vg { m with left:=aJ m.left i b }:=by
 subst e0
 funext p
 unfold dA;by_cases e:p=i+6
 ·subst e; rw[d_ rfl,AX hi rfl]; simp[aJ]
 rw[b_ e]; unfold vg;by_cases h:p<6
 ·rw[d_ h,d_ h]
 rw[b_ h,b_ h];by_cases a:p<12
 ·rw[d_ a,d_ a]; simp[aJ,show ¬ p-6=i by omega]
 rw[b_ a,b_ a]
theorem P9{i:Nat}(hi:i<6)(e0:q=i+12)(x:Int):dA (vg m) q (.int .u64 x)=vg { m with known:=aJ m.known i x }:=by
 subst e0
 funext p
 unfold dA;by_cases e:p=i+12
 ·subst e; rw[d_ rfl,vk hi rfl]; simp[aJ]
 rw[b_ e]; unfold vg;by_cases h:p<6
 ·rw[d_ h,d_ h]
 rw[b_ h,b_ h];by_cases a:p<12
 ·rw[d_ a,d_ a]
 rw[b_ a,b_ a];by_cases b:p<18
 ·rw[d_ b,d_ b]; simp[aJ,show ¬ p-12=i by omega]
 rw[b_ b,b_ b]
theorem XL{i:Nat}(hi:i<6)(e0:q=i+21)(x:Int):dA (vg m) q (.int .i64 x)=vg { m with own:=aJ m.own i x }:=by
 subst e0
 funext p
 unfold dA;by_cases e:p=i+21
 ·subst e; rw[d_ rfl,IV hi rfl]; simp[aJ]
 rw[b_ e]; unfold vg;by_cases h:p<6
 ·rw[d_ h,d_ h]
 rw[b_ h,b_ h];by_cases a:p<12
 ·rw[d_ a,d_ a]
 rw[b_ a,b_ a];by_cases b:p<18
 ·rw[d_ b,d_ b]
 rw[b_ b,b_ b];by_cases c:p=18
 ·rw[d_ c,d_ c]
 rw[b_ c,b_ c];by_cases d:p=19
 ·rw[d_ d,d_ d]
 rw[b_ d,b_ d];by_cases f:p=20
 ·rw[d_ f,d_ f]
 rw[b_ f,b_ f];by_cases g:p<27
 ·rw[d_ g,d_ g]; simp[aJ,show ¬ p-21=i by omega]
 rw[b_ g,b_ g]
end
def wG(R:Nat->Nat->Int):Nat->Value:=fun i => .agg (aC 54 (rv .i64 (R i)))
def Dq(T:dK):Nat->Value:=fun j => .int .u64 (T.p j)
def tY(g:Nat->Nat->Int):Nat->Value:=fun i => .agg (aC 5 (jf (g i)))
def Dr:Nat->Value:=fun _ => .bool true
structure QlN(m:dP):Prop where
 mp:m.mb≠m.pb
 mr:m.mb≠m.rb
 mg:m.mb≠m.gb
 ma:m.mb≠m.ab
 pr:m.pb≠m.rb
 pg:m.pb≠m.gb
 pa:m.pb≠m.ab
 rg:m.rb≠m.gb
 ra:m.rb≠m.ab
 ga:m.gb≠m.ab
structure lD(w:World)(B lp:Nat)(m:dP):Prop where
 c:aS w lp 29 (vg m) 106
 t:rD w B m.tp m.mb m.T
 p:Mp w m.pb m.T.n m.T.x (Dq m.T)
 r:Mp w m.rb m.T.n m.T.x (wG m.R)
 g:gX w m.gb m.gn (fun i=>m.g i 0) (fun i=>m.g i 1) (tY m.g)
 a:gX w m.ab m.an m.ao m.ar Dr
 ne:QlN m
 lB:B<=lp
 pB:B<=m.pb
 rB:B<=m.rb
 gB:B<=m.gb
 aB:B<=m.ab
def Fa(m:dP)(lp:Nat)(k:Nat):Prop:=k=lp\/k=m.mb\/k=m.pb\/k=m.rb\/k=m.gb\/k=m.ab
section
variable {w w':World} {B lp:Nat} {m:dP}
theorem lD.up(h:lD w B lp m)(b:Below w.heap.size w w'):lD w' B lp m := { h with c:=h.c.cZ (Sb b) (t_ h.c.lt),t:=h.t.up b,p:=h.p.up b,r:=h.r.up b,g:=h.g.up b,a:=h.a.up b }
instance:Rt.Tr w w' (lD w B lp m) (lD w' B lp m):=⟨fun b h=>h.up b⟩
theorem lD.jN{d:List TypeId}(h:lD w B lp m)(b:iP d w w')(e:(d.contains 106 || d.contains 135)=false):lD w' B lp m:=by
 rw[Bool.or_eq_false_iff]at e;exact { h with c:=h.c.jN b e.1,t:=h.t.jN b e.2,p:=h.p.jN b trivial,r:=h.r.jN b trivial,g:=h.g.jN b trivial,a:=h.a.jN b trivial }
instance {a:List TypeId}:Rt.Tc a w w' (lD w B lp m) (lD w' B lp m) (!(a.contains 106 || a.contains 135)):=⟨fun b h e=>h.jN b (by simpa using e)⟩
theorem rD.keep{b a:Nat}{T:dK}(h:rD w B b a T)(c:w'.heap[b]? = w.heap[b]?)(d:w'.heap[a]? = w.heap[a]?):rD w' B b a T:=⟨c.trans h.blk,h.map.keep d,h.inv,h.gt,h.gm⟩
theorem lD.keep(h:lD w B lp m)(b : ∀ k,k=lp\/k=m.tp\/k=m.mb\/k=m.pb\/k=m.rb\/k=m.gb\/k=m.ab->w'.heap[k]? = w.heap[k]?):lD w' B lp m := { h with
 c:=(b _ (.inl rfl)).trans h.c,t:=rD.keep h.t (b _ (.inr (.inl rfl))) (b _ (.inr (.inr (.inl rfl)))),p:=h.p.keep (b _ (.inr (.inr (.inr (.inl rfl))))),r:=h.r.keep (b _ (.inr (.inr (.inr (.inr (.inl rfl)))))),
 g:=h.g.keep (b _ (.inr (.inr (.inr (.inr (.inr (.inl rfl))))))),a:=h.a.keep (b _ (.inr (.inr (.inr (.inr (.inr (.inr rfl))))))) }
theorem lD.chg{S:Nat->Prop}(h:lD w B lp m)(f:jO S w w')(d : ∀ k,k=m.tp\/Fa m lp k -> ¬ S k):lD w' B lp m:=by
 have b : ∀ k,k<w.heap.size -> ¬ S k->w'.heap[k]? = w.heap[k]? := f.block;refine h.keep fun k e => ?_
 rcases e with rfl|rfl|rfl|rfl|rfl|rfl|rfl
 ·exact b _ h.c.lt (d _ (.inr (.inl rfl)))
 ·exact b _ h.t.blk.lt (d _ (.inl rfl))
 ·exact b _ h.t.lt (d _ (.inr (.inr (.inl rfl))))
 ·exact b _ h.p.lt (d _ (.inr (.inr (.inr (.inl rfl)))))
 ·exact b _ h.r.lt (d _ (.inr (.inr (.inr (.inr (.inl rfl))))))
 ·exact b _ h.g.lt (d _ (.inr (.inr (.inr (.inr (.inr (.inl rfl)))))))
 exact b _ h.a.lt (d _ (.inr (.inr (.inr (.inr (.inr (.inr rfl)))))))
theorem lD.weak{b:Nat}(h:lD w B lp m)(a:b<=B):lD w b lp m := { h with t:=h.t.weak a,lB:=m_ a h.lB,pB:=m_ a h.pB,rB:=m_ a h.rB,gB:=m_ a h.gB,aB:=m_ a h.aB }
theorem lD.lt(h:lD w B lp m):lp<w.heap.size:=h.c.lt
theorem lD.ltS(h:lD w B lp m){k:Nat}(b:Fa m lp k):B<=k/\k<w.heap.size:=by
 rcases b with rfl|rfl|rfl|rfl|rfl|rfl
 ·exact⟨h.lB,h.c.lt⟩
 ·exact⟨h.t.gm,h.t.lt⟩
 ·exact⟨h.pB,h.p.lt⟩
 ·exact⟨h.rB,h.r.lt⟩
 ·exact⟨h.gB,h.g.lt⟩
 exact⟨h.aB,h.a.lt⟩
end
namespace Rt
def yZ(x:Nat->Int):Nat->Int->Nat
 | 0,_=>0
 | n+1,k=>if x n=k then n else yZ x n k
theorem mH{x:Nat->Int}{j:Nat}{k:Int} : ∀ {n:Nat},(∀ a b,a<n->b<n->x a=x b->a=b)->j<n->x j=k->yZ x n k=j
 | 0,_,h,_=>L_ h (u_ _)
 | n+1,hi,hj,e=>by
   unfold yZ;by_cases c:x n=k
   ·rw[d_ c]; exact hi n j (by omega) hj (c.trans e.symm)
   ·rw[b_ c];refine mH (fun a b d f=>hi a b (by omega) (by omega)) ?_ e
    rcases Nat.lt_or_ge j n with h|h
    ·exact h
    ·obtain rfl:j=n:=(by omega);exact L_ e c
end Rt
def dP.idx(m:dP)(k:Int):Nat:=yZ m.T.x m.T.n k
def Uj(m:dP)(lp a:Nat)(k:Nat):Prop:=Fa m lp k\/a<=k
structure Uk(w:World)(B lp:Nat)(m m':dP)(b0:Nat)(fv:Value)(fi:Nat)(cap:Array Value):Prop where
 e:fv = .func (.func fi) #[] cap
 f : ∃ fn c, Tryz.prog.funcs[fi]? = some fn ∧ (fn.name == "runtime.NumGoroutine") = false ∧ fn.body = some c
 s : ∀ w2,Below w.heap.size w w2->Calls Tryz.prog fi cap w2 fun e w3=>e = .returned (.tuple #[])/\lD w3 B lp m'/\jO (Uj m lp b0) w2 w3
def QI(w:World)(B lp:Nat)(m f:dP)(b:Int)(e:Ending)(w':World):Prop :=
 (∃ a d c,e = .returned (.tuple #[a,.int .i64 b])/\a.oneCell'=true/\(b=0->Uk w' B lp m f w.heap.size a d c))/\Below w.heap.size w w'
theorem lD.IW{w w':World}{B lp g n d:Nat}{m:dP}{x:Nat->Value}{T:TypeId}(h:lD w B lp m)(b:aS w g n x T)(f:T≠106)(i:jO (Uj m lp d) w w')(j:g<d):aS w' g n x T:=b.chg i fun e=>by
 rcases e with (rfl|rfl|rfl|rfl|rfl|rfl)|e
 ·exact f (Fx.Ty.only h.c.ty b.ty)
 ·exact h.t.map.qY b.ty
 ·exact h.p.qY b.ty
 ·exact h.r.qY b.ty
 ·exact h.g.qY b.ty
 ·exact h.a.qY b.ty
 ·omega
theorem Fx.Oh{P:Program}{f:Nat->Value}{w:World}{o:Oper}{g:Nat}{t:Operand}{b:List Operand}{args:List Value}{d:Array TypeId}{cap all:Array Value}(l:o.op = .call { callee := .value t,args:=b.toArray,argTypes:=d })(m:ev f t = .func (.func g) #[] cap)(hx:b.map (ev f)=args)(j:args.toArray++cap=all)
 (k : ∃ a c, P.funcs[g]? = some a ∧ (a.name == "runtime.NumGoroutine") = false ∧ a.body = some c) : (execOp (ev f) o).run P w = .ok (.enter g all) w := by
 obtain⟨a,c,e,h,i⟩:=k;exact Fx.Gd l m hx (by rw[<- j]; simp) e h i
namespace Fx
theorem It.dQ{w w':World}{r b n g:Nat}{S:Nat->Bool}(h:It w r b n S)(a:O7 g w w')(c:b≠g)(d:r≠g):It w' r b n S:=h.keep (a.s.block b h.QD c) (a.s.block r h.lt d)
theorem Ae.dQ{w w':World}{r b i g:Nat}(h:Ae w r b i)(a:O7 g w w')(c:b≠g)(d:r≠g):Ae w' r b i:=h.keep (a.s.block b h.QD c) (a.s.block r h.lt d)
end Fx
end
end Go.Proofs.YtahbiajdgealnaaGreatDoor
namespace Go.Proofs.YtahbiajdgealnaaGreatDoor.Fx
open Go.RowKit
section
variable {P:Program} {n0:Nat} {Q:Post} {f:Nat->Value} {w:World} {ops:Array Oper} {rest:List Oper} {o:Oper}
theorem MI{T E:TypeId}{x:Operand}{b off n s:Nat}(d:o.op = .slice T x none none none)(hx:ev f x = .pointer (some ⟨b,off,none⟩))(c:P.underlying T=some (.array n E))(e:(P.info? E).map (·.size)=some s) :
 Runs P f o w (.slice (some ⟨b,off,none⟩) n n):=by
 obtain⟨i,a,g⟩:=Option.map_eq_some_iff.1 e;unfold Runs execOp;simp only[d,hx,Option.map_none];by_cases h:n=0
 ·subst h; simp[Instr.sliceAt,Instr.sureAddr,underlying,c,Instr.sliceBounds,sizeOf,typeInfo,a]
 simp[Instr.sliceAt,Instr.sureAddr,underlying,c,Instr.sliceBounds,sizeOf,typeInfo,a,Addr.add,g]
end
end Go.Proofs.YtahbiajdgealnaaGreatDoor.Fx
namespace Go.Proofs.YtahbiajdgealnaaGreatDoor
open Go.RowKit Rt
open Fx (fD eP fJ bD gP gM dD dS gD jB eX jC fU jD je Lv sN Ln Ws Qv Wl Rp Wc Qs Wr Sb Lk Wk rC rV sR Rs Rn Rd Rk Wb Wx Wo Dy Wt qW Qn FM Bc yN zh C9 Dw qo gY zi ng uq uo vO wZ zf Dk Ap rv aC aS bI aM ev cK Stp dH aW flat dA Mp fq aY gX iU bF down iN jO iW ou bK bJ cells_one iP bV xk unseen jK iB bY dM bM bQ cu cB gJ gT qb gQ)
namespace Rt
def kU(v:EvM)(l:Int):Bool:=decide (l<=v.aU)&&decide (v.aU<=1125899906842624)
def qP(v:EvM):EvM:=⟨v.o,v.seq,v.deps,v.kind,0,v.dst,0,v.req,v.of⟩
def xV(v:EvM):Bool:=decide (0<v.req)
def MJ(v:EvM):EvM:=⟨v.o,v.seq,v.deps,v.kind,v.node,v.dst,v.aU,0,v.of⟩
def acd(v:EvM):EvM:=⟨v.o,v.seq,v.deps,v.kind,v.node,v.dst,v.aU,0,0⟩
def toB(v:EvM):Bool:=pI v.dst && !decide (v.dst=v.o)
def Kw(v:EvM):EvM:=⟨v.o,v.seq,v.deps,v.kind,v.node,0,v.aU,v.req,v.of⟩
end Rt
def Rt.Dt(v:EvM):Bool:=decide (0<v.req)&&(decide (0<v.of) && !decide (v.of=v.req))
theorem AY(n:Int)(w:World) :
 Calls Tryz.prog 88 #[au n] w fun e w'=>e = .returned (.bool (pI n))/\w'=w:=by
 refine Kent Tryz.func88 9 ?_;refine ay<|av aG<|aD<|ay<|av (au n) ?_;by_cases a:1<=n
 ·refine Lv aH (ko a)<|av aH<|av (au n) ?_;by_cases b:n<=6
  ·refine Lv aH (nD b)<|av aH<|av aH<|aD<|Wr<|aK aH ?_;exact⟨gZ (by simp only[pI]; first|(symm; simp; omega)|(symm; simp; done)),rfl⟩
  refine Lv aG (nT b)<|av aG<|av aG<|aD<|Wr<|aK aG ?_;exact⟨gZ (by simp only[pI]; first|(symm; simp; omega)|(symm; simp; done)),rfl⟩
 refine Lv aG (jU a)<|av aG<|dB<|dB<|av aG<|av aG<|aD<|Wr<|aK aG ?_;exact⟨gZ (by simp only[pI]; first|(symm; simp; omega)|(symm; simp; done)),rfl⟩
theorem IX(l:Int)(v:EvM)(g:Nat)(w:World)(a:aS w g 14 (bS v) 160) :
 Calls Tryz.prog 114 #[(pt g),au l] w fun e w'=>e = .returned (.bool (kU v l))/\aS w' g 14 (bS (qP v)) 160/\Stp g w w':=by
 have P:=a.lt;refine Kent Tryz.func114 30 ?_;refine ay<|av aG<|aD<|ay<|av (pt g)<|av (pt g)<|av (pt g)<|av (pf g 11)<|Lv (au v.aU) (aN a.aI 11)<|av (au l) ?_;by_cases c:l<=v.aU
 ·refine Lv aH (ko c)<|av aH<|av (pt g)<|av (pt g)<|av (pt g)<|av (pf g 11)<|Lv (au v.aU) (aN a.aI 11) ?_;by_cases d:v.aU<=1125899906842624
  ·refine Lv aH (nD d)<|av aH<|av aH<|aD<|ay<|av (pt g)<|av (pt g)<|av (pt g)<|av (pt g)<|av (pf g 9)<|jm a 9 (aF 0) fun J p D Q => ?_;have t:aS J g 14 (bS (⟨v.o,v.seq,v.deps,v.kind,0,v.dst,v.aU,v.req,v.of⟩:EvM)) 160:=p.congr (fun j b=>by rcases j with _|_|_|_|_|_|_|_|_|_|_|_|_|_|j <;> first|rfl|omega)
   have f:=(ng g w).then D (by omega);refine av (pt g)<|av (pt g)<|av (pf g 11)<|jm t 11 (au 0) fun K u E R => ?_;have x:aS K g 14 (bS (⟨v.o,v.seq,v.deps,v.kind,0,v.dst,0,v.req,v.of⟩:EvM)) 160:=u.congr (fun j b=>by rcases j with _|_|_|_|_|_|_|_|_|_|_|_|_|_|j <;> first|rfl|omega)
   have h:=f.then E (by omega);refine aD<|ay<|av aH<|av aH<|aD<|Wr<|aK aH ?_;exact⟨gZ (by simp only[kU]; first|(symm; simp; omega)|(symm; simp; done)),x,h⟩
  refine Lv aG (nT d)<|av aG<|av aG<|aD<|ay<|av (pt g)<|av (pt g)<|av (pt g)<|av (pt g)<|av (pf g 9)<|jm a 9 (aF 0) fun L y F S => ?_;have z:aS L g 14 (bS (⟨v.o,v.seq,v.deps,v.kind,0,v.dst,v.aU,v.req,v.of⟩:EvM)) 160:=y.congr (fun j b=>by rcases j with _|_|_|_|_|_|_|_|_|_|_|_|_|_|j <;> first|rfl|omega)
  have i:=(ng g w).then F (by omega);refine av (pt g)<|av (pt g)<|av (pf g 11)<|jm z 11 (au 0) fun M A G T => ?_;have B:aS M g 14 (bS (⟨v.o,v.seq,v.deps,v.kind,0,v.dst,0,v.req,v.of⟩:EvM)) 160:=A.congr (fun j b=>by rcases j with _|_|_|_|_|_|_|_|_|_|_|_|_|_|j <;> first|rfl|omega)
  have k:=i.then G (by omega);refine aD<|ay<|av aG<|av aG<|aD<|Wr<|aK aG ?_;exact⟨gZ (by simp only[kU]; first|(symm; simp; omega)|(symm; simp; done)),B,k⟩
 refine Lv aG (jU c)<|av aG<|dB<|dB<|dB<|dB<|dB<|dB<|av aG<|av aG<|aD<|ay<|av (pt g)<|av (pt g)<|av (pt g)<|av (pt g)<|av (pf g 9)<|jm a 9 (aF 0) fun N C H U => ?_;have q:aS N g 14 (bS (⟨v.o,v.seq,v.deps,v.kind,0,v.dst,v.aU,v.req,v.of⟩:EvM)) 160:=C.congr (fun j b=>by rcases j with _|_|_|_|_|_|_|_|_|_|_|_|_|_|j <;> first|rfl|omega)
 have m:=(ng g w).then H (by omega);refine av (pt g)<|av (pt g)<|av (pf g 11)<|jm q 11 (au 0) fun O r I V => ?_;have s:aS O g 14 (bS (⟨v.o,v.seq,v.deps,v.kind,0,v.dst,0,v.req,v.of⟩:EvM)) 160:=r.congr (fun j b=>by rcases j with _|_|_|_|_|_|_|_|_|_|_|_|_|_|j <;> first|rfl|omega)
 have n:=m.then I (by omega);refine aD<|ay<|av aG<|av aG<|aD<|Wr<|aK aG ?_;exact⟨gZ (by simp only[kU]; first|(symm; simp; omega)|(symm; simp; done)),s,n⟩
theorem Oi(v:EvM)(g:Nat)(w:World)(a:aS w g 14 (bS v) 160) :
 Calls Tryz.prog 115 #[(pt g)] w fun e w'=>e = .returned (.bool (xV v))/\aS w' g 14 (bS (MJ v)) 160/\Stp g w w':=by
 have r:=a.lt;refine Kent Tryz.func115 15 ?_;refine ay<|av aG<|aD<|ay<|av (pt g)<|av (pt g)<|av (pt g)<|av (pf g 12)<|Lv (aF v.req) (aN a.aI 12) ?_;by_cases b:0<v.req
 ·refine Lv aH (mK b)<|av aH<|aD<|ay<|av (pt g)<|av (pt g)<|av (pt g)<|av (pf g 12)<|jm a 12 (aF 0) fun p h m s => ?_;have i:aS p g 14 (bS (⟨v.o,v.seq,v.deps,v.kind,v.node,v.dst,v.aU,0,v.of⟩:EvM)) 160:=h.congr (fun j f=>by rcases j with _|_|_|_|_|_|_|_|_|_|_|_|_|_|j <;> first|rfl|omega)
  have c:=(ng g w).then m (by omega);refine aD<|ay<|av aH<|av aH<|aD<|Wr<|aK aH ?_;exact⟨gZ (by simp only[xV]; first|(symm; simp; omega)|(symm; simp; done)),i,c⟩
 refine Lv aG (mM b)<|av aG<|aD<|ay<|av (pt g)<|av (pt g)<|av (pt g)<|av (pf g 12)<|jm a 12 (aF 0) fun q k n t => ?_;have l:aS q g 14 (bS (⟨v.o,v.seq,v.deps,v.kind,v.node,v.dst,v.aU,0,v.of⟩:EvM)) 160:=k.congr (fun j f=>by rcases j with _|_|_|_|_|_|_|_|_|_|_|_|_|_|j <;> first|rfl|omega)
 have d:=(ng g w).then n (by omega);refine aD<|ay<|av aG<|av aG<|aD<|Wr<|aK aG ?_;exact⟨gZ (by simp only[xV]; first|(symm; simp; omega)|(symm; simp; done)),l,d⟩
theorem amH(v:EvM)(g:Nat)(w:World)(h:aS w g 14 (bS v) 160) :
 Calls Tryz.prog 116 #[(pt g)] w fun e w'=>e = .returned (.bool (Dt v))/\aS w' g 14 (bS (acd v)) 160/\Stp g w w':=by
 have lg:=h.lt;refine Kent Tryz.func116 32 ?_;refine ay<|av aG<|aD<|Ws ?_;refine xL<|aT (pt g)<|aT (pt g)<|aT (pt g)<|aT (pf g 13)<|Qv (aF v.of) (fun b d=>aN (h.aI.dr d) 13) ?_;by_cases r:0<v.of
 ·refine Qv aH (fun b d=>mK r)<|aT aH<|aT (pt g)<|aT (pt g)<|aT (pt g)<|aT (pf g 13)<|Qv (aF v.of) (fun b d=>aN (h.aI.dr d) 13)<|aT (pt g)<|aT (pt g)<|aT (pt g)<|aT (pf g 12)<|Qv (aF v.req) (fun b d=>aN (h.aI.dr d) 12) ?_;by_cases q:v.of=v.req
  ·refine Qv aG (fun b d=>kr q)<|aT aG<|aT aG<|Qn ?_;rintro _ ⟨f,rfl⟩;obtain⟨Z,i⟩ : ∃ b,b=World.drewN w f:=⟨_,rfl⟩;rw[<- i];have y:Stp w.heap.size w Z:=(by rw[i]; exact Sb (jl w f));have H:=bH y.old h;have B:=(ng g w).then y (.inr (ng g w).size);clear i;refine sN<|ay<|av (pt g)<|av (pt g)<|av (pt g)<|av (pf g 13)<|jm H 13 (aF 0) fun W K Q z1 => ?_;have L:aS W g 14 (bS (⟨v.o,v.seq,v.deps,v.kind,v.node,v.dst,v.aU,v.req,0⟩:EvM)) 160:=K.congr (fun j s=>by rcases j with _|_|_|_|_|_|_|_|_|_|_|_|_|_|j <;> first|rfl|omega)
   have C:=B.then Q (by omega);refine aD<|ay<|av (pt g)<|lS (Oi (⟨v.o,v.seq,v.deps,v.kind,v.node,v.dst,v.aU,v.req,0⟩:EvM) g _ L) ?_;rintro e w2 ⟨a,u,R⟩;have m:=C.then R (by omega);by_cases c:xV (⟨v.o,v.seq,v.deps,v.kind,v.node,v.dst,v.aU,v.req,0⟩:EvM)=true
   ·refine⟨.bool true,by rw[a,c],?_⟩;clear a;refine av aH<|av aG<|av aG<|av aG<|aD<|Wr<|aK aG ?_;exact⟨gZ (by simp only[Dt,xV]at *; first|(symm; simp; omega)|(symm; simp at *; omega)|(symm; simp at *; done)),u,m⟩
   rw[S_]at c;refine⟨.bool false,by rw[a,c],?_⟩;clear a;refine av aG<|dB<|av aG<|av aG<|aD<|Wr<|aK aG ?_;exact⟨gZ (by simp only[Dt,xV]at *; first|(symm; simp; omega)|(symm; simp at *; omega)|(symm; simp at *; done)),u,m⟩
  refine Qv aH (fun b d=>nE q)<|aT aH<|aT aH<|Qn ?_;rintro _ ⟨f,rfl⟩;obtain⟨aa,k⟩ : ∃ b,b=World.drewN w f:=⟨_,rfl⟩;rw[<- k];have z:Stp w.heap.size w aa:=by rw[k]; exact Sb (jl w f)
  have M:=bH z.old h;have D:=(ng g w).then z (.inr (ng g w).size);clear k;refine sN<|ay<|av (pt g)<|av (pt g)<|av (pt g)<|av (pf g 13)<|jm M 13 (aF 0) fun X N S z2 => ?_;have O:aS X g 14 (bS (⟨v.o,v.seq,v.deps,v.kind,v.node,v.dst,v.aU,v.req,0⟩:EvM)) 160:=N.congr (fun j s=>by rcases j with _|_|_|_|_|_|_|_|_|_|_|_|_|_|j <;> first|rfl|omega)
  have E:=D.then S (by omega);refine aD<|ay<|av (pt g)<|lS (Oi (⟨v.o,v.seq,v.deps,v.kind,v.node,v.dst,v.aU,v.req,0⟩:EvM) g _ O) ?_;rintro e w4 ⟨a,x,T⟩;have n:=E.then T (by omega);by_cases c:xV (⟨v.o,v.seq,v.deps,v.kind,v.node,v.dst,v.aU,v.req,0⟩:EvM)=true
  ·refine⟨.bool true,by rw[a,c],?_⟩;clear a;refine av aH<|av aH<|av aH<|av aH<|aD<|Wr<|aK aH ?_;exact⟨gZ (by simp only[Dt,xV]at *; first|(symm; simp; omega)|(symm; simp at *; omega)|(symm; simp at *; done)),x,n⟩
  rw[S_]at c;refine⟨.bool false,by rw[a,c],?_⟩;clear a;refine av aG<|dB<|av aG<|av aG<|aD<|Wr<|aK aG ?_;exact⟨gZ (by simp only[Dt,xV]at *; first|(symm; simp; omega)|(symm; simp at *; omega)|(symm; simp at *; done)),x,n⟩
 refine Qv aG (fun b d=>mM r)<|aT aG<|aQ<|aQ<|aQ<|aQ<|aQ<|aQ<|aQ<|aQ<|aQ<|aQ<|aQ<|aT aG<|aT aG<|Qn ?_;rintro _ ⟨f,rfl⟩;obtain⟨ab,l⟩ : ∃ b,b=World.drewN w f:=⟨_,rfl⟩;rw[<- l];have A:Stp w.heap.size w ab:=by rw[l]; exact Sb (jl w f)
 have P:=bH A.old h;have F:=(ng g w).then A (.inr (ng g w).size);clear l;refine sN<|ay<|av (pt g)<|av (pt g)<|av (pt g)<|av (pf g 13)<|jm P 13 (aF 0) fun Y I U z3 => ?_;have J:aS Y g 14 (bS (⟨v.o,v.seq,v.deps,v.kind,v.node,v.dst,v.aU,v.req,0⟩:EvM)) 160:=I.congr (fun j s=>by rcases j with _|_|_|_|_|_|_|_|_|_|_|_|_|_|j <;> first|rfl|omega)
 have G:=F.then U (by omega);refine aD<|ay<|av (pt g)<|lS (Oi (⟨v.o,v.seq,v.deps,v.kind,v.node,v.dst,v.aU,v.req,0⟩:EvM) g _ J) ?_;rintro e w6 ⟨a,t,V⟩;have p:=G.then V (by omega);by_cases c:xV (⟨v.o,v.seq,v.deps,v.kind,v.node,v.dst,v.aU,v.req,0⟩:EvM)=true
 ·refine⟨.bool true,by rw[a,c],?_⟩;clear a;refine av aH<|av aG<|av aG<|av aG<|aD<|Wr<|aK aG ?_;exact⟨gZ (by simp only[Dt,xV]at *; first|(symm; simp; omega)|(symm; simp at *; omega)|(symm; simp at *; done)),t,p⟩
 rw[S_]at c;refine⟨.bool false,by rw[a,c],?_⟩;clear a;refine av aG<|dB<|av aG<|av aG<|aD<|Wr<|aK aG ?_;exact⟨gZ (by simp only[Dt,xV]at *; first|(symm; simp; omega)|(symm; simp at *; omega)|(symm; simp at *; done)),t,p⟩
theorem afX(v:EvM)(g:Nat)(w:World)(a:aS w g 14 (bS v) 160) :
 Calls Tryz.prog 117 #[(pt g)] w fun e w'=>e = .returned (.bool (toB v))/\aS w' g 14 (bS (Kw v)) 160/\Stp g w w':=by
 have Q:=a.lt;refine Kent Tryz.func117 28 ?_;refine ay<|av aG<|aD<|Ws ?_;refine mO<|aT (pt g)<|aT (pt g)<|aT (pt g)<|aT (pf g 10)<|Qv (au v.dst) (fun d b=>aN (a.cb b) 10) ?_;by_cases c:(pI v.dst)=true
 ·refine pR (fun _ _=>AY v.dst _) aH (by rw[c])<|aT aH<|aT (pt g)<|aT (pt g)<|aT (pt g)<|aT (pf g 10)<|Qv (au v.dst) (fun d b=>aN (a.cb b) 10)<|aT (pt g)<|aT (pt g)<|aT (pt g)<|aT (pt g)<|Qv (au v.o) (fun d b=>aN (a.cb b) 0) ?_;by_cases f:v.dst=v.o
  ·refine Qv aG (fun d b=>kr f)<|aT aG<|aT aG<|Qn ?_;intro N h;have E:Stp w.heap.size w N:=Sb h;have t:=bH h a;have m:=(ng g w).then E (.inr (ng g w).size);refine sN<|ay<|av (pt g)<|av (pt g)<|av (pt g)<|av (pf g 10)<|jm t 10 (au 0) fun K u F R => ?_;have x:aS K g 14 (bS (⟨v.o,v.seq,v.deps,v.kind,v.node,0,v.aU,v.req,v.of⟩:EvM)) 160:=u.congr (fun j l=>by rcases j with _|_|_|_|_|_|_|_|_|_|_|_|_|_|j <;> first|rfl|omega)
   have n:=m.then F (by omega);refine aD<|ay<|av aG<|av aG<|aD<|Wr<|aK aG ?_;exact⟨gZ (by unfold toB; rw[c]; first|(symm; simp; omega)|(symm; simp; done)),x,n⟩
  refine Qv aH (fun d b=>nE f)<|aT aH<|aT aH<|Qn ?_;intro O i;have G:Stp w.heap.size w O:=Sb i;have y:=bH i a;have p:=(ng g w).then G (.inr (ng g w).size);refine sN<|ay<|av (pt g)<|av (pt g)<|av (pt g)<|av (pf g 10)<|jm y 10 (au 0) fun L z H S => ?_;have A:aS L g 14 (bS (⟨v.o,v.seq,v.deps,v.kind,v.node,0,v.aU,v.req,v.of⟩:EvM)) 160:=z.congr (fun j l=>by rcases j with _|_|_|_|_|_|_|_|_|_|_|_|_|_|j <;> first|rfl|omega)
  have q:=p.then H (by omega);refine aD<|ay<|av aH<|av aH<|aD<|Wr<|aK aH ?_;exact⟨gZ (by unfold toB; rw[c]; first|(symm; simp; omega)|(symm; simp; done)),A,q⟩
 rw[S_]at c;refine pR (fun _ _=>AY v.dst _) aG (by rw[c])<|aT aG<|aQ<|aQ<|aQ<|aQ<|aQ<|aQ<|aQ<|aQ<|aQ<|aQ<|aQ<|aT aG<|aT aG<|Qn ?_;intro P k;have I:Stp w.heap.size w P:=Sb k;have B:=bH k a;have r:=(ng g w).then I (.inr (ng g w).size);refine sN<|ay<|av (pt g)<|av (pt g)<|av (pt g)<|av (pf g 10)<|jm B 10 (au 0) fun M C J T => ?_;have D:aS M g 14 (bS (⟨v.o,v.seq,v.deps,v.kind,v.node,0,v.aU,v.req,v.of⟩:EvM)) 160:=C.congr (fun j l=>by rcases j with _|_|_|_|_|_|_|_|_|_|_|_|_|_|j <;> first|rfl|omega)
 have s:=r.then J (by omega);refine aD<|ay<|av aG<|av aG<|aD<|Wr<|aK aG ?_;exact⟨gZ (by unfold toB; rw[c]; first|(symm; simp; omega)|(symm; simp; done)),D,s⟩
namespace Rt
def mh(v:EvM):Bool :=
 if v.kind=1 then kU v 0 else if v.kind=2 then kU v 1 else if v.kind=3 then kU v 1&&xV v else if v.kind=4 then Dt v else if v.kind=5 then kU v 1&&toB v else if v.kind=6 then toB v else decide (v.kind=7)
def qC(v:EvM):EvM :=
 if v.kind=1 then qP v else if v.kind=2 then qP v else if v.kind=3 then MJ (qP v)else if v.kind=4 then acd v else if v.kind=5 then Kw (qP v)else if v.kind=6 then Kw v else v
def Ul(v:EvM):EvM:=⟨v.o,v.seq,v.deps,v.kind,0,0,0,0,0⟩
theorem ace(a b:EvM):(∀ i,i<14->bS a i=bS b i)<->a.o=b.o/\a.seq=b.seq/\(∀ i,i<6->a.deps i=b.deps i)/\a.kind=b.kind/\a.node=b.node/\a.dst=b.dst/\a.aU=b.aU/\a.req=b.req/\a.of=b.of:=by
 constructor
 ·intro h;have f:Value.int .i64 a.o=au b.o:=h 0 (by decide);have g:Value.int .u64 a.seq=aF b.seq:=h 1 (by decide);have p:Value.int .u8 a.kind = .int .u8 b.kind:=h 8 (by decide);have q:Value.int .u64 a.node=aF b.node:=h 9 (by decide);have j:Value.int .i64 a.dst=au b.dst:=h 10 (by decide);have k:Value.int .i64 a.aU=au b.aU:=h 11 (by decide);have l:Value.int .u64 a.req=aF b.req:=h 12 (by decide);have m:Value.int .u64 a.of=aF b.of:=h 13 (by decide);simp only[Value.int.injEq,true_and]at f g p q j k l m;refine⟨f,g,fun i r => ?_,p,q,j,k,l,m⟩;have n:=h (i+2) (by omega);rw[lW a rfl r,lW b rfl r]at n
  simpa using n
 rintro ⟨f,g,n,p,q,j,k,l,m⟩ i r;unfold bS;rw[f,g,p,q,j,k,l,m];by_cases c:i=0
 ·rw[d_ c,d_ c]
 by_cases d:i=1
 ·rw[b_ c,d_ d,b_ c,d_ d]
 by_cases e:i<8
 ·rw[b_ c,b_ d,d_ e,b_ c,b_ d,d_ e,n _ (by omega)]
 rw[b_ c,b_ d,b_ e,b_ c,b_ d,b_ e]
theorem GV{v:EvM}(a:mh v=true):(∀ i,i<14->bS (qC v) i=bS (Ul v) i)<->rE v=true:=by
 have h:=a;rw[ace];unfold mh at h;unfold qC rE kM Ul;simp only[R_,decide_eq_true_eq];split at h
 ·rename_i k; simp[k,qP,and_assoc]
 split at h
 ·rename_i k1 k; simp[k,qP,and_assoc]
 split at h
 ·rename_i k1 k2 k; simp[k,qP,MJ,and_assoc]
 split at h
 ·rename_i k1 k2 k3 k; simp[k,acd,and_assoc]
 split at h
 ·rename_i k1 k2 k3 k4 k; simp[k,qP,Kw,and_assoc]
 split at h
 ·rename_i k1 k2 k3 k4 k5 k; simp[k,Kw,and_assoc]
 rename_i k1 k2 k3 k4 k5 k6; simp[k1,k2,k3,k4,k5,k6,and_assoc]
theorem CJ{v:EvM}(h:rE v=true):dJ v=mh v:=by
 unfold rE kM at h;unfold dJ mh someE kU Dt toB lK xV;simp only[R_,decide_eq_true_eq]at h;split <;> try rfl
 rename_i k1;split <;> try rfl
 rename_i k2;split
 ·congr 1
 rename_i k3;split
 ·rename_i k4; rw[Bool.eq_iff_iff]; simp only[R_,decide_eq_true_eq,Bool.not_eq_true',decide_eq_false_iff_not]; omega
 split <;> rfl
def MK(x:Nat->Int):Nat->Int
 | 0=>x 0
 | k+1=>if x (k+1)>MK x k then x (k+1)else MK x k
theorem Um(x:Nat->Int) : ∀ n i,i<=n->x i<=MK x n
 | 0,i,h=>by rw[show i=0 by omega]; exact M_ _
 | n+1,i,h=>by
   unfold MK;by_cases e:i=n+1
   ·subst e; split <;> omega
   ·have:=Um x n i (by omega); split <;> omega
theorem Un(x:Nat->Int) : ∀ n,∃ i,i<=n/\MK x n=x i
 | 0=>⟨0,z_ _,rfl⟩
 | n+1=>by
   unfold MK;split
   ·exact⟨n+1,z_ _,rfl⟩
   ·obtain⟨i,a,e⟩:=Un x n; exact⟨i,by omega,e⟩
theorem acf{v:EvM}(h:1099511627776<=MK v.deps 5):zO v=false:=by
 obtain⟨i,a,e⟩:=Un v.deps 5;exact Gu (k:=i) (by omega) (by omega)
theorem IY{v:EvM}(h : ¬ 1099511627776<=MK v.deps 5):zO v=true :=
 vZ (k:=6) (by omega) fun i a=>by have:=Um v.deps 5 i (by omega); omega
def afY(v:EvM)(b:Bool)(a:EvM):Prop:=b=mh v/\(b=true->a=qC v)
end Rt
set_option maxHeartbeats 1000000 in
theorem acg(v:EvM)(g:Nat)(w:World)(k:aS w g 14 (bS v) 160) :
 Calls Tryz.prog 90 #[(pt g)] w fun e w' => ∃ b O,e = .returned (.bool b)/\aS w' g 14 (bS O) 160/\Stp g w w'/\afY v b O:=by
 have X:=k.lt;refine Kent Tryz.func90 46 ?_;refine ay<|av aG<|aD<|Ws<|ay<|av (pt g)<|av (pt g)<|av (pt g)<|av (pf g 8)<|Lv (.int .u8 (v.kind)) (aN k.aI 8)<|aD<|Wb<|ay ?_;by_cases c:v.kind=1
 ·refine Lv aH (eZ c)<|av aH<|aD<|aO<|ay<|av (pt g)<|lS (IX 0 v g _ k) ?_;rintro e Y ⟨a,G,P⟩;have y:=(ng g w).then P (by omega);by_cases p:kU v 0=true
  ·refine⟨.bool true,by rw[a,p],?_⟩;clear a;refine av aH (aD (Wr (bM (sR (aK aH (⟨_,_,rfl,G,y,Eq.symm (by unfold mh; rw[d_ c,(show kU v 0=true from p)]; try rfl),fun d => ?_⟩))))))
   unfold qC; rw[d_ c]; try rfl
  rw[S_]at p;refine⟨.bool false,by rw[a,p],?_⟩;clear a;refine av aG (aD (Wr (bM (sR (aK aG (⟨_,_,rfl,G,y,Eq.symm (by unfold mh; rw[d_ c,(show kU v 0=false from p)]; try rfl),fun d => ?_⟩))))))
  cases d
 refine Lv aG (fM c)<|av aG<|aD<|aL<|ay ?_;by_cases f:v.kind=2
 ·refine Lv aH (eZ f)<|av aH<|aD<|aO<|ay<|av (pt g)<|lS (IX 1 v g _ k) ?_;rintro e Z ⟨a,H,Q⟩;have z:=(ng g w).then Q (by omega);by_cases q:kU v 1=true
  ·refine⟨.bool true,by rw[a,q],?_⟩;clear a;refine av aH (aD (Wr (bM (sR (aK aH (⟨_,_,rfl,H,z,Eq.symm (by unfold mh; rw[b_ c,d_ f,(show kU v 1=true from q)]; try rfl),fun d => ?_⟩))))))
   unfold qC; rw[b_ c,d_ f]; try rfl
  rw[S_]at q;refine⟨.bool false,by rw[a,q],?_⟩;clear a;refine av aG (aD (Wr (bM (sR (aK aG (⟨_,_,rfl,H,z,Eq.symm (by unfold mh; rw[b_ c,d_ f,(show kU v 1=false from q)]; try rfl),fun d => ?_⟩))))))
  cases d
 refine Lv aG (fM f)<|av aG<|aD<|aL<|ay ?_;by_cases h:v.kind=3
 ·refine Lv aH (eZ h)<|av aH<|aD<|aO<|ay<|av (pt g)<|lS (IX 1 v g _ k) ?_;rintro e w3 ⟨a,I,R⟩;have A:=(ng g w).then R (by omega);by_cases m:kU v 1=true
  ·refine⟨.bool true,by rw[a,m],?_⟩;clear a;refine av aH<|av (pt g)<|lS (Oi (⟨v.o,v.seq,v.deps,v.kind,0,v.dst,0,v.req,v.of⟩:EvM) g _ I) ?_;rintro e w4 ⟨a,J,S⟩;have B:=A.then S (by omega);by_cases r:xV (⟨v.o,v.seq,v.deps,v.kind,0,v.dst,0,v.req,v.of⟩:EvM)=true
   ·refine⟨.bool true,by rw[a,r],?_⟩;clear a;refine av aH (av aH (aD (Wr (bM (sR (aK aH (⟨_,_,rfl,J,B,Eq.symm (by unfold mh; rw[b_ c,b_ f,d_ h,(show kU v 1=true from m),(show xV v=true from r)]; try rfl),fun d => ?_⟩)))))))
    unfold qC; rw[b_ c,b_ f,d_ h]; try rfl
   rw[S_]at r;refine⟨.bool false,by rw[a,r],?_⟩;clear a;refine av aG (av aG (aD (Wr (bM (sR (aK aG (⟨_,_,rfl,J,B,Eq.symm (by unfold mh; rw[b_ c,b_ f,d_ h,(show kU v 1=true from m),(show xV v=false from r)]; try rfl),fun d => ?_⟩)))))))
   cases d
  rw[S_]at m;refine⟨.bool false,by rw[a,m],?_⟩;clear a;refine av aG (dB (dB (av aG (av aG (aD (Wr (bM (sR (aK aG (⟨_,_,rfl,I,A,Eq.symm (by unfold mh; rw[b_ c,b_ f,d_ h,(show kU v 1=false from m)]; try rfl),fun d => ?_⟩))))))))))
  cases d
 refine Lv aG (fM h)<|av aG<|aD<|aL<|ay ?_;by_cases i:v.kind=4
 ·refine Lv aH (eZ i)<|av aH<|aD<|aO<|ay<|av (pt g)<|lS (amH v g _ k) ?_;rintro e w5 ⟨a,K,T⟩;have C:=(ng g w).then T (by omega);by_cases s:Dt v=true
  ·refine⟨.bool true,by rw[a,s],?_⟩;clear a;refine av aH (aD (Wr (bM (sR (aK aH (⟨_,_,rfl,K,C,Eq.symm (by unfold mh; rw[b_ c,b_ f,b_ h,d_ i,(show Dt v=true from s)]; try rfl),fun d => ?_⟩))))))
   unfold qC; rw[b_ c,b_ f,b_ h,d_ i]; try rfl
  rw[S_]at s;refine⟨.bool false,by rw[a,s],?_⟩;clear a;refine av aG (aD (Wr (bM (sR (aK aG (⟨_,_,rfl,K,C,Eq.symm (by unfold mh; rw[b_ c,b_ f,b_ h,d_ i,(show Dt v=false from s)]; try rfl),fun d => ?_⟩))))))
  cases d
 refine Lv aG (fM i)<|av aG<|aD<|aL<|ay ?_;by_cases j:v.kind=5
 ·refine Lv aH (eZ j)<|av aH<|aD<|aO<|ay<|av (pt g)<|lS (IX 1 v g _ k) ?_;rintro e w6 ⟨a,L,U⟩;have D:=(ng g w).then U (by omega);by_cases n:kU v 1=true
  ·refine⟨.bool true,by rw[a,n],?_⟩;clear a;refine av aH<|av (pt g)<|lS (afX (⟨v.o,v.seq,v.deps,v.kind,0,v.dst,0,v.req,v.of⟩:EvM) g _ L) ?_;rintro e w7 ⟨a,M,V⟩;have E:=D.then V (by omega);by_cases t:toB (⟨v.o,v.seq,v.deps,v.kind,0,v.dst,0,v.req,v.of⟩:EvM)=true
   ·refine⟨.bool true,by rw[a,t],?_⟩;clear a;refine av aH (av aH (aD (Wr (bM (sR (aK aH (⟨_,_,rfl,M,E,Eq.symm (by unfold mh; rw[b_ c,b_ f,b_ h,b_ i,d_ j,(show kU v 1=true from n),(show toB v=true from t)]; try rfl),fun d => ?_⟩)))))))
    unfold qC; rw[b_ c,b_ f,b_ h,b_ i,d_ j]; try rfl
   rw[S_]at t;refine⟨.bool false,by rw[a,t],?_⟩;clear a;refine av aG (av aG (aD (Wr (bM (sR (aK aG (⟨_,_,rfl,M,E,Eq.symm (by unfold mh; rw[b_ c,b_ f,b_ h,b_ i,d_ j,(show kU v 1=true from n),(show toB v=false from t)]; try rfl),fun d => ?_⟩)))))))
   cases d
  rw[S_]at n;refine⟨.bool false,by rw[a,n],?_⟩;clear a;refine av aG (dB (dB (av aG (av aG (aD (Wr (bM (sR (aK aG (⟨_,_,rfl,L,D,Eq.symm (by unfold mh; rw[b_ c,b_ f,b_ h,b_ i,d_ j,(show kU v 1=false from n)]; try rfl),fun d => ?_⟩))))))))))
  cases d
 refine Lv aG (fM j)<|av aG<|aD<|aL<|ay ?_;by_cases l:v.kind=6
 ·refine Lv aH (eZ l)<|av aH<|aD<|aO<|ay<|av (pt g)<|lS (afX v g _ k) ?_;rintro e w8 ⟨a,N,W⟩;have F:=(ng g w).then W (by omega);by_cases u:toB v=true
  ·refine⟨.bool true,by rw[a,u],?_⟩;clear a;refine av aH (aD (Wr (bM (sR (aK aH (⟨_,_,rfl,N,F,Eq.symm (by unfold mh; rw[b_ c,b_ f,b_ h,b_ i,b_ j,d_ l,(show toB v=true from u)]; try rfl),fun d => ?_⟩))))))
   unfold qC; rw[b_ c,b_ f,b_ h,b_ i,b_ j,d_ l]; try rfl
  rw[S_]at u;refine⟨.bool false,by rw[a,u],?_⟩;clear a;refine av aG (aD (Wr (bM (sR (aK aG (⟨_,_,rfl,N,F,Eq.symm (by unfold mh; rw[b_ c,b_ f,b_ h,b_ i,b_ j,d_ l,(show toB v=false from u)]; try rfl),fun d => ?_⟩))))))
  cases d
 refine Lv aG (fM l)<|av aG<|aD<|aL<|Wk<|bQ<|sN<|ay<|av (pt g)<|av (pt g)<|av (pt g)<|av (pf g 8)<|Lv (.int .u8 (v.kind)) (aN k.aI 8) ?_;by_cases x:v.kind=7
 ·refine Lv aH (eZ x) (av aH (aD (Wr (aK aH (⟨_,_,rfl,k,(ng g w),Eq.symm (by unfold mh; rw[b_ c,b_ f,b_ h,b_ i,b_ j,b_ l,f_ x]; try rfl),fun d => ?_⟩)))))
  unfold qC; rw[b_ c,b_ f,b_ h,b_ i,b_ j,b_ l]; try rfl
 refine Lv aG (fM x) (av aG (aD (Wr (aK aG (⟨_,_,rfl,k,(ng g w),Eq.symm (by unfold mh; rw[b_ c,b_ f,b_ h,b_ i,b_ j,b_ l,g_ x]; try rfl),fun d => ?_⟩)))))
 cases d
theorem afZ(x:Nat->Int)(b off:Nat)(w:World)(hx:iU w b off 6 (rv .u64 x)) :
 Calls Tryz.prog 89 #[.slice (some ⟨b,off,none⟩) (6) (6)] w fun e w'=>e = .returned (aF (MK x 5))/\Below w.heap.size w w':=by
 have o:=hx.lt (by omega);refine Kent Tryz.func89 25 ?_;refine ay<|av (aF 0)<|aD<|Ws<|ay<|av (.slice (some ⟨b,off,none⟩) (6) (6))<|av (au 6)<|Lv aG Cq<|aD<|aL<|Wk<|sN<|ay<|av (.slice (some ⟨b,off,none⟩) (6) (6))<|Lv (pf b off) (dh 1)<|Lv (aF (x 0)) (aN hx 0)<|av (aF (x 0))<|aD<|Ws<|ay<|av (au 1)<|aD<|Wb<|Wo (fun f j => ∃ k:Nat,k<=5/\f 0 = .slice (some ⟨b,off,none⟩) (6) (6)/\f 3=aF (MK x k)/\f 4=au ((k:Int)+1)/\iU j b off 6 (rv .u64 x)/\Below w.heap.size w j) (fun f _=>(6-(intOf (f 4)).toNat)) ⟨0,by omega,(by rfl),rfl,Fx.ic,hx,(Below.refl w.heap.size w)⟩ ?_;rintro m p ⟨k,n,c,h,a,i,d⟩;refine Ws<|ay<|aX a<|aX c<|av (au 6) ?_;by_cases g:((k:Int)+1)<6
 ·refine Lv aH (gV g)<|aD<|aO<|Wk<|sN<|Ws<|Wb<|Wl<|aX h<|aX c<|aX a<|Lv (pf b (k+off+1)) (dh 1)<|Lv (aF (x (k+1))) (aN i (k+1))<|Lv (aF (MK x (k+1))) (Fx.Y3 rfl rfl rfl)<|av (aF (MK x (k+1)))<|Ln<|bQ<|sN<|Wl<|aX a<|Lv (au ((k:Int)+2)) eY<|av (au ((k:Int)+2))<|Ln<|gT ⟨k+1,by omega,c,rfl,Fx.ic,i,d⟩ ?_;show(6-(intOf (au ((k:Int)+2))).toNat)<_;simp only[a,intOf]; omega
 refine Lv aG (gW g)<|aD<|aL<|Wx<|cu<|gJ<|cB<|sN<|ay<|aX h<|av (aF (MK x k))<|aD<|Wr<|aK (aF (MK x k)) ?_;have l:k=5:=by omega
 exact⟨by rw[l],d⟩
theorem Oj{ks:List (Option IntKind)}{x y:Nat->Value}(h:Fx.Kd ks y)(e : ∀ j,j<ks.length->x j=y j):Fx.Kd ks x:=fun i a=>by rw[e i a]; exact h i a
namespace Rt
theorem Ky{v:EvM}(h:gy v):gy (Ul v):=by
 have z:kF 0:=⟨by decide,by decide⟩;have y:xB 0:=⟨by decide,by decide⟩;exact⟨h.o,h.seq,h.deps,h.kind,z,y,y,z,z⟩
theorem Kz{v:EvM}(h:gy v):gy (qC v):=by
 have z:kF 0:=⟨by decide,by decide⟩;have y:xB 0:=⟨by decide,by decide⟩;unfold qC;split
 ·exact⟨h.o,h.seq,h.deps,h.kind,z,h.dst,y,h.req,h.of⟩
 split
 ·exact⟨h.o,h.seq,h.deps,h.kind,z,h.dst,y,h.req,h.of⟩
 split
 ·exact⟨h.o,h.seq,h.deps,h.kind,z,h.dst,y,z,h.of⟩
 split
 ·exact⟨h.o,h.seq,h.deps,h.kind,h.node,h.dst,h.aU,z,z⟩
 split
 ·exact⟨h.o,h.seq,h.deps,h.kind,z,y,y,h.req,h.of⟩
 split
 ·exact⟨h.o,h.seq,h.deps,h.kind,h.node,y,h.aU,h.req,h.of⟩
 exact h
end Rt
set_option maxHeartbeats 2000000 in
theorem GX(v:EvM)(w:World)(G:gy v) :
 Calls Tryz.prog 62 #[.agg (aC 14 (bS v))] w fun e w'=>e = .returned (.bool (bO v))/\Below w.heap.size w w':=by
 refine Kent Tryz.func62 55 ?_;refine ay<|rU fun g w1 mD t s1 z1 => ?_;have B:=bH s1.old (Below.refl w.heap.size w);have uG:=iE mD;have wO:=t.lt;refine av aG<|aD<|Ws<|Ws ?_;refine mO<|aT (pt g)<|Qv (au v.o) (fun f d=>aN (t.cb d) 0) ?_;by_cases l:(pI v.o)=true
 ·obtain⟨a,ha,ea⟩:=fA l;refine pR (fun _ _=>AY v.o _) aH (by rw[l])<|aT aG<|aT aG<|aT (pf g 1)<|Qv (aF v.seq) (fun f d=>aN (t.cb d) 1) ?_;by_cases N:v.seq<1
  ·refine Qv aH (fun f d=>gV N)<|aT aH<|aT aH<|aQ<|aQ<|aQ<|aT aH<|aT aH<|aQ<|aQ<|aQ<|aQ<|aQ<|aQ<|aQ<|aQ<|aQ<|aQ<|aT aH<|Qn ?_;intro WI sP;have⟨k,U⟩:=fC sP t B;refine sN<|aO<|ay<|av aG<|aD<|Wr<|sR<|aK aG ?_;have k:decide (1<=v.seq)=false:=g_ (by omega);exact⟨gZ (Eq.symm (by unfold bO; rw[l,k]; try rfl)),U⟩
  refine Qv aG (fun f d=>gW N)<|aT aG<|aT aG<|aT (pf g 1)<|Qv (aF v.seq) (fun f d=>aN (t.cb d) 1) ?_;by_cases O:1099511627776<=v.seq
  ·refine Qv aH (fun f d=>ko O)<|aT aH<|aT aH<|aQ<|aQ<|aQ<|aQ<|aQ<|aQ<|aQ<|aQ<|aQ<|aQ<|aT aH<|Qn ?_;intro Zi wP;have⟨m,V⟩:=fC wP t B;refine sN<|aO<|ay<|av aG<|aD<|Wr<|sR<|aK aG ?_;have k:decide (1<=v.seq)=true:=f_ (by omega);have m:decide (v.seq<1099511627776)=false:=g_ (by omega);exact⟨gZ (Eq.symm (by unfold bO; rw[l,k,m]; try rfl)),V⟩
  refine Qv aG (fun f d=>jU O)<|aT aG<|aT aG<|aT (pt g)<|Qv (au v.o) (fun f d=>aN (t.cb d) 0)<|Qv (au a) (fun f d=>gu)<|aT (pf g 2)<|Qv (pf g (a+2)) (fun f d=>jE 6 1)<|Qv (aF (v.deps a)) (fun f d=>aN (t.cb d) (a+2) (lW _ (by omega) (by omega)))<|aT (pf g 1)<|Qv (aF v.seq) (fun f d=>aN (t.cb d) 1)<|Qv (aF (v.seq-1)) (fun f d=>gu) ?_;by_cases y:(v.deps a)=(v.seq-1)
  ·refine Qv aG (fun f d=>kr y)<|aT aG<|Qn ?_;intro wb3 wQ;have⟨q,W⟩:=fC wQ t B;refine sN<|aL<|Wk<|sN<|Ws<|ay<|av (pf g 2)<|Lv (.slice (some ⟨g,2,none⟩) (6) (6)) (Fx.MI rfl rfl Tryz.underlying30 (s:=1) (by kernel_rfl))<|eB (afZ v.deps g 2 _ (fun j x=>by have Q:=q.aI (2+j) (by omega); rw[E_]at Q; rw[Q,lW v (p:=2+j) (j:=j) (by omega) x]; rfl)) _ rfl ?_;intro w2 hb1;have⟨r,I⟩:=fC hb1 q W;by_cases A:1099511627776<=(MK v.deps 5)
   ·refine Lv aH (ko A)<|aD<|aO<|ay<|av aG<|aD<|Wr<|sR<|aK aG ?_;have k:decide (1<=v.seq)=true:=f_ (by omega);have m:decide (v.seq<1099511627776)=true:=f_ (by omega);have q:decide (v.deps (v.o-1).toNat=v.seq-1)=true:=f_ (by rw[show(v.o-1).toNat=a by omega]; exact y);have r:=acf A;exact⟨gZ (Eq.symm (by unfold bO; rw[l,k,m,q,r]; try rfl)),I⟩
   refine Lv aG (jU A)<|aD<|aL<|Wk<|sN<|ay<|Lv (.agg (aC 14 (bS v))) (gI r.aI 0)<|av (.agg (aC 14 (bI (fun c=>if c<1 then au 0 else if c<8 then aF 0 else if c<9 then .int .u8 (0)else if c<10 then aF 0 else if c<12 then au 0 else aF 0) 0 14 (bS v))))<|rU fun z w3 P u s6 z2 => ?_;have⟨C,Z⟩:=fC s6.old r I;have sG:=jI P I.size;have Tg:=cO P r.lt;have Bg:=u.lt;refine av (pt z)<|aD<|Ws ?_;have L:aS w3 z 14 (bS v) 160:=u.congr (fun j x=>by rcases j with _|_|_|_|_|_|_|_|_|_|_|_|_|_|j <;> first|rfl|omega)
   refine Ap [0,1,2,3,4,5,7,9,11,13,6,8,10,12,14,15,16,17,18] [0,3,0,0,0,0,4,0,4,0,4,0,4,0,4,0,0,0,0] (Fx.Dz [160]) Fx.Dz.refl Fx.Dz.trans (fG := [(2,1,[1]),(3,1,[2,1]),(4,1,[2,1]),(5,1,[2,1]),(7,1,[2,1]),(9,1,[2,1]),(11,1,[2,1]),(13,1,[2,1]),(6,1,[2,1]),(8,1,[2,1]),(10,1,[2,1]),(12,1,[2,1]),(14,1,[2,1]),(15,1,[2,1]),(16,1,[2,1]),(17,1,[2,1]),(18,1,[1])]) (by kernel_rfl) (by kernel_rfl) (by kernel_rfl) (by kernel_rfl) (by kernel_rfl) fun qI dY iF => ?_;have⟨m9,m10,M⟩:=ku dY C L Z;refine bf (pt z)<|gF<|lS (acg v z _ m10) ?_;rintro e w4 ⟨b,v',E,R,S,F,hkv⟩;have H:=m9.cZ S (by omega);have J:=S.below M M.size (by omega)
   cases b
   ·refine⟨.bool false,E,?_⟩;clear E;refine Ln<|bf aG<|Rk (by rfl)<|Rk (by rfl)<|Rk (by rfl)<|Rk (by rfl)<|Rk (by rfl)<|Rk (by rfl)<|Rk (by rfl)<|Rk (by rfl)<|Rk (by rfl)<|Rk (by rfl)<|Rk (by rfl)<|Rk (by rfl)<|Rk (by rfl)<|Rk (by rfl)<|bf aG<|bf aG<|bR<|Wr<|aK aG ?_;have k:decide (1<=v.seq)=true:=f_ (by omega);have m:decide (v.seq<1099511627776)=true:=f_ (by omega);have q:decide (v.deps (v.o-1).toNat=v.seq-1)=true:=f_ (by rw[show(v.o-1).toNat=a by omega]; exact y);have r:=IY A;have u:rE v=true->dJ v=false:=fun h=>by rw[CJ h,<- F]
    have C:(rE v&&dJ v)=false:=by cases h:rE v with|false=>rfl|true=>exact u h
    have L:(true&&true&&true&&true&&true&&rE v&&dJ v)=false:=C;exact⟨gZ (Eq.symm (by unfold bO; rw[l,k,m,q,r,L]; try rfl)),J⟩
   refine⟨.bool true,E,?_⟩;clear E;rw[hkv rfl]at R;refine Ln<|bf aH<|bf (pt z)<|bf (pt z)<|bf (pt z)<|bf (pt g)<|bf (pf g 1)<|bf (pf g 2)<|bf (pf g 8)<|Rs (.agg (aC 14 (bS (qC v)))) (gI R.aI 0) ?_;refine Rs (au v.o) (aN H.aI 0) ?_;refine Rs (aF v.seq) (aN H.aI 1) ?_;refine Rs (.agg (aC 6 (rv .u64 v.deps))) (gI H.aI 2 (fun j x=>lW _ (by omega) x)) ?_;refine Rs (.int .u8 (v.kind)) (aN H.aI 8) ?_;refine bf (.agg (aC 14 (bI (bI (bI (bI (fun c=>if c<1 then au 0 else if c<8 then aF 0 else if c<9 then .int .u8 (0)else if c<10 then aF 0 else if c<12 then au 0 else aF 0) 0 1 (fun _=>au v.o)) 1 1 (fun _=>aF v.seq)) 2 6 (rv .u64 v.deps)) 8 1 (fun _ => .int .u8 (v.kind))))) ?_;by_cases D : ∀ i,i<14->(bS (qC v)) i=(bI (bI (bI (bI (fun c=>if c<1 then au 0 else if c<8 then aF 0 else if c<9 then .int .u8 (0)else if c<10 then aF 0 else if c<12 then au 0 else aF 0) 0 1 (fun _=>au v.o)) 1 1 (fun _=>aF v.seq)) 2 6 (rv .u64 v.deps)) 8 1 (fun _ => .int .u8 (v.kind))) i
   ·refine Rp aH (fun f=>Fx.xG (n:=14) (ks := [(some .i64),(some .u64),(some .u64),(some .u64),(some .u64),(some .u64),(some .u64),(some .u64),(some .u8),(some .u64),(some .i64),(some .i64),(some .u64),(some .u64)]) (X:=bS (qC v)) (Y:=bI (bI (bI (bI (fun c=>if c<1 then au 0 else if c<8 then aF 0 else if c<9 then .int .u8 (0)else if c<10 then aF 0 else if c<12 then au 0 else aF 0) 0 1 (fun _=>au v.o)) 1 1 (fun _=>aF v.seq)) 2 6 (rv .u64 v.deps)) 8 1 (fun _ => .int .u8 (v.kind))) 12 true rfl rfl rfl (Fx.Wn D) (Cv (Kz G)) (Oj (Cv (Ky G)) (fun j x=>by rcases j with _|_|_|_|_|_|_|_|_|_|_|_|_|_|j <;> first|rfl|exact L_ x (by simp))) rfl (by kernel_rfl) (by kernel_rfl) (by kernel_rfl) (by kernel_rfl) (by kernel_rfl))<|bf aH<|bf aH<|bR<|Wr<|aK aH ?_
    have k:decide (1<=v.seq)=true:=f_ (by omega);have m:decide (v.seq<1099511627776)=true:=f_ (by omega);have q:decide (v.deps (v.o-1).toNat=v.seq-1)=true:=f_ (by rw[show(v.o-1).toNat=a by omega]; exact y);have r:=IY A;have u:=(GV F.symm).1 (fun i K=>(D i K).trans (by rcases i with _|_|_|_|_|_|_|_|_|_|_|_|_|_|i <;> first|rfl|omega))
    have C:=(CJ u).trans F.symm;exact⟨gZ (Eq.symm (by unfold bO; rw[l,k,m,q,r,u,C]; try rfl)),J⟩
   refine Rp aG (fun f=>Fx.xG (n:=14) (ks := [(some .i64),(some .u64),(some .u64),(some .u64),(some .u64),(some .u64),(some .u64),(some .u64),(some .u8),(some .u64),(some .i64),(some .i64),(some .u64),(some .u64)]) (X:=bS (qC v)) (Y:=bI (bI (bI (bI (fun c=>if c<1 then au 0 else if c<8 then aF 0 else if c<9 then .int .u8 (0)else if c<10 then aF 0 else if c<12 then au 0 else aF 0) 0 1 (fun _=>au v.o)) 1 1 (fun _=>aF v.seq)) 2 6 (rv .u64 v.deps)) 8 1 (fun _ => .int .u8 (v.kind))) 12 false rfl rfl rfl (Fx.nob D) (Cv (Kz G)) (Oj (Cv (Ky G)) (fun j x=>by rcases j with _|_|_|_|_|_|_|_|_|_|_|_|_|_|j <;> first|rfl|exact L_ x (by simp))) rfl (by kernel_rfl) (by kernel_rfl) (by kernel_rfl) (by kernel_rfl) (by kernel_rfl))<|bf aG<|bf aG<|bR<|Wr<|aK aG ?_
   have k:decide (1<=v.seq)=true:=f_ (by omega);have m:decide (v.seq<1099511627776)=true:=f_ (by omega);have q:decide (v.deps (v.o-1).toNat=v.seq-1)=true:=f_ (by rw[show(v.o-1).toNat=a by omega]; exact y);have r:=IY A;have u:rE v=false:=Bool.eq_false_iff.2 (fun h=>D (fun i K=>((GV F.symm).2 h i K).trans (by rcases i with _|_|_|_|_|_|_|_|_|_|_|_|_|_|i <;> first|rfl|omega)))
   exact⟨gZ (Eq.symm (by unfold bO; rw[l,k,m,q,r,u]; try rfl)),J⟩
  refine Qv aH (fun f d=>nE y)<|aT aH<|Qn ?_;intro wb4 Aw;have b9:=bH Aw B;refine sN<|aO<|ay<|av aG<|aD<|Wr<|sR<|aK aG ?_;have k:decide (1<=v.seq)=true:=f_ (by omega);have m:decide (v.seq<1099511627776)=true:=f_ (by omega);have q:decide (v.deps (v.o-1).toNat=v.seq-1)=false:=g_ (by rw[show(v.o-1).toNat=a by omega]; exact y);exact⟨gZ (Eq.symm (by unfold bO; rw[l,k,m,q]; try rfl)),b9⟩
 rw[S_]at l;refine pR (fun _ _=>AY v.o _) aG (by rw[l])<|aT aH<|aT aH<|aQ<|aQ<|aQ<|aT aH<|aT aH<|aQ<|aQ<|aQ<|aT aH<|aT aH<|aQ<|aQ<|aQ<|aQ<|aQ<|aQ<|aQ<|aQ<|aQ<|aQ<|aT aH<|Qn ?_;intro wb5 Et;have T:=bH Et B;refine sN<|aO<|ay<|av aG<|aD<|Wr<|sR<|aK aG ?_;exact⟨gZ (Eq.symm (by unfold bO; rw[l]; try rfl)),T⟩
namespace Rt
def tZ(a b:Int):Int:=if b>a then b else a
def vx(X:Nat->Nat->Int):Nat->Value:=fun p=>aF (X (p / 6) (p % 6))
theorem Uo(X:Nat->Nat->Int){i p j:Nat}(a:p=6*i)(b:j<6):vx X (p+j)=rv .u64 (X i) j:=by
 subst a;show Value.int .u64 (X ((6*i+j) / 6) ((6*i+j) % 6))=aF (X i j);rw[show(6*i+j) / 6=i by omega,show(6*i+j) % 6=j by omega]
def zA(c:Int->Int->Int)(X:Nat->Nat->Int):Nat->Nat->Int
 | 0=>X 0
 | k+1=>fun p=>c (zA c X k p) (X (k+1) p)
def Ol(c:Int->Int->Int)(X:Nat->Nat->Int):Nat->Nat->Int
 | 0=>fun _=>0
 | k+1=>zA c X k
def Vcs(w:World)(a:Option Addr)(n cap:Nat)(X:Nat->Nat->Int):Prop:=0<n->n<=cap /\ ∃ b c,a=some ⟨b,c,none⟩/\iU w b c (6*n) (vx X)
def xW(x:Nat->Int)(k:Nat):Nat->Int:=fun p=>if p<k then x p else 0
theorem ML(x:Nat->Int)(k:Nat):upd (xW x k) k (x k)=xW x (k+1):=by
 funext p; unfold upd xW
 by_cases h:p=k
 ·subst h; rw[d_ rfl,d_ (by omega)]
 rw[b_ h];by_cases a:p<k
 ·rw[d_ a,d_ (by omega)]
 rw[b_ a,b_ (by omega)]
theorem Qa(x:Nat->Int):aC 6 (rv .u64 (xW x 6))=aC 6 (rv .u64 x):=Fx.eU fun p a=>K_ (Value.int .u64) (by unfold xW; rw[d_ a])
end Rt
theorem aga(a b:Int)(w:World) :
 Calls Tryz.prog 128 #[aF a,aF b] w fun e w'=>e = .returned (aF (tZ a b))/\w'=w:=by
 refine Kent Tryz.func128 8 ?_;refine ay<|av (aF 0)<|aD<|ay<|av (aF a)<|av (aF b)<|Lv (aF (tZ a b)) (Fx.Y3 rfl rfl rfl)<|av (aF (tZ a b))<|aD<|Wr<|aK (aF (tZ a b)) ?_;exact⟨rfl,rfl⟩
theorem Uq(x y:Nat->Int)(d go c q:Nat)(w:World)(l:q<6)(j:aS w d 1 (fun _ => .func (.func 128) #[] #[]) 193)(f:aS w go 6 (rv .u64 x) 30)(k:aS w c 6 (rv .u64 y) 30) :
 Calls Tryz.prog 140 #[au (q:Int),(pt d),(pt go),(pt c)] w fun e w'=>e = .returned (aF (tZ (x q) (y q)))/\Below w.heap.size w w':=by
 refine Kent Tryz.func140 14 ?_;refine ay<|av (aF 0)<|aD<|Ws ?_;refine mO<|Qv (.func (.func 128) #[] #[]) (fun b a=>aN (j.cb a) 0)<|aT (au q)<|Qv (pf go q) (fun b a=>jE 6 1)<|Qv (aF (x q)) (fun b a=>aN (f.cb a) q)<|aT (au q)<|Qv (pf c q) (fun b a=>jE 6 1)<|Qv (aF (y q)) (fun b a=>aN (k.cb a) q)<|FM (v:=aF (tZ (x q) (y q))) (by rfl) (fun b a=>Fx.Gd (args := [aF (x q),aF (y q)]) rfl rfl rfl (all := #[aF (x q),aF (y q)]) rfl Tryz.func128 rfl rfl) rfl (fun b a=>(aga (x q) (y q) _).mono fun e v2 h=>⟨h.1,by rw[h.2]; exact a⟩) ?_;refine aT (aF (tZ (x q) (y q)))<|Qn ?_;intro n i;have⟨m,g⟩:=fC i f (Below.refl w.heap.size w);refine sN<|Wr<|aK (aF (tZ (x q) (y q))) ?_;exact⟨rfl,g⟩
theorem MO(x y:Nat->Int)(b go c:Nat)(w:World)(z:aS w b 1 (fun _ => .func (.func 128) #[] #[]) 193)(B:aS w go 6 (rv .u64 x) 30)(C:aS w c 6 (rv .u64 y) 30) :
 Calls Tryz.prog 139 #[.func (.func 140) #[] #[(pt b),(pt go),(pt c)]] w fun e w'=>e = .returned (.agg (aC 6 (rv .u64 (fun p=>tZ (x p) (y p)))))/\Below w.heap.size w w':=by
 refine Kent Tryz.func139 14 ?_;refine ay<|C9 (m:=6) (y:=rv .u64 (fun _=>0)) (by rfl) rfl (by kernel_rfl) rfl fun a w1 u D Z z1 => ?_;have⟨T,W,X,E⟩:=oZ Z.old z B C (Below.refl w.heap.size w);have uG:=iE u;have⟨nI,Zu,zB⟩:=JC u z.lt B.lt C.lt;have wO:=D.lt;refine aD<|Ws<|ay<|av (au 0)<|aD<|Wb ?_;have Y:aS w1 a 6 (rv .u64 (xW (fun p=>tZ (x p) (y p)) 0)) 30:=D;refine Wo (fun f h => ∃ k:Nat,k<=6/\f 0 = .func (.func 140) #[] #[(pt b),(pt go),(pt c)]/\f 2=(pt a)/\f 4=au (k:Int)/\aS h b 1 (fun _ => .func (.func 128) #[] #[]) 193/\aS h go 6 (rv .u64 x) 30/\aS h c 6 (rv .u64 y) 30/\aS h a 6 (rv .u64 (xW (fun p=>tZ (x p) (y p)) k)) 30/\Below w.heap.size w h) (fun f _=>(6-(intOf (f 4)).toNat)) ⟨0,by omega,(by rfl),(by rfl),Fx.ic,T,W,X,Y,E⟩ ?_;rintro f1 w2 ⟨k,hk,v,d,g,n,o,q,r,l⟩;refine ay ?_;by_cases t:(k:Int)<6
 ·refine Lv aH (gV t (hx:=g))<|aD<|Ws<|aO<|Wk<|sN<|Ws<|Wb<|ay<|aX g<|av (au k)<|aD<|Wl<|av (au k)<|aX v<|av (au k)<|Bc (by rfl) (Fx.Gd (args := [au (k:Int)]) rfl rfl rfl (all := #[au (k:Int),(pt b),(pt go),(pt c)]) rfl Tryz.func140 rfl rfl) rfl<|(Uq x y b go c k _ (by omega) n o q).mono ?_;rintro e w3 ⟨A,I⟩;refine⟨aF (tZ (x k) (y k)),by rw[A],?_⟩;clear A;have⟨J,K,L,M,s⟩:=vP I n o q r l;refine Lv (pf a k) (jE 6 1 (hx:=d))<|jm M k (aF (tZ (x k) (y k))) fun w4 N i z2 => ?_;have O:aS w4 a 6 (rv .u64 (upd (xW (fun p=>tZ (x p) (y p)) k) k (tZ (x k) (y k)))) 30:=N.to (Fx.yj _ _ _ _);have P:=J.cZ i (by omega);have Q:=K.cZ i (by omega);have R:=L.cZ i (by omega);have F:=i.below s s.size (by omega);refine Ln<|bQ<|sN<|Wl<|Lv (au ((k:Int)+1)) (eY (hx:=g))<|av (au ((k:Int)+1))<|Ln ?_;have S:=O.to (K_ (rv .u64) (ML (fun p=>tZ (x p) (y p)) k));refine gT ⟨k+1,by omega,v,d,Fx.ic,P,Q,R,S,F⟩ ?_;show(6-(intOf (au ((k:Int)+1))).toNat)<_;simp only[g,intOf]; omega
 refine Lv aG (gW t (hx:=g))<|aD<|Ws<|aL<|Wx<|cu<|gJ<|cB<|sN<|ay<|Lv (.agg (aC 6 (rv .u64 (xW (fun p=>tZ (x p) (y p)) k)))) (gI r.aI 0 (ha:=d))<|fH r 0 (ha:=d) fun w5 U j z3 => ?_;have V:aS w5 a 6 (rv .u64 (xW (fun p=>tZ (x p) (y p)) k)) 30:=aW U;have m22:=n.cZ j (by omega);have m23:=o.cZ j (by omega);have m24:=q.cZ j (by omega);have G:=j.below l l.size (by omega);refine aD (Wr (⟨.agg (aC 6 (rv .u64 (xW (fun p=>tZ (x p) (y p)) k))),rV Tryz.results139 ⟨_,d,aY V.aI (by kernel_rfl) (by kernel_rfl)⟩,?_⟩));have H:k=6:=by omega
 exact⟨by rw[H,Qa],G⟩
namespace Rt
def V2(x y:Nat->Int):Nat->Nat->Int
 | 0=>x
 | 1=>y
 | _=>fun _=>0
end Rt
theorem KA(a:Option Addr)(cap:Nat)(w:World) :
 Calls Tryz.prog 127 #[.slice a (0) (cap),.func (.func 128) #[] #[]] w fun e w'=>e = .returned (.agg (aC 6 (rv .u64 (fun _=>0))))/\Below w.heap.size w w':=by
 refine Kent Tryz.func127 26 ?_;refine ay<|zH (.func (.func 128) #[] #[]) fun t C j b p E => ?_;have c:=bH p.old (Below.refl w.heap.size w);have u:=iE j;have A:=b.lt;refine xg 6 (rv .u64 (fun _=>0)) fun k D f g q F => ?_;have⟨l,d⟩:=fC q.old b c;have v:=jI f c.size;have z:=cO f b.lt;have B:=g.lt;refine aD<|Ws<|ay<|av (.slice a (0) (cap))<|av (au 0)<|Lv aH (eZ rfl)<|aD<|aO<|ay<|Lv (.agg (aC 6 (rv .u64 (fun _=>0)))) (Fx.vL (vs := []) (s:=1) (m:=6) (x:=rv .u64 (fun _=>0)) rfl rfl Tryz.underlying30 (by kernel_rfl) (by kernel_rfl) (by rfl))<|fH g 0 fun r n h G => ?_;have o:aS r k 6 (rv .u64 (fun _=>0)) 30:=aW n;have y:=l.cZ h (by omega);have i:=h.below d d.size (by omega);refine aD (Wr (sR (⟨.agg (aC 6 (rv .u64 (fun _=>0))),rV Tryz.results127 ⟨_,rfl,aY o.aI (by kernel_rfl) (by kernel_rfl)⟩,?_⟩)));exact⟨rfl,i⟩
theorem KC(b off m cap:Nat)(X:Nat->Nat->Int)(w:World)(hcap:m+1<=cap)(hm:m<=1000000)(hx:iU w b off (6*(m+1)) (vx X)) :
 Calls Tryz.prog 127 #[.slice (some ⟨b,off,none⟩) (m+1) (cap),.func (.func 128) #[] #[]] w fun e w'=>e = .returned (.agg (aC 6 (rv .u64 (zA tZ X m))))/\Below w.heap.size w w':=by
 have lb:=hx.lt (by omega);refine Kent Tryz.func127 26 ?_;refine ay<|zH (.func (.func 128) #[] #[]) fun c w1 Q F s1 z1 => ?_;have⟨T,K⟩:=fC s1.old hx (Below.refl w.heap.size w);have uG:=iE Q;have nI:b≠c:=by rw[Q]; exact t_ (hx.lt (by omega))
 have wO:=F.lt;refine xg 6 (rv .u64 (fun _=>0)) fun r w2 z I s2 z2 => ?_;have⟨J,Z,L⟩:=ku s2.old T F K;have sG:=jI z K.size;have agb:b≠r:=by rw[z]; exact t_ (T.lt (by omega))
 have Zv:=cO z F.lt;have Bg:=I.lt;refine aD<|Ws<|ay<|av (.slice (some ⟨b,off,none⟩) (m+1) (cap))<|av (au ((m+1:Nat):Int))<|Lv aG aes<|aD<|aL<|Wk<|sN<|ay<|av (.slice (some ⟨b,off,none⟩) (m+1) (cap))<|Lv (pf b off) (dh 6)<|Lv (.agg (aC 6 (rv .u64 (X 0)))) (gI J 0 (fun j E=>Uo _ (i:=0) (p:=0) (by omega) E))<|xg 6 (rv .u64 (fun _=>0)) fun a w3 A m6 s3 z3 => ?_;have⟨m7,m8,m9,M⟩:=oZ s3.old J Z I L;have Eo:=jI A L.size;have aqN:b≠a:=by rw[A]; exact t_ (J.lt (by omega))
 have⟨agc,agd⟩:=xM A Z.lt I.lt;have Ma:=m6.lt;refine fH m6 0 fun w4 m10 x z4 => ?_;have m11:aS w4 a 6 (rv .u64 (X 0)) 30:=aW m10;have m12:=m7.cZ x (by omega);have m13:=m8.cZ x (by omega);have m14:=m9.cZ x (by omega);have b4:=x.below M M.size (by omega);refine aD<|Ws<|ay<|av (.slice (some ⟨b,off,none⟩) (m+1) (cap))<|Lv (.slice (if cap=1 then some ⟨b,off,none⟩else some ⟨b,off+6,none⟩) (m) (cap-1)) (Fx.zF (j:=1) (b:=b) (off:=off) (len:=m+1) (cap:=cap) (s:=6) rfl rfl rfl Tryz.underlying191 (by kernel_rfl) (by omega) rfl rfl rfl)<|av (au m)<|av (au 0)<|aD<|Wb ?_;have m15:aS w4 a 6 (rv .u64 (zA tZ X 0)) 30:=m11;refine Wo (fun f n => ∃ k:Nat,k<=m/\f 3=(pt c)/\f 4=(pt r)/\f 5=(pt a)/\f 16 = .slice (if cap=1 then some ⟨b,off,none⟩else some ⟨b,off+6,none⟩) (m) (cap-1)/\f 17=au (m:Int)/\f 18=au (k:Int)/\iU n b off (6*(m+1)) (vx X)/\aS n c 1 (fun _ => .func (.func 128) #[] #[]) 193/\aS n r 6 (rv .u64 (fun _=>0)) 30/\aS n a 6 (rv .u64 (zA tZ X k)) 30/\Below w.heap.size w n) (fun f _=>(m-(intOf (f 18)).toNat)) ⟨0,by omega,(by rfl),(by rfl),(by rfl),(by rfl),Fx.ic,Fx.ic,m12,m13,m14,m15,b4⟩ ?_;rintro f1 w5 ⟨k,hk,R,C,t,S,D,g,u,G,H,v,o⟩;refine ay ?_;by_cases P:(k:Int)<(m:Int)
 ·refine Lv aH (gV P (hx:=g) (hy:=D))<|aD<|Ws<|aO<|Wk<|sN<|Ws<|Wb<|ay<|Lv (pf b (6*k+off+6)) (dh 6 (hx:=(S.trans (K_ (fun q=>Value.slice q (m) (cap-1)) (b_ (by omega))))) (hi:=g))<|Lv (.agg (aC 6 (rv .u64 (X (k+1))))) (gI u (6*k+6) (fun j E=>Uo _ (i:=k+1) (p:=6*k+6) (by omega) E))<|xg 6 (rv .u64 (fun _=>0)) fun d w6 B U s5 z5 => ?_;have⟨m21,m22,m23,m24,N⟩:=vP s5.old u G H v o;have VZ:=jI B o.size;have amI:b≠d:=by rw[B]; exact t_ (u.lt (by omega))
  have⟨amJ,amK,amL⟩:=JC B G.lt H.lt v.lt;have TP:=U.lt;refine fH U 0 fun w7 ni h z6 => ?_;have V:aS w7 d 6 (rv .u64 (X (k+1))) 30:=aW ni;have oz:=m21.cZ h (by omega);have W:=m22.cZ h (by omega);have oC:=m23.cZ h (by omega);have Y:=m24.cZ h (by omega);have b7:=h.below N N.size (by omega);refine aD<|Wl<|Lv (.func (.func 140) #[] #[(pt c),(pt a),(pt d)]) (Fx.ny (us := []) (vs := [(pt c),(pt a),(pt d)]) rfl rfl (Fx.Nn R t rfl))<|eB (MO (zA tZ X k) (X (k+1)) c a d _ W Y V) _ rfl ?_;intro w8 hb1;have⟨mE,m32,qh,oN,pW,O⟩:=uy hb1 oz W oC Y V b7;refine fH oN 0 (ha:=t) fun w9 qx l z7 => ?_;have rW:aS w9 a 6 (rv .u64 (fun p=>tZ ((zA tZ X k) p) ((X (k+1)) p))) 30:=aW qx;have qy:=mE.cZ l (by omega);have pF:=m32.cZ l (by omega);have sj:=qh.cZ l (by omega);have nk:=pW.cZ l (by omega);have b9:=l.below O O.size (by omega);refine Ln<|bQ<|sN<|Wl<|Lv (au ((k:Int)+1)) (eY (hx:=g))<|av (au ((k:Int)+1))<|Ln<|gT ⟨k+1,by omega,R,C,t,S,(D.trans Fx.ic),Fx.ic,qy,pF,sj,rW,b9⟩ ?_;show(m-(intOf (au ((k:Int)+1))).toNat)<_;simp only[g,intOf]; omega
 refine Lv aG (gW P (hx:=g) (hy:=D))<|aD<|Ws<|aL<|Wx<|cu<|gJ<|cB<|sN<|ay<|Lv (.agg (aC 6 (rv .u64 (zA tZ X k)))) (gI v.aI 0 (ha:=t))<|fH H 0 (ha:=C) fun sQ mV y z8 => ?_;have nu:aS sQ r 6 (rv .u64 (zA tZ X k)) 30:=aW mV;have rX:=u.cZ y (by omega);have qK:=G.cZ y (by omega);have nU:=v.cZ y (by omega);have b10:=y.below o o.size (by omega);refine aD (Wr (⟨.agg (aC 6 (rv .u64 (zA tZ X k))),rV Tryz.results127 ⟨_,C,aY nu.aI (by kernel_rfl) (by kernel_rfl)⟩,?_⟩));have ek:k=m:=by omega
 exact⟨by rw[ek],b10⟩
theorem MP(a:Option Addr)(n cap:Nat)(X:Nat->Nat->Int)(w:World)(g:n<=1000000)(h:Vcs w a n cap X) :
 Calls Tryz.prog 127 #[.slice a n cap,.func (.func 128) #[] #[]] w fun e w'=>e = .returned (.agg (aC 6 (rv .u64 (Ol tZ X n))))/\Below w.heap.size w w':=by
 cases n with
 | zero=>exact KA a cap w
 | succ m=>obtain⟨c,b,f,rfl,d⟩:=h (by omega); exact KC b f m cap X w c (by omega) d
theorem ach{w w':World}{a:Option Addr}{n cap:Nat}{X:Nat->Nat->Int}(h:Vcs w a n cap X)(f:Below w.heap.size w w'):Vcs w' a n cap X:=fun d=>by
 obtain⟨g,b,i,e,c⟩:=h d;exact⟨g,b,i,e,c.below f (c.lt (by omega))⟩
theorem aci(a:Option Addr)(n cap:Nat)(X:Nat->Nat->Int)(w:World)(k:n<=1000000)(h:Vcs w a n cap X) :
 Calls Tryz.prog 119 #[.slice a (n) (cap)] w fun e w'=>e = .returned (.agg (aC 6 (rv .u64 (Ol tZ X n))))/\Below w.heap.size w w':=by
 refine Kent Tryz.func119 5 ?_;refine ay<|C9 (m:=6) (y:=rv .u64 (fun _=>0)) (by rfl) rfl (by kernel_rfl) rfl fun i v g d q z => ?_;have b:=bH q.old (Below.refl w.heap.size w);have t:=iE g;have u:=d.lt;refine aD<|ay<|av (.slice a (n) (cap))<|eB (MP a n cap X _ k (ach h b)) _ rfl ?_;intro x j;have⟨l,c⟩:=fC j d b;refine fH l 0 fun s o r A => ?_;have p:aS s i 6 (rv .u64 (Ol tZ X n)) 30:=aW o;have f:=r.below c c.size (by omega);refine aD (Wr (⟨.agg (aC 6 (rv .u64 (Ol tZ X n))),rV Tryz.results119 ⟨_,rfl,aY p.aI (by kernel_rfl) (by kernel_rfl)⟩,?_⟩));exact⟨rfl,f⟩
namespace Rt
theorem agf(x y:Nat->Int):bI (bI (fun j=>rv .u64 (fun _=>0) (j % 6)) (0*6) 6 (rv .u64 x)) (1*6) 6 (rv .u64 y)=vx (V2 x y):=by
 funext p
 unfold bI;by_cases b:1*6<=p/\p<1*6+6
 ·rw[d_ b];show _=Value.int .u64 (V2 x y (p / 6) (p % 6));rw[show p / 6=1 by omega,show p-1*6=p % 6 by omega]; rfl
 rw[b_ b];by_cases a:0*6<=p/\p<0*6+6
 ·rw[d_ a];show _=Value.int .u64 (V2 x y (p / 6) (p % 6));rw[show p / 6=0 by omega,show p-0*6=p % 6 by omega]; rfl
 rw[b_ a];show _=Value.int .u64 (V2 x y (p / 6) (p % 6));obtain⟨q,c⟩ : ∃ q,p / 6=q+2:=⟨p / 6-2,by omega⟩;rw[c]; rfl
end Rt
namespace Rt
def hasB(K:Nat->Int)(o a:Int):Bool:=pI o&&decide (0<a)&&decide (a<=K (o-1).toNat)
theorem GY{a b:Nat->Int}:xQ a b=true <-> ∀ i,i<6->rv .u64 (fun p=>tZ (a p) (b p)) i=rv .u64 b i:=by
 unfold xQ;rw[List.all_eq_true];have e : ∀ i,rv .u64 (fun p=>tZ (a p) (b p)) i=rv .u64 b i<->a i<=b i:=fun i=>by
  show Value.int .u64 (tZ (a i) (b i))=aF (b i)<->_;simp only[Value.int.injEq,true_and]; unfold tZ; split <;> omega
 constructor
 ·intro h i c; have:=h i (N_.2 c); rw[e]; exact h_ this
 intro h i c; have:=h i (N_.1 c); rw[e]at this; exact f_ this
def Kr(K:Nat->Int):Prop := ∀ i,i<6->kF (K i)
theorem Kr.kd{K:Nat->Int}(h:Kr K):Fx.Kd (List.replicate 6 (some .u64)) (rv .u64 K):=Fx.QZ fun i a=>Fx.um (h i a)
theorem Kr.mx{K L:Nat->Int}(h:Kr K)(b:Kr L):Kr (fun p=>tZ (K p) (L p)):=fun i a=>by
 have c:=h i a; have d:=b i a; show kF (tZ (K i) (L i)); unfold tZ; split <;> assumption
end Rt
theorem XM{w:World}{g:Nat}{T:TypeId}{x:Nat->Value}(D K:Nat->Int)(h:aS w g (2*6) x T)(e:x=vx (V2 D K)) :
 Calls Tryz.prog 119 #[bL g 2 2] w fun e w'=>e = .returned (.agg (aC 6 (rv .u64 fun p=>tZ (D p) (K p))))/\Below w.heap.size w w' :=
 aci (some ⟨g,0,none⟩) 2 2 (V2 D K) w (by omega) (fun _=>⟨z_ _,g,0,rfl,(h.to e).aI⟩)
theorem Ur(n:Int)(w:World) :
 Calls Tryz.prog 118 #[au n] w fun e w'=>e = .returned (.bool (pI n))/\w'=w:=by
 refine Kent Tryz.func118 9 ?_;refine ay<|av aG<|aD<|ay<|av (au n) ?_;by_cases a:1<=n
 ·refine Lv aH (ko a)<|av aH<|av (au n) ?_;by_cases b:n<=6
  ·refine Lv aH (nD b)<|av aH<|av aH<|aD<|Wr<|aK aH ?_;exact⟨gZ (by simp only[pI]; first|(symm; simp; omega)|(symm; simp; done)),rfl⟩
  refine Lv aG (nT b)<|av aG<|av aG<|aD<|Wr<|aK aG ?_;exact⟨gZ (by simp only[pI]; first|(symm; simp; omega)|(symm; simp; done)),rfl⟩
 refine Lv aG (jU a)<|av aG<|dB<|dB<|av aG<|av aG<|aD<|Wr<|aK aG ?_;exact⟨gZ (by simp only[pI]; first|(symm; simp; omega)|(symm; simp; done)),rfl⟩
theorem Zz(K:Nat->Int)(o q:Int)(w:World) :
 Calls Tryz.prog 91 #[.agg (aC 6 (rv .u64 K)),au o,aF q] w fun e w'=>e = .returned (.bool (hasB K o q))/\Below w.heap.size w w':=by
 refine Kent Tryz.func91 21 ?_;refine ay<|rU fun k s j i l t => ?_;have f:=bH l.old (Below.refl w.heap.size w);have p:=iE j;have r:=i.lt;refine av aG<|aD<|ay<|av (au o) ?_;by_cases b:(pI o)=true
 ·obtain⟨a,n,m⟩:=fA b;refine lU (Ur o _) aH (by rw[b])<|av aH<|av (aF q) ?_;by_cases c:0<q
  ·refine Lv aH (mK c)<|av aH<|av aH<|av (au o)<|Lv (au a) gu<|Lv (pf k a) (jE 6 1)<|Lv (aF (K a)) (aN i.aI a)<|av (aF q) ?_;by_cases g:q<=(K a)
   ·refine Lv aH (ko g)<|av aH<|av aH<|aD<|Wr<|aK aH ?_;have d:decide (0<q)=true:=f_ c;have h:decide (q<=K (o-1).toNat)=true:=f_ (by rw[show(o-1).toNat=a by omega]; exact g);exact⟨gZ (Eq.symm (by unfold hasB; rw[b,d,h]; try rfl)),f⟩
   refine Lv aG (jU g)<|av aG<|av aG<|aD<|Wr<|aK aG ?_;have d:decide (0<q)=true:=f_ c;have h:decide (q<=K (o-1).toNat)=false:=g_ (by rw[show(o-1).toNat=a by omega]; exact g);exact⟨gZ (Eq.symm (by unfold hasB; rw[b,d,h]; try rfl)),f⟩
  refine Lv aG (mM c)<|av aG<|av aG<|dB<|dB<|dB<|dB<|dB<|dB<|av aG<|av aG<|aD<|Wr<|aK aG ?_;have d:decide (0<q)=false:=g_ c;exact⟨gZ (Eq.symm (by unfold hasB; rw[b,d]; try rfl)),f⟩
 rw[S_]at b;refine lU (Ur o _) aG (by rw[b])<|av aG<|dB<|dB<|av aG<|av aG<|dB<|dB<|dB<|dB<|dB<|dB<|av aG<|av aG<|aD<|Wr<|aK aG ?_;exact⟨gZ (Eq.symm (by unfold hasB; rw[b]; try rfl)),f⟩
theorem Ut(D K:Nat->Int)(w:World)(o:Kr D)(b:Kr K) :
 Calls Tryz.prog 92 #[.agg (aC 6 (rv .u64 D)),.agg (aC 6 (rv .u64 K))] w fun e w'=>e = .returned (.bool (xQ D K))/\Below w.heap.size w w':=by
 refine Kent Tryz.func92 11 ?_;refine ay<|rU fun M w1 E d I z1 => ?_;have f:=bH I.old (Below.refl w.heap.size w);have Q:=iE E;have W:=d.lt;refine rU fun N w2 l r J z2 => ?_;have⟨H,B⟩:=fC J.old d f;have R:=jI l f.size;have T:=cO l d.lt;have Z:=r.lt;refine av aG<|aD<|Ws ?_;refine jS [0,1,4,2,3,5,6] [4,4,2,2,1,0,0] [(2,0,[0]),(3,0,[2,0]),(2,1,[1]),(3,1,[2,1]),(3,2,[2]),(5,2,[3,2]),(6,2,[2]),(5,3,[3]),(6,3,[3])] fun qI F P => ?_;have⟨t,c,g⟩:=ku F H r B;refine Rs (.agg (aC 6 (rv .u64 D))) (gI t.aI 0) ?_;refine Rs (.agg (aC 6 (rv .u64 K))) (gI c.aI 0) ?_;refine Rd (v := .agg (aC 6 (rv .u64 K))) (by rfl) (by rfl) (uq _) (fun A G=>eX (x:=rv .u64 K) (y:=rv .u64 K) rfl rfl (by kernel_rfl) (by kernel_rfl) (c.aI.below G (by have:=c.lt; omega)) (i:=0) (by omega) (by omega) (fun j _=>by rw[E_])) ?_;refine Ct<|yN (vs := [(0,.agg (aC 6 (rv .u64 D))),(1,.agg (aC 6 (rv .u64 K)))]) (s:=6) (zc:=rv .u64 (fun _=>0)) (y:=bI (bI (fun j=>(rv .u64 (fun _=>0)) (j % 6)) (0*6) 6 (rv .u64 D)) (1*6) 6 (rv .u64 K)) (by rfl) rfl rfl Tryz.underlying191 (by kernel_rfl) (by rfl) (by rfl) (by kernel_rfl) (by rw[bF (off:=0*6) (s:=6) (y:=rv .u64 D) rfl (bJ _ _) (by rfl)]; rw[bF (off:=1*6) (s:=6) (y:=rv .u64 K) rfl (bJ _ _) (by rfl)]; rfl) rfl fun O w3 m u z z3 => ?_;have C:=bH z.old g;have S:=jI m g.size;have⟨U,V⟩:=xM m t.lt c.lt;have aa:=u.lt;refine Ln ⟨z.old,?_⟩;refine Ct<|eB (XM D K u (agf D K)) _ rfl ?_;intro w4 q;have L:=Sb q;have k:=bH q C;refine Ln ⟨L.old,?_⟩;by_cases a : ∀ i,i<6->(rv .u64 (fun p=>tZ (D p) (K p))) i=(rv .u64 K) i
 ·refine Rp aH (fun A=>Fx.xG (n:=6) (ks:=List.replicate 6 (some .u64)) (X:=rv .u64 (fun p=>tZ (D p) (K p))) (Y:=rv .u64 K) 12 true rfl rfl rfl (Fx.Wn a) (o.mx b).kd b.kd rfl (by kernel_rfl) (by kernel_rfl) (by kernel_rfl) (by kernel_rfl) (by kernel_rfl))<|bf aH<|bR<|Wr<|aK aH ?_;exact⟨gZ (Eq.symm (GY.2 a)),k⟩
 refine Rp aG (fun A=>Fx.xG (n:=6) (ks:=List.replicate 6 (some .u64)) (X:=rv .u64 (fun p=>tZ (D p) (K p))) (Y:=rv .u64 K) 12 false rfl rfl rfl (Fx.nob a) (o.mx b).kd b.kd rfl (by kernel_rfl) (by kernel_rfl) (by kernel_rfl) (by kernel_rfl) (by kernel_rfl))<|bf aG<|bR<|Wr<|aK aG ?_;exact⟨gZ (Eq.symm (Bool.eq_false_iff.2 (fun h=>a (GY.1 h)))),k⟩
theorem Rt.KD{K:Nat->Int}{v:EvM}(h:bO v=true):lX K v=hasB K v.o v.seq:=by
 have a:=iL h; have b:=(DI h).1;unfold lX hasB; rw[h,a,show decide (0<v.seq)=true from f_ (by omega)]; rfl
theorem Uu(K:Nat->Int)(v:EvM)(w:World)(k:gy v) :
 Calls Tryz.prog 63 #[.agg (aC 6 (rv .u64 K)),.agg (aC 14 (bS v))] w fun e w'=>e = .returned (.bool (lX K v))/\Below w.heap.size w w':=by
 refine Kent Tryz.func63 15 ?_;refine ay<|rU fun B H q c z O => ?_;have f:=bH z.old (Below.refl w.heap.size w);have C:=iE q;have F:=c.lt;refine rU fun j I i d A P => ?_;have⟨x,g⟩:=fC A.old c f;have D:=jI i f.size;have E:=cO i c.lt;have G:=d.lt;refine av aG<|aD<|ay<|Lv (.agg (aC 14 (bS v))) (gI d.aI 0) ?_;by_cases a:(bO v)=true
 ·refine eB (GX v _ k) aH (by rw[a]) ?_;intro J r;have⟨y,l,h⟩:=ku r x d g;refine av aH<|Lv (.agg (aC 6 (rv .u64 K))) (gI y.aI 0)<|av (pt j)<|Lv (au v.o) (aN l.aI 0)<|av (pf j 1)<|Lv (aF v.seq) (aN l.aI 1) ?_;by_cases b:(hasB K v.o v.seq)=true
  ·refine eB (Zz K v.o v.seq _) aH (by rw[b]) ?_;intro L s;have m:=bH s h;refine av aH<|av aH<|aD<|Wr<|aK aH ?_;exact⟨gZ (Eq.symm ((KD a).trans b)),m⟩
  rw[S_]at b;refine eB (Zz K v.o v.seq _) aG (by rw[b]) ?_;intro M t;have n:=bH t h;refine av aG<|av aG<|aD<|Wr<|aK aG ?_;exact⟨gZ (Eq.symm ((KD a).trans b)),n⟩
 rw[S_]at a;refine eB (GX v _ k) aG (by rw[a]) ?_;intro N u;have p:=bH u g;refine av aG<|dB<|dB<|dB<|dB<|dB<|dB<|av aG<|av aG<|aD<|Wr<|aK aG ?_;exact⟨gZ (Eq.symm (by unfold lX; rw[a]; rfl)),p⟩
theorem Om(K:Nat->Int)(v:EvM)(w:World)(i:gy v)(q:Kr K) :
 Calls Tryz.prog 64 #[.agg (aC 6 (rv .u64 K)),.agg (aC 14 (bS v))] w fun e w'=>e = .returned (.bool (dI K v))/\Below w.heap.size w w':=by
 refine Kent Tryz.func64 24 ?_;refine ay<|rU fun z Q y l F W => ?_;have m:=bH F.old (Below.refl w.heap.size w);have L:=iE y;have O:=l.lt;refine rU fun k R p c G X => ?_;have⟨r,h⟩:=fC G.old l m;have M:=jI p m.size;have N:=cO p l.lt;have P:=c.lt;refine av aG<|aD<|Ws ?_;refine mO<|Qv (.agg (aC 14 (bS v))) (fun d b=>gI (c.cb b) 0) ?_;by_cases f:(bO v)=true
 ·obtain⟨a,I,H⟩:=fA (iL f);have J:=DI f;refine yO (fun _ _=>GX v _ i) aH (by rw[f])<|aT aH<|aT (pt k)<|Qv (au v.o) (fun d b=>aN (c.cb b) 0)<|Qv (au a) (fun d b=>gu)<|Qv (pf z a) (fun d b=>jE 6 1)<|Qv (aF (K a)) (fun d b=>aN (r.cb b) a)<|aT (pf k 1)<|Qv (aF v.seq) (fun d b=>aN (c.cb b) 1)<|Qv (aF (v.seq-1)) (fun d b=>gu) ?_;by_cases n:(K a)=(v.seq-1)
  ·refine Qv aH (fun d b=>eZ n)<|aT aH<|aT aH<|aT (pf k 2)<|Qv (.agg (aC 6 (rv .u64 v.deps))) (fun d b=>gI (c.cb b) 2 (fun j E=>lW _ (by omega) E))<|Qv (.agg (aC 6 (rv .u64 K))) (fun d b=>gI (r.cb b) 0) ?_;by_cases g:(xQ v.deps K)=true
   ·refine yO (fun _ _=>Ut v.deps K _ i.deps q) aH (by rw[g])<|aT aH<|aT aH<|Qn ?_;intro S A;have s:=bH A h;refine sN<|Wr<|aK aH ?_;have c:decide (v.seq=K (v.o-1).toNat+1)=true:=f_ (by rw[show(v.o-1).toNat=a by omega]; omega);exact⟨gZ (Eq.symm (by unfold dI; rw[f,c,g]; try rfl)),s⟩
   rw[S_]at g;refine yO (fun _ _=>Ut v.deps K _ i.deps q) aG (by rw[g])<|aT aG<|aT aG<|Qn ?_;intro T B;have t:=bH B h;refine sN<|Wr<|aK aG ?_;have c:decide (v.seq=K (v.o-1).toNat+1)=true:=f_ (by rw[show(v.o-1).toNat=a by omega]; omega);exact⟨gZ (Eq.symm (by unfold dI; rw[f,c,g]; try rfl)),t⟩
  refine Qv aG (fun d b=>fM n)<|aT aG<|aT aG<|aQ<|aQ<|aQ<|aQ<|aT aG<|aT aG<|Qn ?_;intro U C;have u:=bH C h;refine sN<|Wr<|aK aG ?_;have c:decide (v.seq=K (v.o-1).toNat+1)=false:=g_ (by rw[show(v.o-1).toNat=a by omega]; omega);exact⟨gZ (Eq.symm (by unfold dI; rw[f,c]; try rfl)),u⟩
 rw[S_]at f;refine yO (fun _ _=>GX v _ i) aG (by rw[f])<|aT aG<|aQ<|aQ<|aQ<|aQ<|aQ<|aQ<|aQ<|aQ<|aQ<|aT aG<|aT aG<|aQ<|aQ<|aQ<|aQ<|aT aG<|aT aG<|Qn ?_;intro V D;have x:=bH D h;refine sN<|Wr<|aK aG ?_;exact⟨gZ (Eq.symm (by unfold dI; rw[f]; try rfl)),x⟩
set_option maxRecDepth 20000
namespace Rt
def jA(m:dP)(v:EvM):Int:=if m.T.has v.node=false then 9 else if 140737488355328<m.R (m.idx v.node) (aP v)+v.aU then 6 else 0
def BO(m:dP)(k:Int)(r:Nat->Int):dP := { m with R:=aM m.R (m.idx k) r }
def uf(m:dP)(v:EvM):dP:=BO m v.node (upd (m.R (m.idx v.node)) (aP v) (m.R (m.idx v.node) (aP v)+v.aU))
def rP(m:dP)(v:EvM):(Nat->Int) × Int:=dn (m.R (m.idx v.node)) v.o v.dst v.aU
def jZ(m:dP)(v:EvM):Int:=if m.T.has v.node=false then 9 else if m.inn (v.dst-1).toNat=false then 10 else(rP m v).2
def CK(m:dP)(v:EvM):dP:=BO m v.node (rP m v).1
def GZ(m:dP)(v:EvM):dP := { m with inn:=aJ m.inn (v.dst-1).toNat true }
def BP(m:dP)(v:EvM):dP := { m with left:=aJ m.left (aP v) true }
theorem D6{R:Nat->Nat->Int}{j:Nat}{r:Nat->Int} : ∀ n x w b,Mp w b n x (aM (wG R) j (.agg (aC 54 (rv .i64 r))))->Mp w b n x (wG (aM R j r)):=fun n x w b h=>h.uD fun i _=>⟨rfl,by unfold wG aM; split <;> rfl⟩
end Rt
theorem F8:Fx.vS Tryz.prog 113:=⟨by kernel_rfl,by kernel_rfl,by kernel_rfl⟩
theorem Uv(m:dP)(lp B:Nat)(w:World)(h:lD w B lp m)(v:EvM)(Y:bO v=true)(b:Nat)(D:b<6)(X:v.dst=(b:Int)+1)(i:Nat)(f:Nat)(l:aS w i 1 (fun _=>(pt lp)) 37)(k:aS w f 14 (bS v) 32) :
 Calls Tryz.prog 183 #[(pt i),(pt f)] w fun e w'=>e = .returned (.tuple #[])/\lD w' B lp (GZ m v)/\jO (Fa m lp) w w':=by
 have x:=h.c;have C:=h.t;have z:=h.p;have A:=h.r;have y:=h.g;have u:=h.a;have d:=h.ne;have lC:=h.c.lt;have lT:=h.t.lt;have lP:=h.p.lt;have lR:=h.r.lt;have lG:=h.g.lt;have lA:=h.a.lt;have Zc:=l.lt;have ZA:=k.lt;have E:(v.dst-1).toNat=b:=by omega
 refine Kent Tryz.func183 9 ?_;refine jS [1,0,4,5,2,3,6,7] [4,0,4,0,0,0,0,3] [(7,0,[0]),(7,2,[2])] fun W j Z => ?_;have U:Stp w.heap.size w W:=Sb j;have⟨n,M,N,O,P,Q,R,S⟩:=lu j x C z A y u l k;have q:=(uo (Fa m lp) w).then U (.inr (uo (Fa m lp) w).size);refine bf (pf f 10)<|Rs (pt lp) (aN R.aI 0) ?_;refine bf (pt lp)<|bf (pt lp)<|Rs (au v.dst) (aN S.aI 10) ?_;refine Rp (au b) (fun _=>gu)<|Rp (pf lp b) (fun _=>jE 6 1)<|gF<|jm n b aH fun V T o z1 => ?_;have G:aS V lp 29 (vg { m with inn:=aJ m.inn b true }) 106:=T.to (Uh D _);have F:=gY o n.ty;have⟨H,I,J,K,L⟩:=qX F M N O P Q;have s:=q.then o (.inl (.inl rfl));refine Ln (Rn (⟨.tuple #[],iN Tryz.results183,?_⟩));unfold GZ; rw[E];exact⟨rfl,{ c:=G,t:=H,p:=I,r:=J,g:=K,a:=L,ne:=⟨d.mp,d.mr,d.mg,d.ma,d.pr,d.pg,d.pa,d.rg,d.ra,d.ga⟩,lB:=h.lB,pB:=h.pB,rB:=h.rB,gB:=h.gB,aB:=h.aB },s⟩
theorem Qb(m:dP)(lp B:Nat)(w:World)(h:lD w B lp m)(v:EvM)(H:bO v=true)(f:Nat)(d:Nat)(l:aS w f 1 (fun _=>(pt lp)) 37)(k:aS w d 14 (bS v) 32) :
 Calls Tryz.prog 184 #[(pt f),(pt d)] w fun e w'=>e = .returned (.tuple #[])/\lD w' B lp (BP m v)/\jO (Fa m lp) w w':=by
 have y:=h.c;have D:=h.t;have A:=h.p;have C:=h.r;have z:=h.g;have x:=h.a;have b:=h.ne;have lC:=h.c.lt;have lT:=h.t.lt;have lP:=h.p.lt;have lR:=h.r.lt;have lG:=h.g.lt;have lA:=h.a.lt;have Zc:=l.lt;have ZA:=k.lt;obtain⟨a,E,Z⟩ : ∃ a:Nat,a<6/\v.o=(a:Int)+1:=fA (iL H);have G:aP v=a:=by unfold aP; omega
 refine Kent Tryz.func184 9 ?_;refine jS [1,0,4,5,2,3,6,7] [4,0,4,0,0,0,0,3] [(7,0,[0]),(7,2,[2])] fun Y j aa => ?_;have W:Stp w.heap.size w Y:=Sb j;have⟨n,O,P,Q,R,S,T,U⟩:=lu j y D A C z x l k;have s:=(uo (Fa m lp) w).then W (.inr (uo (Fa m lp) w).size);refine bf (pt d)<|Rs (pt lp) (aN T.aI 0) ?_;refine bf (pt lp)<|bf (pf lp 6)<|Rs (au v.o) (aN U.aI 0) ?_;refine Rp (au a) (fun _=>gu)<|Rp (pf lp (a+6)) (fun _=>jE 6 1)<|gF<|jm n (a+6) aH fun X V q z1 => ?_;have I:aS X lp 29 (vg { m with left:=aJ m.left a true }) 106:=V.to (Ui (i:=a) E (by omega) _);have F:=gY q n.ty;have⟨J,K,L,M,N⟩:=qX F O P Q R S;have u:=s.then q (.inl (.inl rfl));refine Ln (Rn (⟨.tuple #[],iN Tryz.results184,?_⟩));unfold BP; rw[G];exact⟨rfl,{ c:=I,t:=J,p:=K,r:=L,g:=M,a:=N,ne:=⟨b.mp,b.mr,b.mg,b.ma,b.pr,b.pg,b.pa,b.rg,b.ra,b.ga⟩,lB:=h.lB,pB:=h.pB,rB:=h.rB,gB:=h.gB,aB:=h.aB },u⟩
theorem Qc(m:dP)(lp B:Nat)(w:World)(h:lD w B lp m)(v:EvM)(hv:bO v=true)(P:m.T.has v.node=true)(r:Nat->Int)(k:Nat)(j:Nat)(f:Nat)(hr:aS w k 54 (rv .i64 (r)) 59)(s:aS w j 1 (fun _=>(pt lp)) 37)(o:aS w f 14 (bS v) 32) :
 Calls Tryz.prog 173 #[(pt k),(pt j),(pt f)] w fun e w'=>e = .returned (.tuple #[])/\lD w' B lp (BO m v.node r)/\jO (Fa m lp) w w':=by
 have J:=h.c;have O:=h.t;have M:=h.p;have N:=h.r;have K:=h.g;have I:=h.a;have b:=h.ne;have lC:=h.c.lt;have lT:=h.t.lt;have lP:=h.p.lt;have lR:=h.r.lt;have lG:=h.g.lt;have lA:=h.a.lt;have lgr:=hr.lt;have Zc:=s.lt;have ZA:=o.lt;obtain⟨u,q,i⟩:=gG P;have H:m.idx v.node=u:=mH h.t.inv.inj q i;refine Kent Tryz.func173 10 ?_;refine jS [4,0,1,2,3,5,6,7] [4,0,0,4,0,4,4,3] [(7,0,[0]),(7,3,[3]),(7,5,[5]),(7,6,[6])] fun qI l iF => ?_;have s1:Stp w.heap.size w qI:=Sb l;have⟨y,Z,m3,z,m5,m6,A,C,D⟩:=Bn l J O M N K I hr s o;have F:=(uo (Fa m lp) w).then s1 (.inr (uo (Fa m lp) w).size);refine bf (pf f 9)<|Rs (pt lp) (aN C.aI 0) ?_;refine bf (pt lp)<|bf (pf lp 20)<|Rs (.map (some m.rb)) (aN y.aI 20) ?_;refine Rs (aF v.node) (aN D.aI 9) ?_;refine Rs (.agg (aC 54 (rv .i64 (r)))) (gI A.aI 0) ?_;refine gF<|Fx.L.aas (by rfl) rfl rfl rfl rfl rfl z Tryz.underlying101 Tryz.underlying28 q i fun w1 Q E z1 => ?_;have d:=z.Bd E;have S:=y.dQ d;have U:=Z.dQ d (b.mr);have V:=m3.dQ d (b.pr);have W:=m5.dQ d (Ne.symm b.rg);have X:=m6.dQ d (Ne.symm b.ra);have m16:=A.dQ d;have m17:=C.dQ d;have m18:=D.dQ d;have G:=F.then E (.inl (.inr (.inr (.inr (.inl rfl)))));have Y:Mp w1 m.rb m.T.n m.T.x (wG (aM m.R u (r))):=D6 _ _ _ _ Q;refine Ln (Rn (⟨.tuple #[],iN Tryz.results173,?_⟩));unfold BO; rw[H];exact⟨rfl,{ c:=S,t:=U,p:=V,r:=Y,g:=W,a:=X,ne:=⟨b.mp,b.mr,b.mg,b.ma,b.pr,b.pg,b.pa,b.rg,b.ra,b.ga⟩,lB:=h.lB,pB:=h.pB,rB:=h.rB,gB:=h.gB,aB:=h.aB },G⟩
theorem Uw(m:dP)(lp B:Nat)(w:World)(h:lD w B lp m)(v:EvM)(hv:bO v=true)(P:m.T.has v.node=true)(r:Nat->Int)(k:Nat)(j:Nat)(f:Nat)(hr:aS w k 54 (rv .i64 (r)) 59)(s:aS w j 1 (fun _=>(pt lp)) 37)(o:aS w f 14 (bS v) 32) :
 Calls Tryz.prog 182 #[(pt k),(pt j),(pt f)] w fun e w'=>e = .returned (.tuple #[])/\lD w' B lp (BO m v.node r)/\jO (Fa m lp) w w':=by
 have J:=h.c;have O:=h.t;have M:=h.p;have N:=h.r;have K:=h.g;have I:=h.a;have b:=h.ne;have lC:=h.c.lt;have lT:=h.t.lt;have lP:=h.p.lt;have lR:=h.r.lt;have lG:=h.g.lt;have lA:=h.a.lt;have lgr:=hr.lt;have Zc:=s.lt;have ZA:=o.lt;obtain⟨u,q,i⟩:=gG P;have H:m.idx v.node=u:=mH h.t.inv.inj q i;refine Kent Tryz.func182 10 ?_;refine jS [4,0,1,2,3,5,6,7] [4,0,0,4,0,4,4,3] [(7,0,[0]),(7,3,[3]),(7,5,[5]),(7,6,[6])] fun qI l iF => ?_;have s1:Stp w.heap.size w qI:=Sb l;have⟨y,Z,m3,z,m5,m6,A,C,D⟩:=Bn l J O M N K I hr s o;have F:=(uo (Fa m lp) w).then s1 (.inr (uo (Fa m lp) w).size);refine bf (pf f 9)<|Rs (pt lp) (aN C.aI 0) ?_;refine bf (pt lp)<|bf (pf lp 20)<|Rs (.map (some m.rb)) (aN y.aI 20) ?_;refine Rs (aF v.node) (aN D.aI 9) ?_;refine Rs (.agg (aC 54 (rv .i64 (r)))) (gI A.aI 0) ?_;refine gF<|Fx.L.aas (by rfl) rfl rfl rfl rfl rfl z Tryz.underlying101 Tryz.underlying28 q i fun w1 Q E z1 => ?_;have d:=z.Bd E;have S:=y.dQ d;have U:=Z.dQ d (b.mr);have V:=m3.dQ d (b.pr);have W:=m5.dQ d (Ne.symm b.rg);have X:=m6.dQ d (Ne.symm b.ra);have m16:=A.dQ d;have m17:=C.dQ d;have m18:=D.dQ d;have G:=F.then E (.inl (.inr (.inr (.inr (.inl rfl)))));have Y:Mp w1 m.rb m.T.n m.T.x (wG (aM m.R u (r))):=D6 _ _ _ _ Q;refine Ln (Rn (⟨.tuple #[],iN Tryz.results182,?_⟩));unfold BO; rw[H];exact⟨rfl,{ c:=S,t:=U,p:=V,r:=Y,g:=W,a:=X,ne:=⟨b.mp,b.mr,b.mg,b.ma,b.pr,b.pg,b.pa,b.rg,b.ra,b.ga⟩,lB:=h.lB,pB:=h.pB,rB:=h.rB,gB:=h.gB,aB:=h.aB },G⟩
set_option maxRecDepth 20000
namespace Rt
theorem Oo{v:EvM}(h:bO v=true)(c:v.kind=5) : ∃ b:Nat,b<6/\v.dst=(b:Int)+1:=by
 unfold bO at h;simp only[R_]at h;have a:=h.2;unfold dJ at a;rw[b_ (by omega),b_ (by omega),b_ (by omega),b_ (by omega),d_ c]at a;unfold lK at a;simp only[R_]at a;exact fA a.2.1
end Rt
theorem acj(x:Nat->Int)(i j n:Int)(w:World)(hi:1<=i/\i<=6)(a:1<=j/\j<=6) :
 Calls Tryz.prog 181 #[.agg (aC 54 (rv .i64 x)),au i,au j,au n] w fun e w'=>e = .returned (.tuple #[.agg (aC 54 (rv .i64 (dn x i j n).1)),au (dn x i j n).2])/\Below w.heap.size w w' :=
 SY x i j n w (by omega) (by omega)
theorem acn(x:Nat->Int)(i n:Int)(w:World)(hi:1<=i/\i<=6) :
 Calls Tryz.prog 176 #[.agg (aC 54 (rv .i64 x)),au i,au n] w fun e w'=>e = .returned (.tuple #[.agg (aC 54 (rv .i64 (bC x i n).1)),au (bC x i n).2])/\Below w.heap.size w w' :=
 SQ x i n w (by omega)
theorem aco(x:Nat->Int)(i n:Int)(w:World)(hi:1<=i/\i<=6) :
 Calls Tryz.prog 179 #[.agg (aC 54 (rv .i64 x)),au i,au n] w fun e w'=>e = .returned (.tuple #[.agg (aC 54 (rv .i64 (bG x i n).1)),au (bG x i n).2])/\Below w.heap.size w w' :=
 SX x i n w (by omega)
theorem Ux(m:dP)(lp B:Nat)(w:World)(h:lD w B lp m)(v:EvM)(N:bO v=true)(hkd:v.kind=2)(hRb : ∀ i,i<m.T.n -> ∀ p,p<54->0<=m.R i p/\m.R i p<=1125899906842624) :
 Calls Tryz.prog 163 #[(pt lp),.agg (aC 14 (bS v))] w fun e w'=>QI w B lp m (uf m v) (jA m v) e w':=by
 have hC:=h.c;have hT:=h.t;have hP:=h.p;have hR:=h.r;have hG:=h.g;have hA:=h.a;have hN:=h.ne;have lC:=h.c.lt;have lT:=h.t.lt;have lP:=h.p.lt;have lR:=h.r.lt;have lG:=h.g.lt;have lA:=h.a.lt;obtain⟨a,ha,ho⟩ : ∃ a:Nat,a<6/\v.o=(a:Int)+1:=fA (iL N);have M:aP v=a:=by unfold aP; omega
 refine Kent Tryz.func163 39 ?_;refine ay<|zH (pt lp) fun l w1 aa O s1 z1 => ?_;have⟨m2,m4,m5,m6,m7,W⟩:=uy s1.old hC hP hR hG hA (Below.refl w.heap.size w);have uG:=iE aa;have⟨nI,zB,wY,AZ,zx⟩:=Df aa hC.lt hP.lt hR.lt hG.lt hA.lt;have wO:=O.lt;refine rU fun f w2 ab m8 s2 z2 => ?_;have⟨m9,m11,m12,m13,m14,m15,b2⟩:=jo s2.old m2 m4 m5 m6 m7 O W;have sG:=jI ab W.size;have⟨Oq,Fb,Fe,zZ,Fg,Br⟩:=Ii ab m2.lt m4.lt m5.lt m6.lt m7.lt O.lt;have Bg:=m8.lt;refine av (.nilFunc)<|av (au 0)<|aD<|Ws ?_;refine jS [4,0,1,2,3,5,6,7,8,9,10,11,12] [1,0,0,1,0,1,1,0,0,0,2,3,0] [(11,0,[0]),(11,3,[3]),(11,5,[5]),(11,6,[6]),(11,10,[10]),(12,10,[10]),(12,11,[11])] fun qI dY iF => ?_;have⟨E,m18,F,m20,m21,s,u,y⟩:=lu dY m9 m11 m12 m13 m14 m15 m8 b2;refine bf (pf f 9)<|Rd (v:=(pt lp)) (by rfl) (by rfl) (uq _) (fun G j=>bD (x:=fun _=>(pt lp)) rfl rfl (by kernel_rfl) (s.aI.below j (by have:=s.lt; omega)) (i:=0) (by omega) (by omega) rfl) ?_;refine bf (pt lp)<|bf (pf lp 20)<|Rd (v := .map (some m.rb)) (by rfl) (by rfl) (uq _) (fun G j=>bD (x:=vg m) rfl rfl (by kernel_rfl) (E.aI.below j (by have:=E.lt; omega)) (i:=20) (by omega) (by omega) rfl) ?_;refine Rd (v:=aF v.node) (by rfl) (by rfl) (uq _) (fun G j=>bD (x:=bS v) rfl rfl (by kernel_rfl) (u.aI.below j (by have:=u.lt; omega)) (i:=9) (by omega) (by omega) rfl) ?_
 rcases Fx.qZ m.T.x m.T.n v.node with ⟨b,D,J⟩|jk
 ·refine Rd (v := .tuple #[.agg (aC 54 (rv .i64 (m.R b))),.bool true]) (by rfl) (by rfl) (uq _) (fun G j=>Fx.Em (z := .agg (aC 54 (rv .i64 (fun _=>0)))) rfl rfl rfl (F.up j) Tryz.underlying101 Tryz.underlying28 (by kernel_rfl) D J rfl) ?_;refine bf (.tuple #[.agg (aC 54 (rv .i64 (m.R b))),.bool true])<|bf (.agg (aC 54 (rv .i64 (m.R b))))<|bf aH<|Ct<|xg 54 (rv .i64 (fun _=>0)) fun d w3 ac P s4 z3 => ?_;have⟨mE,m32,X⟩:=ku s4.old s u y;have Eo:=jI ac y.size;have⟨MQ,MR,Uy,Uz,UA,acp,acr⟩:=LU ac E.lt m18.lt F.lt m20.lt m21.lt s.lt u.lt;have Ma:=P.lt;refine Ln ⟨s4.old,?_⟩;refine gF<|fH P 0 fun w4 qh s5 z4 => ?_;have oN:aS w4 d 54 (rv .i64 (m.R b)) 59:=aW qh;have gK:=gY s5 P.ty;have⟨nk,mV⟩:=Dc gK mE m32;have b5:=s5.below X X.size (by omega);refine Ln<|bf aH<|bR<|Ws<|ay<|av aH<|av aG<|aD<|aL<|Wk<|sN<|Ws<|Ws ?_;have K:m.idx v.node=b:=mH h.t.inv.inj D J;have q:m.T.has v.node=true:=jF D J;have q1:=hRb b D a (by omega);have q2:=kR N (.inl hkd);refine jS [0,3,6,9,1,2,4,5,7,8,10,11] [0,4,0,0,0,4,0,4,0,0,0,3] [(11,1,[1]),(11,5,[5]),(11,7,[7])] fun Cu fV nH => ?_;have⟨su,Q,S,Y⟩:=oZ fV nk mV oN b5;refine bf (pt f)<|bf (pt d)<|bf (pf f 11)<|bf (pt d)<|Rs (au v.o) (aN Q.aI 0) ?_;refine Rp (au a) (fun _=>gu)<|Rp (pf d a) (fun _=>jE 6 1)<|Rs (au ((m.R b) a)) (aN S.aI a) ?_;refine Rs (au v.aU) (aN Q.aI 11) ?_;refine Rp (au (((m.R b) a)+v.aU)) (fun _=>eY)<|Rp (pf d a) (fun _=>jE 6 1)<|gF<|jm S a (au (((m.R b) a)+v.aU)) fun w5 uH s7 z5 => ?_;have U:aS w5 d 54 (rv .i64 (upd (m.R b) a (((m.R b) a)+v.aU))) 59:=uH.to (Fx.yj _ _ _ _);have jV:=gY s7 S.ty;have⟨pG,V⟩:=Dc jV su Q;have H:=s7.below Y Y.size (by omega);refine Ln<|bR<|ay<|av (pt f)<|Lv (au v.o) (aN V.aI 0)<|Lv (au a) gu<|av (pt d)<|Lv (pf d a) (jE 6 1)<|Lv (au ((upd (m.R b) a (((m.R b) a)+v.aU)) a)) (aN U.aI a) ?_;by_cases A:140737488355328<((upd (m.R b) a (((m.R b) a)+v.aU)) a)
  ·refine Lv aH (mK A)<|aD<|aO<|ay<|av (.nilFunc)<|av (au 6)<|aD<|Wr<|sR<|aK (.tuple #[.nilFunc,au 6]) ?_;have k:jA m v=6:=(by unfold jA; rw[b_ (by rw[q]; decide)]; exact d_ (by rw[K,M]; simpa [upd] using A));exact⟨⟨.nilFunc,0,#[],by rw[k],rfl,fun I=>L_ (k.symm.trans I) (by first|decide|omega|assumption)⟩,H⟩
  refine Lv aG (mM A)<|aD<|aL<|Wk<|sN<|ay<|Lv (.func (.func 173) #[] #[(pt d),(pt l),(pt f)]) (Fx.ny (us := []) (vs := [(pt d),(pt l),(pt f)]) rfl rfl rfl)<|av (.func (.func 173) #[] #[(pt d),(pt l),(pt f)])<|av (au 0)<|aD<|Wr<|aK (.tuple #[.func (.func 173) #[] #[(pt d),(pt l),(pt f)],au 0]) ?_;have em:uf m v=BO m v.node (upd (m.R b) a (m.R b a+v.aU)):=by unfold uf; rw[K,M]
  rw[em];have k:jA m v=0:=by unfold jA; rw[b_ (by rw[q]; decide)]; exact b_ (by rw[K,M]; simpa [upd] using A)
  exact⟨⟨_,173,#[(pt d),(pt l),(pt f)],by rw[k],rfl,fun _=>⟨rfl,⟨_,_,Tryz.func173,rfl,rfl⟩,fun w2 C=>(Qc m lp B w2 ((h.up H).up C) v N q _ _ _ _ (U.cZ (Sb C) (t_ U.lt)) (pG.cZ (Sb C) (t_ pG.lt)) (V.cZ (Sb C) (t_ V.lt))).mono fun _ _ L=>⟨L.1,L.2.1,L.2.2.mono fun _ q => .inl q⟩⟩⟩,H⟩
 refine Rd (v := .tuple #[.agg (aC 54 (rv .i64 (fun _=>0))),.bool false]) (by rfl) (by rfl) (uq _) (fun G j=>Fx.El (z := .agg (aC 54 (rv .i64 (fun _=>0)))) rfl rfl rfl (F.up j) Tryz.underlying101 Tryz.underlying28 (by kernel_rfl) jk) ?_;refine bf (.tuple #[.agg (aC 54 (rv .i64 (fun _=>0))),.bool false])<|bf (.agg (aC 54 (rv .i64 (fun _=>0))))<|bf aG<|Ct<|xg 54 (rv .i64 (fun _=>0)) fun g4 w6 ad nS s8 z6 => ?_;have Z:=bH s8.old y;have VZ:=jI ad y.size;have⟨amM,amN,acs,acu,acv,acw,acy⟩:=LU ad E.lt m18.lt F.lt m20.lt m21.lt s.lt u.lt;have TP:=nS.lt;refine Ln ⟨s8.old,?_⟩;refine gF<|fH nS 0 fun w7 sU s9 z7 => ?_;have sF:aS w7 g4 54 (rv .i64 (fun _=>0)) 59:=aW sU;have b9:=s9.below Z Z.size (by omega);refine Ln<|bf aG<|bR<|Ws<|ay<|av aG<|av aH<|aD<|aO<|ay<|av (.nilFunc)<|av (au 9)<|aD<|Wr<|sR<|aK (.tuple #[.nilFunc,au 9]) ?_;have k:jA m v=9:=by unfold jA; exact d_ (yw jk)
 exact⟨⟨.nilFunc,0,#[],by rw[k],rfl,fun I=>L_ (k.symm.trans I) (by first|decide|omega|assumption)⟩,b9⟩
theorem XO(m:dP)(lp B:Nat)(w:World)(h:lD w B lp m)(v:EvM)(Q:bO v=true)(hkd:v.kind=5) :
 Calls Tryz.prog 166 #[(pt lp),.agg (aC 14 (bS v))] w fun e w'=>QI w B lp m (CK m v) (jZ m v) e w':=by
 have hC:=h.c;have hT:=h.t;have hP:=h.p;have hR:=h.r;have hG:=h.g;have hA:=h.a;have hN:=h.ne;have lC:=h.c.lt;have lT:=h.t.lt;have lP:=h.p.lt;have lR:=h.r.lt;have lG:=h.g.lt;have lA:=h.a.lt;obtain⟨a,ha,ho⟩ : ∃ a:Nat,a<6/\v.o=(a:Int)+1:=fA (iL Q);have hra:aP v=a:=by unfold aP; omega
 obtain⟨b,hb,hd⟩:=Oo Q hkd;have N:(v.dst-1).toNat=b:=by omega
 refine Kent Tryz.func166 47 ?_;refine ay<|zH (pt lp) fun y w1 aa S s1 z1 => ?_;have⟨m2,m4,m5,m6,m7,V⟩:=uy s1.old hC hP hR hG hA (Below.refl w.heap.size w);have uG:=iE aa;have⟨nI,zB,wY,AZ,zx⟩:=Df aa hC.lt hP.lt hR.lt hG.lt hA.lt;have wO:=S.lt;refine rU fun f w2 ab m8 s2 z2 => ?_;have⟨m9,m11,m12,m13,m14,m15,b2⟩:=jo s2.old m2 m4 m5 m6 m7 S V;have sG:=jI ab V.size;have⟨Oq,Fb,Fe,zZ,Fg,Br⟩:=Ii ab m2.lt m4.lt m5.lt m6.lt m7.lt S.lt;have Bg:=m8.lt;refine av (.nilFunc)<|av (au 0)<|aD<|Ws ?_;refine jS [4,0,1,2,3,5,6,7,8,9,10,11,12] [1,0,0,1,0,1,1,0,0,0,2,3,0] [(11,0,[0]),(11,3,[3]),(11,5,[5]),(11,6,[6]),(11,10,[10]),(12,10,[10]),(12,11,[11])] fun qI dY iF => ?_;have⟨A,m18,I,m20,m21,C,D,F⟩:=lu dY m9 m11 m12 m13 m14 m15 m8 b2;refine bf (pf f 9)<|Rd (v:=(pt lp)) (by rfl) (by rfl) (uq _) (fun J k=>bD (x:=fun _=>(pt lp)) rfl rfl (by kernel_rfl) (C.aI.below k (by have:=C.lt; omega)) (i:=0) (by omega) (by omega) rfl) ?_;refine bf (pt lp)<|bf (pf lp 20)<|Rd (v := .map (some m.rb)) (by rfl) (by rfl) (uq _) (fun J k=>bD (x:=vg m) rfl rfl (by kernel_rfl) (A.aI.below k (by have:=A.lt; omega)) (i:=20) (by omega) (by omega) rfl) ?_;refine Rd (v:=aF v.node) (by rfl) (by rfl) (uq _) (fun J k=>bD (x:=bS v) rfl rfl (by kernel_rfl) (D.aI.below k (by have:=D.lt; omega)) (i:=9) (by omega) (by omega) rfl) ?_
 rcases Fx.qZ m.T.x m.T.n v.node with ⟨d,P,M⟩|jk
 ·refine Rd (v := .tuple #[.agg (aC 54 (rv .i64 (m.R d))),.bool true]) (by rfl) (by rfl) (uq _) (fun J k=>Fx.Em (z := .agg (aC 54 (rv .i64 (fun _=>0)))) rfl rfl rfl (I.up k) Tryz.underlying101 Tryz.underlying28 (by kernel_rfl) P M rfl) ?_;refine bf (.tuple #[.agg (aC 54 (rv .i64 (m.R d))),.bool true])<|bf (.agg (aC 54 (rv .i64 (m.R d))))<|bf aH<|Ct<|xg 54 (rv .i64 (fun _=>0)) fun l w3 ac U s4 z3 => ?_;have⟨ni,mE,m32,W⟩:=oZ s4.old A C D F;have Eo:=jI ac F.size;have⟨MQ,MR,Uy,Uz,UA,acp,acr⟩:=LU ac A.lt m18.lt I.lt m20.lt m21.lt C.lt D.lt;have Ma:=U.lt;refine Ln ⟨s4.old,?_⟩;refine gF<|fH U 0 fun w4 qh s5 z4 => ?_;have oN:aS w4 l 54 (rv .i64 (m.R d)) 59:=aW qh;have gK:=gY s5 U.ty;have⟨pW,nk,mV⟩:=FW gK ni mE m32;have b5:=s5.below W W.size (by omega);refine Ln<|bf aH<|bR<|Ws<|Wb<|ay<|av aH<|av aG<|av aG<|aD<|aL<|Ws ?_;have ex:m.idx v.node=d:=mH h.t.inv.inj P M;have s:m.T.has v.node=true:=jF P M;refine jS [1,0,4,5,2,3,6,7,8,9] [4,0,4,0,0,0,0,4,0,0] [] fun Cu fV nH => ?_;have⟨nu,su,E,vw,X⟩:=vP fV pW nk mV oN b5;refine bf (pf f 10)<|Rs (pt lp) (aN su.aI 0) ?_;refine bf (pt lp)<|bf (pt lp)<|Rs (au v.dst) (aN E.aI 10) ?_;refine Rp (au b) (fun _=>gu)<|Rp (pf lp b) (fun _=>jE 6 1) ?_;by_cases q:(m.inn b)=true
  ·refine Rs aH (aN nu.aI b ((BN (by omega)).trans (K_ Value.bool q))) ?_;refine bf aG<|bf aG<|bR<|aL<|Wk<|bQ<|sN<|ay<|Lv (.agg (aC 54 (rv .i64 (m.R d)))) (gI vw.aI 0)<|av (pt f)<|Lv (au v.o) (aN E.aI 0)<|av (pf f 10)<|Lv (au v.dst) (aN E.aI 10)<|av (pf f 11)<|Lv (au v.aU) (aN E.aI 11)<|eB (acj (m.R d) v.o v.dst v.aU _ (by omega) (by omega)) _ rfl ?_;intro w5 hb1;have⟨rz,wS,pG,Y⟩:=oZ hb1 su E vw X;refine av (.tuple #[.agg (aC 54 (rv .i64 ((dn (m.R d) v.o v.dst v.aU).1))),au ((dn (m.R d) v.o v.dst v.aU).2)])<|av (.agg (aC 54 (rv .i64 ((dn (m.R d) v.o v.dst v.aU).1))))<|av (au ((dn (m.R d) v.o v.dst v.aU).2))<|fH pG 0 fun w6 uJ s8 z5 => ?_;have nS:aS w6 l 54 (rv .i64 ((dn (m.R d) v.o v.dst v.aU).1)) 59:=aW uJ;have jV:=gY s8 pG.ty;have⟨qz,sD⟩:=Dc jV rz wS;have K:=s8.below Y Y.size (by omega);refine av (au ((dn (m.R d) v.o v.dst v.aU).2))<|aD<|Ws<|ay<|av (au ((dn (m.R d) v.o v.dst v.aU).2)) ?_;by_cases L:((dn (m.R d) v.o v.dst v.aU).2)=0
   ·refine Lv aG (kr L)<|aD<|aL<|Wk<|sN<|ay<|Lv (.func (.func 182) #[] #[(pt l),(pt y),(pt f)]) (Fx.ny (us := []) (vs := [(pt l),(pt y),(pt f)]) rfl rfl rfl)<|av (.func (.func 182) #[] #[(pt l),(pt y),(pt f)])<|av (au 0)<|aD<|Wr<|aK (.tuple #[.func (.func 182) #[] #[(pt l),(pt y),(pt f)],au 0]) ?_;have G:rP m v=dn (m.R d) v.o v.dst v.aU:=(by unfold rP; rw[ex]);show QI w B lp m (BO m v.node (rP m v).1) _ _ _;rw[G];have j:jZ m v=0:=(by unfold jZ; rw[b_ (by rw[s]; decide),b_ (by rw[N,q]; decide),G]; exact L);exact⟨⟨_,182,#[(pt l),(pt y),(pt f)],by rw[j],rfl,fun _=>⟨rfl,⟨_,_,Tryz.func182,rfl,rfl⟩,fun w2 H=>(Uw m lp B w2 ((h.up K).up H) v Q s _ _ _ _ (nS.cZ (Sb H) (t_ nS.lt)) (qz.cZ (Sb H) (t_ qz.lt)) (sD.cZ (Sb H) (t_ sD.lt))).mono fun _ _ O=>⟨O.1,O.2.1,O.2.2.mono fun _ s => .inl s⟩⟩⟩,K⟩
   refine Lv aH (nE L)<|aD<|aO<|ay<|av (au ((dn (m.R d) v.o v.dst v.aU).2))<|av (.nilFunc)<|av (au ((dn (m.R d) v.o v.dst v.aU).2))<|aD<|Wr<|sR<|aK (.tuple #[.nilFunc,au ((dn (m.R d) v.o v.dst v.aU).2)]) ?_;have G:rP m v=dn (m.R d) v.o v.dst v.aU:=(by unfold rP; rw[ex]);have j:jZ m v=(dn (m.R d) v.o v.dst v.aU).2:=(by unfold jZ; rw[b_ (by rw[s]; decide),b_ (by rw[N,q]; decide),G]);exact⟨⟨.nilFunc,0,#[],by rw[j],rfl,fun u=>L_ (j.symm.trans u) (by first|decide|omega|assumption)⟩,K⟩
  rw[S_]at q;refine Rs aG (aN nu.aI b ((BN (by omega)).trans (K_ Value.bool q))) ?_;refine bf aH<|bf aH<|bR<|aO<|ay<|av (.nilFunc)<|av (au 10)<|aD<|Wr<|bM<|sR<|aK (.tuple #[.nilFunc,au 10]) ?_;have j:jZ m v=10:=by unfold jZ; rw[b_ (by rw[s]; decide)]; exact d_ (by rw[N]; exact q)
  exact⟨⟨.nilFunc,0,#[],by rw[j],rfl,fun u=>L_ (j.symm.trans u) (by first|decide|omega|assumption)⟩,X⟩
 refine Rd (v := .tuple #[.agg (aC 54 (rv .i64 (fun _=>0))),.bool false]) (by rfl) (by rfl) (uq _) (fun J k=>Fx.El (z := .agg (aC 54 (rv .i64 (fun _=>0)))) rfl rfl rfl (I.up k) Tryz.underlying101 Tryz.underlying28 (by kernel_rfl) jk) ?_;refine bf (.tuple #[.agg (aC 54 (rv .i64 (fun _=>0))),.bool false])<|bf (.agg (aC 54 (rv .i64 (fun _=>0))))<|bf aG<|Ct<|xg 54 (rv .i64 (fun _=>0)) fun g4 w7 ad sU s9 z6 => ?_;have Z:=bH s9.old F;have VZ:=jI ad F.size;have⟨acz,amO,acA,amP,acB,acC,acD⟩:=LU ad A.lt m18.lt I.lt m20.lt m21.lt C.lt D.lt;have TP:=sU.lt;refine Ln ⟨s9.old,?_⟩;refine gF<|fH sU 0 fun w8 vY s10 z7 => ?_;have uL:aS w8 g4 54 (rv .i64 (fun _=>0)) 59:=aW vY;have b10:=s10.below Z Z.size (by omega);refine Ln<|bf aG<|bR<|Ws<|Wb<|ay<|av aG<|av aH<|av aH<|aD<|aO<|ay<|av (.nilFunc)<|av (au 9)<|aD<|Wr<|bM<|sR<|aK (.tuple #[.nilFunc,au 9]) ?_;have j:jZ m v=9:=by unfold jZ; exact d_ (yw jk)
 exact⟨⟨.nilFunc,0,#[],by rw[j],rfl,fun u=>L_ (j.symm.trans u) (by first|decide|omega|assumption)⟩,b10⟩
theorem XP(m:dP)(lp B:Nat)(w:World)(h:lD w B lp m)(v:EvM)(I:bO v=true)(b:Nat)(F:b<6)(G:v.dst=(b:Int)+1) :
 Calls Tryz.prog 167 #[(pt lp),.agg (aC 14 (bS v))] w fun e w'=>QI w B lp m (GZ m v) (0) e w':=by
 have x:=h.c;have R:=h.t;have z:=h.p;have A:=h.r;have y:=h.g;have u:=h.a;have Q:=h.ne;have T:=h.c.lt;have X:=h.t.lt;have V:=h.p.lt;have W:=h.r.lt;have U:=h.g.lt;have S:=h.a.lt;refine Kent Tryz.func167 7 ?_;refine ay<|zH (pt lp) fun d w1 q k O z1 => ?_;have⟨J,K,L,M,N,n⟩:=uy O.old x z A y u (Below.refl w.heap.size w);have Y:=iE q;have⟨aa,ab,ac,ad,ae⟩:=Df q x.lt z.lt A.lt y.lt u.lt;have al:=k.lt;refine rU fun f D s l P z2 => ?_;have⟨C,o⟩:=fC P.old k n;have Z:=jI s n.size;have⟨ak,af,ag,ah,ai,aj⟩:=Ii s J.lt K.lt L.lt M.lt N.lt k.lt;have am:=l.lt;refine av (.nilFunc)<|av (au 0)<|aD<|ay<|Lv (.func (.func 183) #[] #[(pt d),(pt f)]) (Fx.ny (us := []) (vs := [(pt d),(pt f)]) rfl rfl rfl)<|av (.func (.func 183) #[] #[(pt d),(pt f)])<|av (au 0)<|aD<|Wr<|aK (.tuple #[.func (.func 183) #[] #[(pt d),(pt f)],au 0]) ?_;have E:(0:Int)=0:=rfl;exact⟨⟨_,183,#[(pt d),(pt f)],by rw[E],rfl,fun _=>⟨rfl,⟨_,_,Tryz.func183,rfl,rfl⟩,fun D i=>(Uv m lp B D ((h.up o).up i) v I b F G _ _ (C.cZ (Sb i) (t_ C.lt)) (l.cZ (Sb i) (t_ l.lt))).mono fun _ _ j=>⟨j.1,j.2.1,j.2.2.mono fun _ H => .inl H⟩⟩⟩,o⟩
theorem UC(m:dP)(lp B:Nat)(w:World)(h:lD w B lp m)(v:EvM)(F:bO v=true) :
 Calls Tryz.prog 168 #[(pt lp),.agg (aC 14 (bS v))] w fun e w'=>QI w B lp m (BP m v) (0) e w':=by
 have u:=h.c;have O:=h.t;have y:=h.p;have z:=h.r;have x:=h.g;have s:=h.a;have N:=h.ne;have Q:=h.c.lt;have U:=h.t.lt;have S:=h.p.lt;have T:=h.r.lt;have R:=h.g.lt;have P:=h.a.lt;refine Kent Tryz.func168 7 ?_;refine ay<|zH (pt lp) fun b w1 o j L z1 => ?_;have⟨G,H,I,J,K,l⟩:=uy L.old u y z x s (Below.refl w.heap.size w);have V:=iE o;have⟨X,Y,Z,aa,ab⟩:=Df o u.lt y.lt z.lt x.lt s.lt;have ai:=j.lt;refine rU fun d C q k M z2 => ?_;have⟨A,n⟩:=fC M.old j l;have W:=jI q l.size;have⟨ah,ac,ad,ae,af,ag⟩:=Ii q G.lt H.lt I.lt J.lt K.lt j.lt;have aj:=k.lt;refine av (.nilFunc)<|av (au 0)<|aD<|ay<|Lv (.func (.func 184) #[] #[(pt b),(pt d)]) (Fx.ny (us := []) (vs := [(pt b),(pt d)]) rfl rfl rfl)<|av (.func (.func 184) #[] #[(pt b),(pt d)])<|av (au 0)<|aD<|Wr<|aK (.tuple #[.func (.func 184) #[] #[(pt b),(pt d)],au 0]) ?_;have D:(0:Int)=0:=rfl;exact⟨⟨_,184,#[(pt b),(pt d)],by rw[D],rfl,fun _=>⟨rfl,⟨_,_,Tryz.func184,rfl,rfl⟩,fun C f=>(Qb m lp B C ((h.up n).up f) v F _ _ (A.cZ (Sb f) (t_ A.lt)) (k.cZ (Sb f) (t_ k.lt))).mono fun _ _ i=>⟨i.1,i.2.1,i.2.2.mono fun _ E => .inl E⟩⟩⟩,n⟩
section
open Rt
set_option maxRecDepth 10000
theorem amQ(o q:Nat)(w:World)(a:1<=o/\o<=6)(c:1<=q/\q<1099511627776) :
 Calls Tryz.prog 169 #[au (o:Int),aF (q:Int)] w fun e w'=>e = .returned (aF (1099511627776*(o:Int)+(q:Int)))/\w'=w:=by
 refine Kent Tryz.func169 24 ?_;refine ay<|av (aF 0)<|aD<|Ws<|ay<|av (au o)<|Lv aG Cq<|av aG<|av (au o)<|Lv aG wM<|av aG<|av aG<|av (aF q)<|Lv aG Cq<|av aG<|av aG<|av (aF q)<|Lv aG Jz<|av aG<|aD<|aL<|Wk<|sN<|ay<|av (au o)<|Lv (aF o) (dD rfl rfl (by kernel_rfl) Tryz.underlying28 (jK (by omega) rfl))<|Lv (aF (1099511627776*(o:Int))) (Fx.Jv (b:=40) rfl rfl rfl (by decide) (jK (by omega) (by omega)))<|av (aF q)<|Lv (aF (1099511627776*(o:Int)+(q:Int))) (Fx.abg rfl rfl rfl (by omega) (by omega))<|av (aF (1099511627776*(o:Int)+(q:Int)))<|aD<|Wr<|aK (aF (1099511627776*(o:Int)+(q:Int))) ?_;exact⟨rfl,rfl⟩
end
end Go.Proofs.YtahbiajdgealnaaGreatDoor
namespace Go.Proofs.YtahbiajdgealnaaGreatDoor
open Go.RowKit Go
set_option linter.unusedVariables false
namespace Rt
theorem BQ : ∀(n m:Nat) (f:Nat->Nat),(∀ i,i<m->f i<n)->(∀ i j,i<m->j<m->f i=f j->i=j)->m<=n
 | 0,m,f,h1,_=>by
   rcases Nat.eq_zero_or_pos m with h|h
   ·omega
   ·have:=h1 0 h; omega
 | n+1,m,f,h1,h2=>by
   rcases Nat.eq_zero_or_pos m with h|h
   ·omega
   by_cases d : ∃ a,a<m/\f a=n
   ·obtain⟨a,b,e⟩:=d;have:=BQ n (m-1) (fun j=>f (if j=a then m-1 else j)) (fun j o=>by
     have g:=h1 (if j=a then m-1 else j) (by split <;> omega)
     have k:f (if j=a then m-1 else j)≠n:=fun c=>by
      have:=h2 _ a (by split <;> omega) b (c.trans e.symm)
      split at this <;> omega
     show f _<n;omega) (fun i j l p c=>by
     have:=h2 _ _ (by split <;> omega) (by split <;> omega) c
     split at this <;> split at this <;> omega)
    omega
   ·have:=BQ n m f (fun i b=>by
     have:=h1 i b;have:f i≠n:=fun e=>d ⟨i,b,e⟩;omega) h2
    omega
section
variable {T U:dK} {id pa k:Int} {i:Nat}
theorem dK.D7(h:T.err id pa=0):T.add id pa=T.put id pa:=d_ h
theorem dK.acE(h : ¬ T.err id pa=0):T.add id pa=T:=b_ h
theorem dK.zC(hi:i<T.n):T.has (T.x i)=true:=jF hi rfl
theorem dK.KE(h:T.ok)(hi:i<T.n):T.par (T.x i)=T.p i:=Aq h.inj hi rfl
theorem dK.step(h:T.ok)(a:T.has k=true):T.path k=k::T.path (T.par k):=by
 have b:ji T.x T.p T.n 3 (T.par k):=h.stop k a;show(if dO T.x T.n k=true then k::jr T.x T.p T.n 3 (T.par k)else [])=_;rw[d_ (show dO T.x T.n k=true from a),<- (Ik b (show 3<=4 by omega)).1]; rfl
theorem dK.acF(h:T.ok)(hi:i<T.n):T.path (T.x i)=T.x i::T.path (T.p i):=by rw[dK.step h (dK.zC hi),dK.KE h hi]
theorem dK.yH:(T.path k).length<=4:=yx
theorem dK.acG(h:T.ok):T.path 0 = []:=Bf.aeD h 4
theorem uM.zero(T:dK):uM dK.zero T:=⟨fun _ h=>(nomatch h),fun _ h=>(nomatch h)⟩
theorem uM.path(b:T.ok)(a:U.ok)(h:uM U T) : ∀(d:Nat) (k:Int),(k=0\/U.has k=true)->jr U.x U.p U.n d k=jr T.x T.p T.n d k
 | 0,_,_=>rfl
 | d+1,k,hk=>by
   rcases hk with rfl|hk
   ·rw[kL (Bf.WG a),kL (Bf.WG b)]
   ·unfold jr;have c:dO U.x U.n k=true:=hk;have e:dO T.x T.n k=true:=h.has k hk;have f:ig U.x U.p U.n k=ig T.x T.p T.n k:=h.par k hk;rw[d_ c,d_ e,<- f,uM.path b a h d];exact Bf.up a hk
theorem uM.lt(s:U.ok)(h:uM U T)(hi:i<T.n)(m:U.has (T.x i)=false):U.n<T.n:=by
 have p : ∀ j,∃ q,j<U.n->q<T.n/\T.x q=U.x j:=fun j=>by
  by_cases g:j<U.n
  ·obtain⟨q,c,d⟩:=gG (h.has _ (dK.zC g));exact⟨q,fun _=>⟨c,d⟩⟩
  ·exact⟨0,fun h=>L_ h g⟩
 obtain⟨f,k⟩:=Classical.axiomOfChoice p;have:=BQ T.n (U.n+1) (fun j=>if j=U.n then i else f j) (fun j g=>by
  show(if j=U.n then i else f j)<T.n;split
  ·exact hi
  ·exact(k j (by omega)).1) (fun a b t u e=>by
  have o : ∀ j,j<U.n->f j≠i:=fun j g e=>by
   have c:=(k j g).2;rw[e]at c;rw[c,dK.zC g]at m; cases m
  have e:(if a=U.n then i else f a)=(if b=U.n then i else f b):=e;by_cases c:a=U.n
  ·by_cases d:b=U.n
   ·omega
   ·rw[d_ c,b_ d]at e; exact L_ e.symm (o b (by omega))
  ·by_cases d:b=U.n
   ·rw[b_ c,d_ d]at e; exact L_ e (o a (by omega))
   ·rw[b_ c,b_ d]at e;have l:=(k a (by omega)).2;have r:=(k b (by omega)).2;rw[e]at l;exact s.inj a b (by omega) (by omega) (l.symm.trans r))
 omega
theorem uM.add(d:T.ok)(g:U.ok)(h:uM U T)(hi:i<T.n)(j:T.p i=0\/U.has (T.p i)=true) :
 uM (U.add (T.x i) (T.p i)) T/\(U.add (T.x i) (T.p i)).has (T.x i)=true /\ ∀ k,U.has k=true->(U.add (T.x i) (T.p i)).has k=true:=by
 cases hh:U.has (T.x i)with
 | true =>
   have e:U.add (T.x i) (T.p i)=U:=by
    refine dK.acE fun m => ?_;have:=(Ep m).2.1;rw[show dO U.x U.n (T.x i)=U.has (T.x i)from rfl,hh]at this; cases this
   rw[e]; exact⟨h,hh,fun _ h=>h⟩
 | false =>
   have s:=(d.pos i hi).1;have q:=uM.lt g h hi hh;have r:=d.small;have l:U.err (T.x i) (T.p i)=0:=by
    unfold dK.err qJ;rw[b_ (by omega),b_ (by rw[show dO U.x U.n (T.x i)=U.has (T.x i)from rfl,hh]; decide),b_,b_]
    ·rintro (b|b)
     ·omega
     ·have f:=uM.path d g h 4 (T.p i) j;rw[f]at b;have c:=dK.acF d hi;have o:(T.path (T.x i)).length<=4:=dK.yH;rw[c,List.length_cons]at o;have b:4<=(T.path (T.p i)).length:=b;omega
    ·rintro ⟨b,f⟩
     rcases j with c|c
     ·exact b c
     ·rw[show dO U.x U.n (T.p i)=U.has (T.p i)from rfl,c]at f; cases f
   rw[dK.D7 l];refine⟨⟨fun k a => ?_,fun k a => ?_⟩,?_,fun k a => ?_⟩
   ·rw[dK.jw,Bool.or_eq_true]at a
    rcases a with a|a
    ·exact h.has k a
    ·rw[<- h_ a]; exact dK.zC hi
   ·rw[dK.jw,Bool.or_eq_true]at a;rw[dK.sM];split
    ·rename_i e; subst e; exact(dK.KE d hi).symm
    ·rename_i e
     rcases a with a|a
     ·exact h.par k a
     ·exact L_ (h_ a) e
   ·rw[dK.jw,f_ rfl,Bool.or_true]
   ·rw[dK.jw,a,Bool.true_or]
structure KF(T U:dK)(r k:Nat):Prop where
 sub:uM U T
 fst : ∀ j,j<r->j<T.n->U.has (T.x j)=true
 nxt:k<=r->r<T.n->U.has (T.x r)=true
theorem KF.start(T:dK) : ∀ {r:Nat},r=0->KF T dK.zero r T.n:=fun e=>⟨uM.zero T,fun j h=>by omega,fun a b=>by omega⟩
theorem KF.add{r k:Nat}(f:T.ok)(g:U.ok)(h:KF T U r k)(m:0<k)(o:k<=T.n)(l:T.p (k-1)=0\/U.has (T.p (k-1))=true):KF T (U.add (T.x (k-1)) (T.p (k-1))) r (k-1):=by
 obtain⟨c,d,b⟩:=uM.add f g h.sub (show k-1<T.n by omega) l;refine⟨c,fun j i a=>b _ (h.fst j i a),fun q a => ?_⟩;by_cases e:k<=r
 ·exact b _ (h.nxt e a)
 obtain rfl:r=k-1:=by omega
 exact d
theorem KF.skip{r k:Nat}(b:T.ok)(h:KF T U r k)(f:0<k)(g:k<=T.n)(d : ¬ T.p (k-1)=0)(a:U.has (T.p (k-1))=false):KF T U r (k-1):=by
 refine⟨h.sub,h.fst,fun j c => ?_⟩;by_cases e:k<=r
 ·exact h.nxt e c
 obtain rfl:r=k-1:=by omega
 rcases b.par (k-1) (by omega)with h1|⟨i,hi,h1⟩
 ·exact L_ h1 d
 rw[<- h1,h.fst i hi (by omega)]at a; cases a
theorem KF.next{r:Nat}(h:KF T U r 0):KF T U (r+1) T.n :=
 ⟨h.sub,fun j d a=>by
  by_cases e:j=r
  ·subst e; exact h.nxt (J_ _) a
  ·exact h.fst j (by omega) a,fun b c=>by omega⟩
theorem KF.all{r k:Nat}(h:KF T U r k)(hr:T.n<=r) : ∀ k,T.has k=true->U.has k=true:=fun k b=>by
 obtain⟨j,a,rfl⟩:=gG b;exact h.fst j (by omega) a
theorem KF.path{r k:Nat}(h:KF T U r k)(hr:T.n<=r)(q:Int):U.path q=T.path q:=h.sub.same (h.all hr) q
theorem KF.list{r k:Nat}(h:KF T U r k)(hr:T.n<=r){l m:List Int}(a:l.Pairwise (· < ·) /\ ∀ k,k∈l<->T.has k=true)(b:m.Pairwise (· < ·) /\ ∀ k,k∈m<->U.has k=true):m=l :=
 uE b.1 a.1 fun k=>(b.2 k).trans (Iff.trans ⟨h.sub.has k,h.all hr k⟩ (a.2 k).symm)
end
def QJ(l:List Int)(v:Int)(n:Nat)(b:Bool):Prop:=b=true <-> ∃ j,j<n/\j<l.length/\l.getD j 0=v
theorem QJ.zero(l:List Int)(v:Int):QJ l v 0 false:=⟨fun h=>(nomatch h),fun⟨j,h,_⟩=>L_ h (u_ _)⟩
theorem QJ.keep{l:List Int}{v:Int}{n:Nat}(h:QJ l v n true):QJ l v (n+1) true:=⟨fun _=>by obtain⟨j,b,a⟩:=h.1 rfl; exact⟨j,by omega,a⟩,fun _=>rfl⟩
theorem QJ.yes{l:List Int}{v:Int}{n:Nat}(a:n<l.length)(e:l.getD n 0=v):QJ l v (n+1) true:=⟨fun _=>⟨n,by omega,a,e⟩,fun _=>rfl⟩
theorem QJ.no{l:List Int}{v:Int}{n:Nat}(h:QJ l v n false)(e : ¬ l.getD n 0=v):QJ l v (n+1) false:=⟨fun h=>(nomatch h),fun⟨j,d,c,a⟩=>by
 by_cases b:j=n
 ·subst b; exact L_ a e
 ·exact h.2 ⟨j,by omega,c,a⟩⟩
theorem QJ.mem{l:List Int}{v:Int}{n:Nat}{b:Bool}(h:QJ l v n b)(i:l.length<=n):b=true<->v∈l:=by
 constructor
 ·intro f;obtain⟨j,_,c,d⟩:=h.1 f;exact uF c d
 intro g;obtain⟨j,a,e⟩:=List.getElem_of_mem g;refine h.2 ⟨j,by omega,a,?_⟩;rw[r_,o_ a]; exact e
end Rt
end Go.Proofs.YtahbiajdgealnaaGreatDoor
namespace Go.Proofs.YtahbiajdgealnaaGreatDoor
open Go.RowKit Go
set_option linter.unusedVariables false
namespace Rt
def XQ(x:Nat->Int)(v:Int)(j aq:Nat):Prop:=(aq=0 /\ ∀ q,q<j->x q≠v)\/(0<aq/\aq<=j/\x (aq-1)=v)
section
variable {x:Nat->Int} {v:Int} {j aq:Nat}
theorem XQ.zero:XQ x v 0 0 := .inl ⟨rfl,fun _ h=>L_ h (u_ _)⟩
theorem XQ.yes(e:x j=v):XQ x v (j+1) (j+1) := .inr ⟨by omega,by omega,e⟩
theorem XQ.no(h:XQ x v j aq)(e : ¬ x j=v):XQ x v (j+1) aq:=by
 rcases h with ⟨a,b⟩|⟨a,b,h3⟩
 ·refine .inl ⟨a,fun q d => ?_⟩;by_cases c:q=j
  ·subst c; exact e
  exact b q (by omega)
 exact .inr ⟨a,by omega,h3⟩
end
section
variable {x p:Nat->Int} {n:Nat}
theorem qQ : ∀ {d:Nat} {v:Int},ji x p n d v -> ∀ k,k<(jr x p n d v).length->dO x n ((jr x p n d v).getD k 0)=true /\
 (k+1<(jr x p n d v).length->(jr x p n d v).getD (k+1) 0=ig x p n ((jr x p n d v).getD k 0))/\(k+1=(jr x p n d v).length->dO x n (ig x p n ((jr x p n d v).getD k 0))=false)
 | 0,v,h,k,hk=>L_ hk (u_ _)
 | d+1,v,h,k,hk=>by
   cases hv:dO x n v with
   | false=>rw[kL hv]at hk; exact L_ hk (u_ _)
   | true =>
     have e:jr x p n (d+1) v=v::jr x p n d (ig x p n v):=(by show(if _ then _ else _)=_; rw[d_ hv]);have c:ji x p n d (ig x p n v):=h hv;have i := @qQ d (ig x p n v) c;have g:0<(jr x p n d (ig x p n v)).length->(jr x p n d (ig x p n v)).getD 0 0=ig x p n v:=fun a=>by
      cases d with
      | zero=>exact L_ a (u_ _)
      | succ d =>
        unfold jr at a ⊢;split at a
        ·rename_i hq; rw[d_ hq]; rfl
        ·exact L_ a (u_ _)
     rw[e]at hk ⊢;rw[List.length_cons]at hk ⊢
     cases k with
     | zero =>
       rw[List.getD_cons_zero,List.getD_cons_succ];refine⟨hv,fun b=>g (by omega),fun b => ?_⟩
       cases hq:dO x n (ig x p n v)with
       | false=>rfl
       | true =>
         obtain⟨j,_,_,f⟩:=Gm c hq;rw[f,List.length_cons]at b; omega
     | succ k =>
       rw[List.getD_cons_succ,List.getD_cons_succ];have:=i k (by omega);exact⟨this.1,fun b=>this.2.1 (by omega),fun b=>this.2.2 (by omega)⟩
end
section
variable {T:dK} {id pa k v:Int} {i j aq:Nat} {pl:List Int}
theorem XQ.get(h:XQ T.x v T.n aq)(d:T.has v=true):0<aq/\aq-1<T.n/\T.x (aq-1)=v:=by
 rcases h with ⟨a,b⟩|⟨a,b,h3⟩
 ·obtain⟨q,c,e⟩:=gG d;exact L_ e (b q c)
 exact⟨a,by omega,h3⟩
theorem dK.MS(h:T.ok)(e:pl=T.path v){q:Nat}(a:q<pl.length):T.has (pl.getD q 0)=true:=by
 subst e; exact(qQ (h.stop v) q a).1
theorem dK.XR(h:T.ok)(e:pl=T.path v){q:Nat}(b:q+1<pl.length)(ha:aq-1<T.n)(hx:T.x (aq-1)=pl.getD q 0):T.p (aq-1)=pl.getD (q+1) 0:=by
 subst e;have:=(qQ (h.stop v) q (Nat.lt_of_succ_lt b)).2.1 b;have a:=dK.KE h ha;rw[hx]at a;exact a.symm.trans this.symm
theorem dK.XT(h:T.ok)(e:pl=T.path v){q:Nat}(c:q+1=pl.length)(ha:aq-1<T.n)(hx:T.x (aq-1)=pl.getD q 0):T.p (aq-1)=0:=by
 subst e;have a:=(qQ (h.stop v) q (Nat.lt_of_succ_le (Nat.le_of_eq c))).2.2 c;have b:=dK.KE h ha;rw[hx]at b;rw[show ig T.x T.p T.n ((jr T.x T.p T.n 4 v).getD q 0)=T.p (aq-1)from b]at a
 rcases h.par _ ha with h4|⟨i,hi,h4⟩
 ·exact h4
 rw[<- h4,jF (by omega) rfl]at a; cases a
theorem dK.acH(d : ¬ id=0)(e:pa=0\/T.has pa=true):T.err id pa=if T.has id=true then 14 else if 32<=T.n\/4<=(T.path pa).length then 6 else 0:=by
 show qJ T.x T.p T.n id pa=_;unfold qJ;rw[b_ d];have c : ¬ (¬ pa=0/\dO T.x T.n pa=false):=by
  rintro ⟨b,a⟩
  rcases e with h3|h3
  ·exact b h3
  ·rw[show dO T.x T.n pa=T.has pa from rfl,h3]at a; cases a
 rw[b_ c]; rfl
end
def ZB(v1 v2:Value):Prop := ∀ g,v1.ownBlock=some g->v2.ownBlock≠some g
section
variable {w w':World} {v v2:Value} {B s n g m c:Nat} {E:TypeId} {x:Nat->Value}
theorem ZB.symm(h:ZB v v2):ZB v2 v:=fun g a b=>h g b a
theorem ZB.nil:ZB (.slice none 0 0) v:=fun g h=>nomatch h
theorem ZB.app(h:ZB v v2)(b:Fx.Own w B E s v n x)(d:v2.ownBlock=some g\/g=w.heap.size):ZB v (bL g m c):=fun q a e=>by
 have e:some g=some q:=e;obtain rfl:=B_ e
 rcases d with h1|h1
 ·exact h _ a h1
 ·have:=(b.ge a).2; omega
end
end Rt
end Go.Proofs.YtahbiajdgealnaaGreatDoor
namespace Go.Proofs.YtahbiajdgealnaaGreatDoor
open Go.RowKit Go
set_option linter.unusedVariables false
namespace Rt
def FQ(n:Nat):Nat->List Nat
 | 0 => []
 | j+1=>FQ n j ++ [n-1-j]
theorem Ot(n:Nat) : ∀ j,(FQ n j).length=j
 | 0=>rfl
 | j+1=>by unfold FQ; rw[D_,Ot n j]; rfl
def Lr(T:dK)(l:List Int)(a:List Nat):dK:=a.foldl (fun U x=>U.add (l.getD x 0) (T.par (l.getD x 0))) dK.zero
theorem Fh(T:dK)(l:List Int)(a:List Nat)(x:Nat):Lr T l (a ++ [x])=(Lr T l a).add (l.getD x 0) (T.par (l.getD x 0)):=by unfold Lr; rw[List.foldl_append]; rfl
def kV(l ll:List Int)(U:dK):Nat->dK
 | 0=>U
 | i+1=>if ll.getD i 0∈l then kV l ll U i else(kV l ll U i).add (ll.getD i 0) 0
section
variable {T U:dK} {l ll:List Int} {id pa k v:Int} {i j n:Nat}
theorem has_lt(t:U.ok)(h : ∀ k,U.has k=true->T.has k=true)(hx:T.has v=true)(o:U.has v=false):U.n<T.n:=by
 obtain⟨i,u,rfl⟩:=gG hx;have r : ∀ j,∃ q,j<U.n->q<T.n/\T.x q=U.x j:=fun j=>by
  by_cases g:j<U.n
  ·obtain⟨q,c,d⟩:=gG (h _ (dK.zC g));exact⟨q,fun _=>⟨c,d⟩⟩
  ·exact⟨0,fun h=>L_ h g⟩
 obtain⟨f,l⟩:=Classical.axiomOfChoice r;have:=BQ T.n (U.n+1) (fun j=>if j=U.n then i else f j) (fun j g=>by
  show(if j=U.n then i else f j)<T.n;split
  ·exact u
  ·exact(l j (by omega)).1) (fun a b w y e=>by
  have p : ∀ j,j<U.n->f j≠i:=fun j g e=>by
   have c:=(l j g).2;rw[e]at c;rw[c,dK.zC g]at o; cases o
  have e:(if a=U.n then i else f a)=(if b=U.n then i else f b):=e;by_cases c:a=U.n
  ·by_cases d:b=U.n
   ·omega
   ·rw[d_ c,b_ d]at e; exact L_ e.symm (p b (by omega))
  ·by_cases d:b=U.n
   ·rw[b_ c,d_ d]at e; exact L_ e (p a (by omega))
   ·rw[b_ c,b_ d]at e;have m:=(l a (by omega)).2;have s:=(l b (by omega)).2;rw[e]at m;exact t.inj a b (by omega) (by omega) (m.symm.trans s))
 omega
theorem UD(p:U.ok)(h : ∀ k,U.has k=true->T.has k=true):U.n<=T.n:=by
 have l : ∀ j,∃ q,j<U.n->q<T.n/\T.x q=U.x j:=fun j=>by
  by_cases i:j<U.n
  ·obtain⟨q,m,o⟩:=gG (h _ (dK.zC i));exact⟨q,fun _=>⟨m,o⟩⟩
  ·exact⟨0,fun h=>L_ h i⟩
 obtain⟨f,c⟩:=Classical.axiomOfChoice l;exact BQ T.n U.n f (fun q r=>(c q r).1) fun a b d g e=>p.inj a b d g (by rw[<- (c a d).2,<- (c b g).2,e])
structure BwI(T U:dK)(l:List Int)(j:Nat):Prop where
 ok:U.ok
 sub:uM U T
 has : ∀ x,l.length-j<=x->x<l.length->U.has (l.getD x 0)=true
 only : ∀ k,U.has k=true->k∈l
theorem UE(a:T.ok)(hi:i<T.n):0<=T.x i/\T.x i<=18446744073709551615:=by have:=a.pos i hi; omega
theorem XU(U:dK)(id pa k:Int)(h:(U.add id pa).has k=true):U.has k=true\/k=id:=by
 unfold dK.add at h;split at h
 ·rw[dK.jw,Bool.or_eq_true]at h
  rcases h with h|h
  ·exact .inl h
  exact .inr (h_ h).symm
 exact .inl h
theorem UF(a:T.ok)(e:l=T.path pa) : ∀ j,j<=l.length->BwI T (Lr T l (FQ l.length j)) l j
 | 0,_=>⟨Bf.zero _ _,uM.zero T,fun x g c=>by omega,fun k h=>nomatch h⟩
 | j+1,hj=>by
   have d:=UF a e j (by omega);have m:l.length-1-j<l.length:=(by omega);have t:T.has (l.getD (l.length-1-j) 0)=true:=dK.MS a e m;obtain⟨i,f,b⟩:=gG t;have n:T.par (l.getD (l.length-1-j) 0)=T.p i:=(by rw[<- b]; exact dK.KE a f);show BwI T (Lr T l (FQ l.length j ++ [l.length-1-j])) l (j+1);rw[Fh,n,<- b];have s:T.p i=0\/(Lr T l (FQ l.length j)).has (T.p i)=true:=by
    by_cases r:l.length-1-j+1=l.length
    ·exact .inl (dK.XT (aq:=i+1) a e r f b)
    ·have c:=dK.XR (aq:=i+1) a e (show l.length-1-j+1<l.length by omega) f b;have c:T.p i=l.getD (l.length-1-j+1) 0:=c;right;rw[c];exact d.has _ (by omega) (by omega)
   obtain⟨u,v,w⟩:=uM.add a d.ok d.sub f s;refine⟨dK.Io d.ok (UE a f),u,fun x g c => ?_,fun k q => ?_⟩
   ·by_cases o:x=l.length-1-j
    ·rw[o,<- b]; exact v
    ·exact w _ (d.has x (by omega) c)
   ·rcases XU _ _ _ _ q with g|rfl
    ·exact d.only k g
    ·rw[b];rw[r_,o_ m]; exact P_ m
structure RtI(T U:dK)(l ll:List Int)(i:Nat):Prop where
 ok:U.ok
 sub : ∀ k,U.has k=true->T.has k=true
 par : ∀ k,k∈l->U.has k=true/\U.par k=T.par k
 has : ∀ q,q<i->q<ll.length->U.has (ll.getD q 0)=true
 only : ∀ k,U.has k=true->k∈l \/ ∃ q,q<i/\q<ll.length/\ll.getD q 0=k
theorem acI(d:ll.Pairwise (· < ·)){a b:Nat}(ha:a<ll.length)(c:b<ll.length)(e:ll.getD a 0=ll.getD b 0):a=b:=by
 rw[r_,r_,o_ ha,o_ c]at e;have e:ll[a]=ll[b]:=e
 rcases Nat.lt_trichotomy a b with h1|h1|h1
 ·have:=List.pairwise_iff_getElem.1 d a b ha c h1; omega
 ·exact h1
 have:=List.pairwise_iff_getElem.1 d b a c ha h1; omega
theorem UG(d:T.ok)(g:ll.Pairwise (· < ·) /\ ∀ k,k∈ll<->T.has k=true)(n:RtI T U l ll 0) : ∀ i,i<=ll.length->RtI T (kV l ll U i) l ll i
 | 0,_=>n
 | i+1,hi=>by
   have b:=UG d g n i (by omega);unfold kV;have s:ll.getD i 0∈ll:=(by rw[r_,o_ (by omega)]; exact P_ _);have f:=(g.2 _).1 s;by_cases c:ll.getD i 0∈l
   ·rw[d_ c];refine⟨b.ok,b.sub,b.par,fun q v h => ?_,fun k a => ?_⟩
    ·by_cases e:q=i
     ·rw[e]; exact(b.par _ c).1
     ·exact b.has q (by omega) h
    ·rcases b.only k a with h1|⟨q,h1,h2,h3⟩
     ·exact .inl h1
     ·exact .inr ⟨q,by omega,h2,h3⟩
   ·rw[b_ c];obtain⟨z,r,m⟩:=gG f;have o:=UE d r;rw[m]at o;have u:=d.pos z r;rw[m]at u;have p:(kV l ll U i).has (ll.getD i 0)=false:=by
     cases hh:(kV l ll U i).has (ll.getD i 0)with
     | false=>rfl
     | true =>
       rcases b.only _ hh with h1|⟨q,h1,h2,h3⟩
       ·exact L_ h1 c
       ·have:=acI g.1 h2 (by omega) h3; omega
    have w:=has_lt b.ok b.sub f p;have x:=d.small;have j:(kV l ll U i).err (ll.getD i 0) 0=0:=by
     rw[dK.acH (by omega) (.inl rfl),b_ (by rw[p]; decide),b_];rw[dK.acG b.ok];rintro (h1|h1)
     ·omega
     ·simp at h1
    rw[dK.D7 j];have t : ∀ k,k∈l -> ¬ ll.getD i 0=k:=fun k a e=>c (e ▸ a);refine⟨by have:=dK.Io (pa:=0) b.ok o; rwa [dK.D7 j]at this,fun k a => ?_,fun k a => ?_,fun q v h => ?_,fun k a => ?_⟩
    ·rw[dK.jw,Bool.or_eq_true]at a
     rcases a with a|a
     ·exact b.sub k a
     ·rw[<- h_ a]; exact f
    ·rw[dK.jw,dK.sM,b_ (t k a),(b.par k a).1,Bool.true_or];exact⟨rfl,(b.par k a).2⟩
    ·rw[dK.jw];by_cases e:q=i
     ·rw[e,f_ rfl,Bool.or_true]
     ·rw[b.has q (by omega) h,Bool.true_or]
    ·rw[dK.jw,Bool.or_eq_true]at a
     rcases a with a|a
     ·rcases b.only k a with h1|⟨q,h1,h2,h3⟩
      ·exact .inl h1
      ·exact .inr ⟨q,by omega,h2,h3⟩
     ·exact .inr ⟨i,by omega,by omega,h_ a⟩
theorem G5(c : ∀ k,U.has k=T.has k) : ∀(d:Nat) (k:Int),(∀ q,q∈jr T.x T.p T.n d k->U.par q=T.par q)->jr U.x U.p U.n d k=jr T.x T.p T.n d k
 | 0,_,_=>rfl
 | d+1,k,h=>by
   have a:dO U.x U.n k=dO T.x T.n k:=c k
   cases hk:dO T.x T.n k with
   | false=>rw[kL hk,kL (a.trans hk)]
   | true =>
     have b:jr T.x T.p T.n (d+1) k=k::jr T.x T.p T.n d (ig T.x T.p T.n k):=(by show(if _ then _ else _)=_; rw[d_ hk]);have e:jr U.x U.p U.n (d+1) k=k::jr U.x U.p U.n d (ig U.x U.p U.n k):=(by show(if _ then _ else _)=_; rw[d_ (a.trans hk)]);rw[b]at h;have f:ig U.x U.p U.n k=ig T.x T.p T.n k:=h k (List.mem_cons_self ..);rw[b,e,f,G5 c d _ fun q g=>h q (List.mem_cons_of_mem _ g)]
theorem XV(i:T.ok)(e:l=T.path pa)(m:ll.Pairwise (· < ·) /\ ∀ k,k∈ll<->T.has k=true):(kV l ll (Lr T l (FQ l.length l.length)) ll.length).err id pa=T.err id pa:=by
 have d:=UF i e l.length (z_ _);have t : ∀ k,k∈l -> ∃ x,x<l.length/\l.getD x 0=k:=fun k a=>by
  obtain⟨x,h,r⟩:=List.getElem_of_mem a;exact⟨x,h,by rw[r_,o_ h]; exact r⟩
 have s:RtI T (Lr T l (FQ l.length l.length)) l ll 0:=⟨d.ok,d.sub.has,fun k a=>by
  obtain⟨x,h,rfl⟩:=t k a;have:=d.has x (by omega) h;exact⟨this,d.sub.par _ this⟩,fun q b=>by omega,fun k a => .inl (d.only k a)⟩
 have c:=UG i m s ll.length (z_ _);generalize kV l ll (Lr T l (FQ l.length l.length)) ll.length=V at c;have g : ∀ k,V.has k=T.has k:=fun k=>by
  cases f:T.has k with
  | false =>
    cases j:V.has k with
    | false=>rfl
    | true=>rw[c.sub k j]at f; cases f
  | true =>
    obtain⟨q,b,o⟩:=List.getElem_of_mem ((m.2 k).2 f);have:=c.has q b b;rw[r_,o_ b]at this;rw[<- o]; exact this
 have u:V.n=T.n:=by
  have f:=UD c.ok c.sub;have j:=UD i (fun k a=>by rw[g]; exact a : ∀ k,T.has k=true->V.has k=true);omega
 have v:V.path pa=T.path pa:=G5 g 4 pa fun q b=>(c.par q (by rw[e]; exact b)).2;show qJ V.x V.p V.n id pa=qJ T.x T.p T.n id pa;unfold qJ;have w:jr V.x V.p V.n 4 pa=jr T.x T.p T.n 4 pa:=v;rw[show dO V.x V.n id=dO T.x T.n id from g id,show dO V.x V.n pa=dO T.x T.n pa from g pa,w,u]
end
end Rt
end Go.Proofs.YtahbiajdgealnaaGreatDoor
namespace Go.Proofs.YtahbiajdgealnaaGreatDoor
open Go.RowKit Go
set_option linter.unusedVariables false
namespace Fx
abbrev xX:=Exit->(Nat->Value)->List Deferred->World->Prop
def UH(n:Nat)(Q:xX):Exit->Act->World->Prop:=fun e a w => ∃ f,Af a n f/\Q e f a.defers w
def W0(ro:Option Nat)(m:Nat)(P:Program)(n:Nat)(c:Code)(Q:xX)(f:Nat->Value)(ds:List Deferred)(w:World):Prop := ∀ a,Af a n f->a.defers=ds->c.wpIn (FR ro) m P (UH n Q) a w
def UJ(ro:Option Nat)(m:Nat)(P:Program)(n:Nat)(y:Code)(Q:xX):xX:=fun e f ds w=>match e with | .normal=>W0 ro m P n y Q f ds w|e=>Q e f ds w
def A8(id:Nat)(Q:xX):xX:=fun e f ds w=>match e with | .exit id'=>if id'=id then Q .normal f ds w else Q (.exit id') f ds w|e=>Q e f ds w
def MU(I:(Nat->Value)->World->Prop)(b:(Nat->Value)->World->Nat)(k:Nat)(ds:List Deferred)(Q:xX):xX:=fun e f a w=>match e with | .normal=>a=ds/\I f w/\b f w<k|e=>Q e f a w
section
variable {ro:Option Nat} {m:Nat} {ds:List Deferred} {P:Program} {n:Nat} {Q:xX} {f:Nat->Value} {w:World}
theorem W0.seq{x y:Code}(h:W0 ro m P n x (UJ ro m P n y Q) f ds w):W0 ro m P n (.seq x y) Q f ds w:=fun a i j =>
 wpIn_seq (wpIn_mono (h a i j) fun e d w' b=>by
  obtain⟨g,c,b⟩:=b
  cases e <;> first|exact b d c rfl|exact⟨g,c,b⟩)
theorem W0.skip(h:Q .normal f ds w):W0 ro m P n .skip Q f ds w:=fun _ a b=>wpIn_skip ⟨f,a,b ▸ h⟩
theorem W0.ret(h:Q .ret f ds w):W0 ro m P n .ret Q f ds w:=fun _ a b=>wpIn_ret ⟨f,a,b ▸ h⟩
theorem W0.exit{id:Nat}(h:Q (.exit id) f ds w):W0 ro m P n (.exit id) Q f ds w:=fun _ a b=>wpIn_exit ⟨f,a,b ▸ h⟩
theorem W0.block{id:Nat}{c:Code}(h:W0 ro m P n c (A8 id Q) f ds w):W0 ro m P n (.block id c) Q f ds w:=fun a i j =>
 wpIn_block (wpIn_mono (h a i j) fun e k w' b=>by
  obtain⟨d,g,b⟩:=b
  cases e <;> first
   | exact⟨d,g,b⟩
   | (simp only[A8]at b; simp only[Exit.inBlock]; split at b <;> rename_i hid <;> simp only[hid,if_true,if_false] <;> exact⟨d,g,b⟩))
theorem W0.cond{c:Operand}{x y:Code}{b:Bool}(h:ev f c = .bool b)(j:b=true->W0 ro m P n x Q f ds w)(i:b=false->W0 ro m P n y Q f ds w):W0 ro m P n (.cond c x y) Q f ds w:=fun a d g =>
 wpIn_cond_split (t:=b) (by rw[d.ev]; exact h) (fun e=>j e a d g) (fun e=>i e a d g)
theorem W0.loop{c:Code}(I:(Nat->Value)->World->Prop)(k:(Nat->Value)->World->Nat)(r:I f w)(hr : ∀ f w,I f w->W0 ro m P n c (MU I k (k f w) ds Q) f ds w):W0 ro m P n (.loop c) Q f ds w:=fun a s h =>
 wpIn_loop (fun a w => ∃ f,Af a n f/\a.defers=ds/\I f w) (fun a w=>k (fun i=>a.tmps.getD i undef) w) ⟨f,s,h,r⟩ (fun a w g=>by
  obtain⟨f,l,h,g⟩:=g;have e:(fun i=>a.tmps.getD i undef)=f:=funext l.get;refine wpIn_mono (hr f w g a l h)<|fun p o w' b => ?_;obtain⟨d,j,b⟩:=b
  cases p <;> first
   | exact⟨d,j,b⟩
   | (have q:(fun i=>o.tmps.getD i undef)=d:=funext j.get
      exact⟨⟨d,j,b.1,b.2.1⟩,by rw[e,q]; exact b.2.2⟩))
theorem W0.list{id:Nat}{ops:List Oper}(h:L P n ops.toArray (fun e f w=>Q e f ds w) ops f w)(k:ops.all jP=true:=by rfl):W0 ro m P n (.region id ops.toArray false) Q f ds w:=fun a i j =>
 Gl i h k fun e l w' ⟨b,c,d,g⟩=>⟨b,c,by rw[d,j]; exact g⟩
theorem qD{y:Code}(h:W0 ro m P n y Q f ds w):UJ ro m P n y Q .normal f ds w:=h
theorem agi{id:Nat}{y:Code}(h:Q (.exit id) f ds w):UJ ro m P n y Q (.exit id) f ds w:=h
theorem KG{id:Nat}(h:Q .normal f ds w):A8 id Q .normal f ds w:=h
theorem agj{id:Nat}(h:Q .normal f ds w):A8 id Q (.exit id) f ds w:=by simp only[A8,if_true]; exact h
theorem amT{I:(Nat->Value)->World->Prop}{a:(Nat->Value)->World->Nat}{k id:Nat}(h:Q (.exit id) f ds w):MU I a k ds Q (.exit id) f ds w:=h
theorem agk{I:(Nat->Value)->World->Prop}{a:(Nat->Value)->World->Nat}{k:Nat}(h:I f w)(b:a f w<k):MU I a k ds Q .normal f ds w:=⟨rfl,h,b⟩
def ZC(P:Program)(m:Nat)(b:Func)(R:Ending->World->Prop):xX:=fun e f ds w => ∀ a,Af a b.ntmps f->a.defers=ds->bodyPostM (FR none) m P b R e a w
theorem acJ{g:FuncId}{b:Func}{c:Code}{args:Array Value}{R:Ending->World->Prop}(m:Nat)(k:P.funcs[g]? = some b)(j:b.body=some c)(f:b.ntmps=n)(ha:Nat.ble args.size n=true)(h:W0 none m P n c (ZC P m b R) (start args) [] w):Calls P g args w R:=by
 have q:args.size<=n:=Nat.le_of_ble_eq_true ha;refine(callsIn_wide (n:=m)).1 (callsIn_of_wp_marks (F:=FR none) k j trivial ?_ rfl);refine wpIn_mono (h _ ⟨?_,?_⟩ rfl) fun e a w' ⟨p,l,o⟩=>o a (by rw[f]; exact l) rfl
 ·simp[f]; omega
 intro i;simp only[start,Array.getD_eq_getD_getElem?,Array.getElem?_append,Array.getElem?_replicate];by_cases d:i<args.size
 ·simp[d]
 rw[b_ d];split
 ·rw[Array.getElem?_eq_none (by omega)]; rfl
 rw[Array.getElem?_eq_none (by omega)]
theorem leaveD{b:Func}{R:Ending->World->Prop}{D:Nat}{v:Value}(c:w.heap[D]? = some (.deferred (some [])))(h:(Aj b f).run P (w.putObj D (.deferred none)) = .ok v (w.putObj D (.deferred none)))(d:R (.returned v) (w.putObj D (.deferred none))) :
 ZC P m b R .ret f [{ target := .collected D,args := #[] }] w:=fun a e g=>leave1 e g c h d
variable {ops:List Oper} {cs:List Nat} {S:World->World->Prop}
theorem R.agl(T:lH n ops=true)(hsel:Region.noSelect ops.toArray=true)(aa:ops.all jP=true)(hS : ∀ w,S w w)(hT : ∀ a b c,S a b->S b c->S a c){fG:List (Nat × Nat × List Nat)} : ∀(k:Nat) (u:List Nat) (p:Array Bool) (a:Act) (f:Nat->Value) (w:World),u.length=k->p.size=ops.length->Jh ops.toArray .any p ->
 (∀ i,i∈u<->i<ops.length/\p.getD i false=false)->u.Nodup->(u.Pairwise fun i j=>qg ops cs fG i j=true)->Af a n f->a.defers=ds->R P n ops cs S (fun e f w=>Q e f ds w) u f w->wpAnyIn (FR ro) m P .any ops.toArray (UH n Q) k p a w:=by
 intro k
 induction k with
 | zero =>
   intro u p a f w F ac J x G H A L h;have:u = []:=List.eq_nil_of_length_eq_zero F;subst this;refine⟨?_,f,A,by rw[L]; exact h⟩;rw[List.eq_nil_iff_forall_not_mem];intro j E;obtain⟨z,s,_,_⟩:=fF E;exact L_ ((x j).2 ⟨s,z⟩) (by simp)
 | succ k ih =>
   intro u p a f w F ac J x G H A L h;refine⟨fun hr => ?_,fun j E => ?_⟩
   ·cases u with
    | nil=>simp at F
    | cons r ajr =>
      exfalso;obtain⟨z,s⟩:=(x r).1 (List.mem_cons_self ..);have:r∈Region.ready .any ops.toArray p:=by
       refine mem_ready.2 ⟨getD_in (by omega) s,opAt ops r,by unfold opAt; rw[List.getElem?_toArray,r_,o_ z]; rfl,fun e M C => ?_⟩;have B:dF (opAt ops r) e.on=true:=by
        unfold dF; rw[Array.any_eq_true']; exact⟨e,M,by rw[C,Nat.beq_refl]; rfl⟩
       have hlt:=(fu T z).2.2.2 e.on B
       cases hle:p.getD e.on false with
       | true=>rfl
       | false =>
         have g:=(x e.on).2 ⟨by omega,hle⟩
         rcases List.mem_cons.1 g with e1|e1
         ·omega
         ·have o:=(List.pairwise_cons.1 H).1 _ e1;unfold qg at o;rw[B]at o; simp at o
      rw[hr]at this; simp at this
   ·obtain⟨z,s,W,X⟩:=fF E;have hjm:=(x j).2 ⟨s,z⟩;obtain⟨t,y,rfl⟩:=List.append_of_mem hjm;have C:=bubble (P:=P) (cs:=cs) (S:=S) (Q:=fun e f w=>Q e f ds w) T hsel hS hT s (l:=y) t (fun i N=>by
     obtain⟨h5,Y⟩:=(x i).1 (List.mem_append_left _ N);have O:i≠j:=fun e=>by
      subst e;exact(List.nodup_append.1 G).2.2 i N i (List.mem_cons_self ..) rfl
     have o:qg ops cs fG i j=true:=(List.pairwise_append.1 H).2.2 i N j (List.mem_cons_self ..);unfold qg at o;rw[R_,Bool.or_eq_true]at o;have aan:dF (opAt ops j) i=false:=by
      cases hq:dF (opAt ops j) i with
      | false=>rfl
      | true=>have:=X i hq; rw[Y]at this; cases this
     refine⟨h5,O,aan,by simpa using o.1,?_⟩
     rcases o.2 with o|o
     ·rw[R_,Bool.or_eq_true]at o;refine⟨o.1,?_⟩
      rcases o.2 with q|q
      ·rw[Bool.or_eq_true]at q;exact q.elim (fun q => .inl (A_ q)) (fun q => .inr (.inl q))
      ·rw[R_]at q;exact .inr (.inr ⟨A_ q.1,A_ q.2⟩)
     ·exfalso;rw[List.any_eq_true]at o;obtain⟨c,_,Z⟩:=o;rw[R_,R_]at Z;obtain⟨m,g⟩:=iX Z.2
      cases m with
      | zero=>unfold reach at g; simp at g; exact O g.symm
      | succ m =>
        unfold reach at g;rw[Bool.or_eq_true]at g
        rcases g with g|g
        ·simp at g; exact O g.symm
        ·rw[W]at g;simp only at g;rw[Array.any_eq_true']at g;obtain⟨e,M,g⟩:=g;rw[R_]at g;have B:dF (opAt ops j) e.on=true:=by
          unfold dF; rw[Array.any_eq_true']; exact⟨e,M,by rw[g.1,Nat.beq_refl]; rfl⟩
         have:=J.reach _ _ g.2 (X e.on B);rw[Y]at this; cases this) f w h
    have hperm:(t++y).length=k:=(by simp at F ⊢; omega);have hnd':(t++y).Nodup:=by
     refine G.sublist ?_;exact List.Sublist.append_left (List.sublist_cons_self ..) t
    have aao:(t++y).Pairwise fun i j=>qg ops cs fG i j=true:=H.sublist (List.Sublist.append_left (List.sublist_cons_self ..) t);have hmem' : ∀ i,i∈t++y<->i<ops.length/\(p.setIfInBounds j true).getD i false=false:=fun i=>by
     by_cases e:j=i
     ·subst e;rw[set_self (by omega)];constructor
      ·intro g;exfalso;have D:=List.nodup_append.1 G
       rcases List.mem_append.1 g with q|q
       ·exact D.2.2 j q j (List.mem_cons_self ..) rfl
       ·exact(List.nodup_cons.1 D.2.1).1 q
      ·intro q; cases q.2
     ·rw[jR e,<- x i];simp only[List.mem_append,List.mem_cons];constructor
      ·rintro (q|q)
       ·exact .inl q
       ·exact .inr (.inr q)
      ·rintro (q|q|q)
       ·exact .inl q
       ·exact L_ q.symm e
       ·exact .inr q
    have U : ∀(v:Value) (w':World),R P n ops cs S (fun e f w=>Q e f ds w) (t++y) (put f (opAt ops j).dst v) w'->wpAnyIn (FR ro) m P .any ops.toArray (UH n Q) k (p.setIfInBounds j true) (a.put (opAt ops j).dst v) w':=fun v w' hR =>
     ih (t++y) _ _ _ w' hperm (by simp[ac]) (J.set E) hmem' hnd' aao (A.put (by
      cases D:(opAt ops j).dst with
      | none=>rfl
      | some d=>have:=((fu T s).1 d D).2; simpa [inn,Nat.blt_eq] using this) v) (by rw[put_defers]; exact L) hR
    have ab:jP (opAt ops j)=true:=by
     rw[List.all_eq_true]at aa;refine aa _ ?_;unfold opAt;rw[r_,o_ s];exact P_ s
    unfold wpOpIn;rw[W];simp only;rw[A.yf];unfold R at C
    rcases C with ⟨I,V⟩|⟨I,⟨V,v,q3,q4⟩|⟨V,q3⟩⟩
    ·rw[b_ (by rw[I]; decide)]; exact⟨fun _ _=>trivial,U _ _ V⟩
    ·rw[d_ I];refine Out.wpIn (K:=fun v' w'=>v'=v/\w'=w) A ab (.inl ⟨v,w,q3 w (.inr (.inr rfl)),rfl,rfl⟩) ?_;rintro v' w' ⟨rfl,rfl⟩;exact U _ _ q4
    ·rw[d_ I];exact Out.wpIn A ab q3 fun v w' hk=>U v w' hk.2
theorem W0.agm{f:Nat->Value}{w:World}{id:Nat}(l:List Nat)(cs:List Nat)(S:World->World->Prop)(o : ∀ w,S w w)(p : ∀ a b c,S a b->S b c->S a c)(fG:List (Nat × Nat × List Nat))(x:P.follows .mixedOrders=true)(z:lH n ops=true)(B:Region.noSelect ops.toArray=true)(g:zG ops l=true)(A:vM ops cs fG l=true)
 (h : ∀ j,Below w.heap.size w j->j.heap.size=w.heap.size->R P n ops cs S (fun e f w=>Q e f ds w) l f j) (y:ops.all jP=true:=by rfl):W0 ro m P n (.region id ops.toArray true) Q f ds w:=fun a q r=>by
 refine wpIn_region_any x ?_;unfold zG at g;rw[R_,R_,R_,List.all_eq_true,List.all_eq_true]at g;obtain⟨⟨⟨C,D⟩,p3⟩,p4⟩:=g;have v:=A_ C;have E:l.Nodup:=h_ p3;have:=R.agl (ro:=ro) (m:=m) (ds:=ds) (P:=P) (Q:=Q) (fG:=fG) z B y o p ops.length l (Array.replicate ops.length false) a f { w with drawn:=w.drawn+1 } v (by simp) (Jh.start _ _ _) (fun i=>by
  have s : ∀ i,(Array.replicate ops.length false).getD i false=false:=fun i=>getD_replicate_false _ _;constructor
  ·intro d; exact⟨by simpa [Nat.blt_eq] using D i d,s i⟩
  ·intro d;obtain⟨k,t,u⟩:=List.any_eq_true.1 (p4 i (by simpa using d.1));rw[A_ u]; exact t) E (vN A) q r (h { w with drawn:=w.drawn+1 } (Below.refl _ _).drew rfl)
 simpa using this
end
end Fx
namespace ZE
def Ou{b:Type}(J:b->World->Prop):Prop := ∀ s W a,J s W->W.grownBy a none->J s a
def acK{d:Type}(F:Fence)(n:Nat)(P:Program)(g:Nat)(lb:Array Value)(j:d->Array Value)(i:World->World->Prop)(S:List d->Prop)(N:Nat)(h:World->Prop):Prop :=
 ∀(l:Nat) (J:List d->World->Prop) (W:World),h W->Ou J ->
  (∀ c x b,J c b->c.length<N->YieldAt F (n-1) P l (j x) b fun e a=>e = .returned (.bool true)/\J (c ++ [x]) a/\i b a) ->
  J [] W ->
  CallsIn F n P g (#[.func (.yield l) #[] #[]]++lb) W fun e a=>(∃ v,e = .returned v) /\ ∃ f,S f/\J f a
def MV{c:Type}(B:Nat)(I:c->World->Prop):Prop :=
 ∀ s W a b,I s W->W.grownBy a b->(∀ r,b=some r->B<=r /\ ∃ o:Obj,W.heap[r]? = some o/\o.isCells=false)->I s a
variable {F:Fence} {n:Nat} {P:Program}
theorem MV.putObj{a:Type}{B:Nat}{I:a->World->Prop}(h:MV B I){s:a}{W:World}{l:Nat}{o:Obj}(o':Obj)(f:I s W)(b:B<=l)(c:W.heap[l]? = some o)(d:o.isCells=false):I s (W.putObj l o') :=
 h s W _ (some l) f (grownBy_putObj' W l o') (fun r e=>by cases e; exact⟨b,o,c,d⟩)
theorem MV.alloc{a:Type}{B:Nat}{I:a->World->Prop}(h:MV B I){s:a}{W:World}(o:Obj)(b:I s W):I s (W.alloc o) :=
 h s W _ none b (World.grownBy_alloc W o none) (fun r e=>by cases e)
def KeepsFrom(B:Nat)(W a:World):Prop:=W.heap.size<=a.heap.size /\ ∀ k,B<=k->k<W.heap.size->a.heap[k]? = W.heap[k]?
def agn{a:Type}(B:Nat)(b:World->World->Prop)(I:List a->World->Prop)(c:List a)(W:World):Exit->Act->World->Prop
 | .normal,_,W'=>KeepsFrom B W W'/\b W W'/\I c W'
 | _,_,_=>False
theorem Du{α:Type}{g:Operand}{ps:Array Tmp}{assign body:Code}{Q:Exit->Act->World->Prop}{a:Act}{w:World}
 (hro:F.round=none) (h1:1<=n) {gf:Nat} {lb:Array Value} (hg:a.eval g = .func (.func gf) #[] lb) (hFg:F.fn gf) (eg : ∀ args w,(callFunc gf args).run P w = .ok (.enter gf args) w)
 {encs:α->Array Value} {Kp:World->World->Prop} {S:List α->Prop} {N:Nat} {Ip:World->Prop} (hseq:acK F (n-1) P gf lb encs Kp S N Ip)
 (hIp:Ip w) (LW : ∀ W o,w.heap.size<=W.heap.size->Ip W->Ip (W.alloc o))
 (hKt : ∀ {A B C:World},Kp A B->Kp B C->Kp A C) (hKb : ∀(W:World) (l:Nat) (o o':Obj),w.heap.size<=l->W.heap[l]? = some o->o.isCells=false->Kp W (W.putObj l o')) (hps : ∀ x,(encs x).size=ps.size)
 (I:List α->World->Prop) (hI:MV w.heap.size I) (h0:I [] w) (A₁:α->Act->Prop)
 (hassign : ∀(l:Nat) (x:α) (W:World),assign.wpIn (F.inRound l) (n-1-1) P (Exit.then (fun a' W'=>A₁ x a'/\W'=W) (fun _ _ _=>False)) { tmps:=(ps.zip (encs x)).foldl (fun t (p,v)=>t.setIfInBounds p v) a.tmps,defers := [] } W)
 (hbody : ∀(l:Nat) (pre:List α) (x:α) (W:World) (a':Act),A₁ x a'->I pre W->pre.length<N->w.heap.size<=W.heap.size->body.wpIn (F.inRound l) (n-1-1) P (agn w.heap.size Kp I (pre ++ [x]) W) a' W)
 (hdone : ∀(D:Nat) (xs:List α) (W:World),w.heap.size<=D->S xs->I xs W->W.heap[D]? = some (.deferred (some []))->Q .normal { a with defers := { target := .collected D,args := #[] }::a.defers } W) :
 (Code.rangeFunc g ps assign body).wpIn F n P Q a w:=by
 refine wpIn_rangeFunc ?_;intro fn hfn;rw[hro];obtain⟨rec,hrec⟩ : ∃ rec:LoopState->Option Code->Loop,rec=fun st pe => { state:=st,pending:=pe,fn,tmps:=a.tmps,params:=ps,assign,body,defers:=w.heap.size }:=⟨_,rfl⟩;obtain⟨W1,hW1⟩ : ∃ W1,(w.alloc (.deferred (some []))).alloc (.loop (rec .ready none))=W1:=⟨_,rfl⟩;have hL1:W1.heap[w.heap.size+1]? = some (.loop (rec .ready none)):=by
  rw[<- hW1]; have:=World.alloc_heap_new (w.alloc (.deferred (some []))) (.loop (rec .ready none)); rwa [World.size_alloc]at this
 have hK1:W1.heap[w.heap.size]? = some (.deferred (some [])):=by
  rw[<- hW1]; exact(Below.heap_alloc _ _ _ (by simp)).trans (World.alloc_heap_new w _)
 have hI1:I [] W1:=by rw[<- hW1]; exact hI.alloc _ (hI.alloc _ h0)
 have hp1:Ip W1:=by rw[<- hW1]; exact LW _ _ (by simp) (LW _ _ (z_ _) hIp)
 refine⟨w.heap.size+1,[{ target := .collected w.heap.size,args := #[] }],W1,{ target := .fn (.func gf) lb,args := #[.func (.yield (w.heap.size+1)) #[] #[]] },W1,gf,
  #[.func (.yield (w.heap.size+1)) #[] #[]]++lb,W1,?_,?_,?_,?_,fun _=>h1,?_⟩
 ·rw[<- hW1,hrec]; exact run_enterLoop_outer _ _ _ _ _
 ·simp only[resolve,hg];simp[go_sem]
 ·intro f' hf'; simp[Target.leads]at hf'; subst hf'; exact hFg
 ·simp[invoke,go_sem,eg]
 refine(hseq (w.heap.size+1)
  (fun pre W=>I pre W/\W.heap[w.heap.size+1]? = some (.loop (rec .ready none))/\W.heap[w.heap.size]? = some (.deferred (some [])))
  W1 hp1
  (fun s A B hs hg'=>⟨hI s A B none hs.1 hg' (fun r e=>nomatch e),(hg'.block _ (Array.getElem?_eq_some_iff.1 hs.2.1).1 (fun e=>nomatch e)).trans hs.2.1,(hg'.block _ (Array.getElem?_eq_some_iff.1 hs.2.2).1 (fun e=>nomatch e)).trans hs.2.2⟩)
  ?_ ⟨hI1,hL1,hK1⟩).mono ?_
 ·-- one round
  rintro pre x W ⟨hi,hl,hk⟩ hlen;have hlt:w.heap.size+1<W.heap.size:=(Array.getElem?_eq_some_iff.1 hl).1;have hy:=run_yield (P:=P) (args:=encs x) hl (by rw[hrec]; exact hps x);rw[hrec]at hy;refine⟨fn,_,assign,body,hy,roundIn_of_wpIn hfn (wpIn_mono (hassign _ x W) ?_)⟩;rintro e1 a1 w1 hq1
  cases e1 with
  | exit id=>exact hq1.elim
  | goto t=>exact hq1.elim
  | ret=>exact hq1.elim
  | panic ch=>exact hq1.elim
  | outgrown=>exact hq1.elim
  | normal =>
  obtain⟨hA1,ew⟩:=hq1;rw[ew];refine⟨_,run_beginRound hl (by rw[hrec]),?_⟩;have hl2:(W.putObj (w.heap.size+1) (.loop { rec .ready none with state := .busy })).heap[w.heap.size+1]? = some (.loop { rec .ready none with state := .busy }):=World.putObj_heap_same hlt;have hk2:(W.putObj (w.heap.size+1) (.loop { rec .ready none with state := .busy })).heap[w.heap.size]? = some (.deferred (some [])):=(World.putObj_heap_other (by omega)).trans hk;have hw2:Kp W (W.putObj (w.heap.size+1) (.loop { rec .ready none with state := .busy })):=hKb _ _ _ _ (by omega) hl rfl;refine wpIn_mono (hbody _ pre x _ a1 hA1 (hI.putObj _ hi (by omega) hl rfl) hlen (by simp; omega)) ?_;rintro e a3 W3 hp
  cases e with
  | normal =>
    obtain⟨hk3,hkp3,hi3⟩:=hp;have hl3:=(hk3.2 _ (by omega) (Array.getElem?_eq_some_iff.1 hl2).1).trans hl2;have amU:=(hk3.2 _ (by omega) (Array.getElem?_eq_some_iff.1 hk2).1).trans hk2;have hr:=run_endRound (P:=P) none hl3;rw[hrec]at hr hl3;refine⟨_,_,hr,rfl,⟨hI.putObj _ hi3 (by omega) hl3 rfl,?_,(World.putObj_heap_other (by omega)).trans amU⟩,hKt (hKt hw2 hkp3) (hKb _ _ _ _ (by omega) hl3 rfl)⟩;rw[hrec]; exact World.putObj_heap_same (Array.getElem?_eq_some_iff.1 hl3).1
  | ret=>exact hp.elim
  | exit id=>exact hp.elim
  | goto t=>exact hp.elim
  | panic ch=>exact hp.elim
  | outgrown=>exact hp.elim
 rintro e W2 ⟨⟨v,rfl⟩,xs,hS,hi,hl,hk⟩;exact⟨none,_,by have:=run_endLoop (P:=P) hl (by rw[hrec]; simp); rw[hrec]at this; exact this,hdone _ xs _ (z_ _) hS (hI.putObj _ hi (by omega) hl rfl) ((World.putObj_heap_other (by omega)).trans hk)⟩
end ZE
namespace Fx
theorem KH{a:Act}{n p q:Nat}{u v:Value}{f:Nat->Value}(h:Af a n f)(c:p<n)(g:q<n):Af { tmps:=(#[p,q].zip #[u,v]).foldl (fun t (p,v)=>t.setIfInBounds p v) a.tmps,defers := [] } n (put (put f (some p) u) (some q) v):=by
 have b:=(h.put (d:=some p) (by simpa [inn,Nat.blt_eq] using c) u).put (d:=some q) (by simpa [inn,Nat.blt_eq] using g) v;have e:(#[p,q].zip #[u,v]).foldl (fun t (p,v)=>t.setIfInBounds p v) a.tmps=((a.put (some p) u).put (some q) v).tmps:=by simp[Array.zip,Act.put]
 rw[e]; exact⟨b.size,b.get⟩
theorem W0.acL{P:Program}{n m:Nat}{Q:xX}{f:Nat->Value}{ds:List Deferred}{w:World}{c:Type}{g:Operand}{p q:Tmp}{E G:Code}{gf:Nat}{lb:Array Value}(h1:1<=m)(hg:ev f g = .func (.func gf) #[] lb)(J : ∀ z w,(callFunc gf z).run P w = .ok (.enter gf z) w)
 {eu ev2:c->Value} {d:World->World->Prop} {S:List c->Prop} {N:Nat} {s:World->Prop} (hseq:ZE.acK (FR none) (m-1) P gf lb (fun x => #[eu x,ev2 x]) d S N s)
 (R:s w) (T : ∀ W o,w.heap.size<=W.heap.size->s W->s (W.alloc o)) (V : ∀ {A B C:World},d A B->d B C->d A C) (U : ∀(W:World) (l:Nat) (o o':Obj),w.heap.size<=l->W.heap[l]? = some o->o.isCells=false->d W (W.putObj l o')) (hp:p<n) (hq:q<n)
 (I:List c->World->Prop) (O:ZE.MV w.heap.size I) (L:I [] w) (A:c->(Nat->Value)->Prop)
 (X : ∀(l:Nat) (x:c) (W:World),W0 (some l) (m-1-1) P n E (fun e b H h=>e = .normal/\H = []/\A x b/\h=W) (put (put f (some p) (eu x)) (some q) (ev2 x)) [] W)
 (Y : ∀(l:Nat) (r:List c) (x:c) (W:World) (b:Nat->Value),A x b->I r W->r.length<N->w.heap.size<=W.heap.size->W0 (some l) (m-1-1) P n G (fun e K H h=>e = .normal/\ZE.KeepsFrom w.heap.size W h/\d W h/\I (r ++ [x]) h) b [] W)
 (aa : ∀(D:Nat) (u:List c) (W:World),w.heap.size<=D->S u->I u W->W.heap[D]? = some (.deferred (some []))->Q .normal f ({ target := .collected D,args := #[] }::ds) W):W0 none m P n (.rangeFunc g #[p,q] E G) Q f ds w:=fun a t Z=>by
 refine ZE.Du (F:=FR none) rfl h1 (by rw[t.ev]; exact hg) trivial J hseq R T V U (fun _=>rfl) I O L (fun x i => ∃ b,Af i n b/\i.defers = []/\A x b) ?_ ?_ ?_
 ·intro l x W;refine wpIn_mono (X l x W _ (KH t hp hq) rfl) ?_;rintro e i w' ⟨b,y,rfl,j,k,rfl⟩;exact⟨⟨b,y,j,k⟩,rfl⟩
 ·rintro l r x W i ⟨b,y,j,k⟩ hi hl hs;refine wpIn_mono (Y l r x W b k hi hl hs i y j) ?_;rintro e a'' w' ⟨K,aun,rfl,v⟩;exact v
 ·intro D u W j k v M;refine⟨f,⟨t.size,t.get⟩,?_⟩;show Q .normal f (_::a.defers) W;rw[Z]; exact aa D u W j k v M
end Fx
end Go.Proofs.YtahbiajdgealnaaGreatDoor
namespace Go.Proofs.YtahbiajdgealnaaGreatDoor
open Go.RowKit Rt
open Fx (fD eP fJ bD gP gM dD dS gD jB eX jC fU jD je Lv sN Ln Ws Qv Wl Rp Wc Qs Wr Sb Lk Wk rC rV sR Rs Rn Rd Rk Wb Wx Wo Dy Wt qW Qn FM Bc yN zh C9 Dw qo gY zi ng uq uo vO wZ zf Dk Ap rv aC aS bI aM ev cK Stp dH aW flat dA Mp fq aY gX iU bF down iN jO iW ou bK bJ cells_one iP bV xk unseen jK iB bY dM bM bQ cu cB gJ gT qb gQ)
set_option maxRecDepth 20000
namespace Rt
structure Ov(sb:Nat)(v:Value)(W W':World):Prop where
 size:W.heap.size<=W'.heap.size
 b:W'.heap[sb]? = W.heap[sb]?
 g : ∀ g,v.ownBlock=some g->W'.heap[g]? = W.heap[g]?
theorem Ov.trans{a:Nat}{v:Value}{A B C:World}(h:Ov a v A B)(k:Ov a v B C):Ov a v A C:=⟨m_ h.size k.size,k.b.trans h.b,fun g c=>(k.g g c).trans (h.g g c)⟩
theorem Ov.put{a B:Nat}{v:Value}(e:a<B)(c : ∀ g,v.ownBlock=some g->g<B)(W:World)(l:Nat)(o o':Obj)(d:B<=l):Ov a v W (W.putObj l o'):=⟨by simp,World.putObj_heap_other (by omega),fun g b=>World.putObj_heap_other (by have:=c g b; omega)⟩
theorem Ov.Bp{a b:Nat}{v:Value}{W c:World}(h:Stp b W c)(h1:a<W.heap.size)(f:a≠b)(e : ∀ g,v.ownBlock=some g->g<W.heap.size/\g≠b):Ov a v W c:=⟨h.size,h.block a h1 f,fun g d=>h.block g (e g d).1 (e g d).2⟩
theorem acM{q n c s:Nat}{a:Option Addr}{x:Nat->Value}{W d:World}(l:ou W a n s x)(r:0<s)(k:Ov q (.slice a n c) W d):ou d a n s x:=fun h=>by
 obtain⟨b,p,e,m⟩:=l h;refine⟨b,p,e,fun i o => ?_⟩;have f:=m i o;have j:=k.g b (by rw[e]; rfl);unfold World.cell? at f ⊢;rw[j]; exact f
def BwP(b:Nat)(a:Option Addr)(n c:Nat)(l:List Int)(W:World):Prop:=aS W b 1 (fun _ => .slice a n c) 63/\ou W a n 1 (xD l)
theorem BwP.alloc{f n c:Nat}{a:Option Addr}{l:List Int}{W:World}(h:BwP f a n c l W)(o:Obj):BwP f a n c l (W.alloc o) :=
 ⟨(Below.heap_alloc W o f h.1.lt).trans h.1,fun g=>by
   obtain⟨b,p,e,k⟩:=h.2 g;refine⟨b,p,e,fun i m => ?_⟩;have d:=k i m;have j:=Below.heap_alloc W o b (block_lt_of_cell d);unfold World.cell? at d ⊢;rw[j]; exact d⟩
theorem UK{h f B:Nat}{c:World}{F:List Nat->dK}(h1:h<c.heap.size)(j:f<c.heap.size):ZE.MV c.heap.size (fun(n:List Nat) W=>rD W B h f (F n)/\Stp f c W):=fun s W i o a b m=>by
 have g : ∀ k,k<c.heap.size->i.heap[k]? = W.heap[k]? := fun k d=>b.block k (n_ d a.2.size) fun e=>by
  have:=(m k e.symm).1; omega
 exact⟨rD.keep a.1 (g h h1) (g f j),⟨b.os.trans a.2.os,b.tape.trans a.2.tape,b.output.trans a.2.output,m_ a.2.size b.size,fun k d l=>(g k d).trans (a.2.block k d l)⟩⟩
theorem XW{w:World}{B E s n b m:Nat}{v:Value}{x:Nat->Value}{k:Nat->Int}{y:Nat->Value}(a:Fx.Own w B E s v n x)(d:Mp w b m k y){g:Nat}(c:v.ownBlock=some g):g<w.heap.size/\g≠b:=⟨(a.ge c).2,fun e=>d.qY (by rw[<- e]; exact a.ty c)⟩
theorem acN{T:dK}{k:Int}(h : ∀ i,i<T.n->T.x i≠k):T.par k=0:=by
 have : ∀ n,(∀ i,i<n->T.x i≠k)->ig T.x T.p n k=0:=fun n=>by
  induction n with
  | zero=>exact fun _=>rfl
  | succ n ih=>exact fun h=>by unfold ig; rw[b_ (h n (by omega))]; exact ih fun i a=>h i (by omega)
 exact this _ h
structure JB(J:List Nat->World->Prop)(pre:List Nat)(w:World):Prop where
 ab:ZE.Ou J
 j:J pre w
end Rt
theorem amW(a:Option Addr)(n c:Nat)(w:World) :
 Calls Tryz.prog 185 #[.slice a (n) (c)] w fun e w' => ∃ d,e = .returned (.func (.func 196) #[] #[(pt d)])/\w.heap.size<=d/\aS w' d 1 (fun _ => .slice a n c) 63/\Below w.heap.size w w':=by
 refine Kent Tryz.func185 4 ?_;refine ay<|zH (.slice a (n) (c)) fun b l h f j m => ?_;have g:=bH j.old (Below.refl w.heap.size w);have i:=iE h;have k:=f.lt;refine av (.nilFunc)<|aD<|ay<|Lv (.func (.func 196) #[] #[(pt b)]) (Fx.ny (us := []) (vs := [(pt b)]) rfl rfl rfl)<|av (.func (.func 196) #[] #[(pt b)])<|aD<|Wr<|aK (.func (.func 196) #[] #[(pt b)]) ?_;exact⟨b,rfl,i,f,g⟩
theorem agp(J:List Nat->World->Prop)(h d c:Nat)(a:Option Addr)(l:List Int)(w:World)(o:aS w d 1 (fun _ => .slice a (l.length) (c)) 63)(I:ou w a l.length 1 (xD l))(n:JB J [] w)(U:l.length<=1000)
 (L : ∀ r x m,J r m->r.length<l.length->Go.YieldAt (Fx.FR none) 1 Tryz.prog h #[au (x:Nat),aF (l.getD x 0)] m fun e y=>e = .returned (.bool true)/\J (r ++ [x]) y/\Ov d (.slice a l.length c) m y) :
  Calls Tryz.prog 196 #[.func (.yield h) #[] #[],(pt d)] w fun e w'=>(∃ v,e = .returned v) /\ ∃ F,F=FQ l.length l.length/\J F w':=by
 have V:=o.lt;have n:JB J (FQ l.length (l.length-l.length)) w:=by rw[Nat.sub_self]; exact n
 refine Kent Tryz.func196 19 ?_;refine ay<|Lv (.slice a (l.length) (c)) (aN o.aI 0)<|av (au l.length)<|Lv (au ((l.length:Int)-1)) gu<|av (au ((l.length:Int)-1))<|aD<|Wb<|Wo (fun f u => ∃ k:Nat,k<=l.length/\f 0 = .func (.yield h) #[] #[]/\f 1=(pt d)/\f 3=au ((k:Int)-1)/\aS u d 1 (fun _ => .slice a (l.length) (c)) 63/\ou u a l.length 1 (xD l)/\JB J (FQ l.length (l.length-k)) u) (fun f _=>(intOf (f 3)+1).toNat) ⟨l.length,(z_ _),(by rfl),(by rfl),Fx.ic,o,I,n⟩ ?_;rintro S X ⟨k,T,A,B,g,D,E,p⟩;refine Ws<|ay<|aX g ?_;by_cases z:0<=((k:Int)-1)
 ·refine Lv aH (ko z)<|aD<|aO<|Wk<|sN<|Ws<|Wb<|Ws<|Fx.W.Zb 2<|Fx.Ly.v (.func (.yield h) #[] #[]) (fD rfl A) ?_;refine Fx.Ly.v (au ((k:Int)-1)) (fD rfl g) ?_;refine Fx.Ly.v (.slice a (l.length) (c)) (bD (x:=fun _ => .slice a (l.length) (c)) rfl B (by kernel_rfl) D.aI (i:=0) (by omega) (by omega) rfl) ?_;refine Fx.Ly.v (au ((k:Int)-1)) (fD rfl g) ?_;obtain⟨G,Q,H,M⟩:=E (by omega);refine Fx.Ly.v (pf G (k+Q-1)) (dS rfl (rfl.trans (K_ (fun q=>Value.slice q (l.length) (c)) H)) rfl Tryz.underlying63 (s:=1) (by kernel_rfl) (by omega) (by omega) (by omega)) ?_;refine Fx.Ly.v (aF (l.getD (k-1) 0)) (bD (x:=xD l) rfl rfl (by kernel_rfl) M (i:=k-1) (by omega) (by omega) rfl) ?_;refine Fx.Ly.yield (l:=h) (args := [au ((k:Int)-1),aF (l.getD (k-1) 0)]) rfl rfl rfl (Fx.args2 rfl rfl) rfl (by have:=L (FQ l.length (l.length-k)) (k-1) _ p.j (by rw[Ot]; omega); rw[show((k-1:Nat):Int)=(k:Int)-1 by omega]at this; exact this) ?_;rintro R t ⟨rfl,K,C⟩;refine⟨.bool true,rfl,?_⟩;have N:aS t d 1 (fun _ => .slice a (l.length) (c)) 63:=C.b.trans D;have O:ou t a l.length 1 (xD l):=acM E (by decide) C;have P:JB J (FQ l.length (l.length-(k-1))) t:=⟨p.ab,by rw[show l.length-(k-1)=(l.length-k)+1 by omega]; unfold FQ; rw[show l.length-1-(l.length-k)=k-1 by omega]; exact K⟩;refine Fx.Ly.v (.bool false) (Fx.QV rfl rfl) ?_;refine Fx.Ly.nil ?_;refine sN<|aL<|Wk<|bQ<|sN<|Wl<|aX g<|Lv (au ((k:Int)-2)) gu<|av (au ((k:Int)-2))<|Ln<|gT ⟨k-1,(by omega),A,B,Fx.ic,N,O,P⟩ ?_;show(intOf (au ((k:Int)-2))+1).toNat<_;simp only[g,intOf]; omega
 refine Lv aG (jU z) (aD (aL (Wx (cu (gJ (cB (⟨.tuple #[],iN Tryz.results196,?_⟩)))))));exact⟨⟨_,rfl⟩,_,rfl,by have:=p.j; rw[show l.length-k=l.length by omega]at this; exact this⟩
theorem acO(b c:Nat)(a:Option Addr)(l:List Int)(i:l.length<=1000) :
 ZE.acK (Fx.FR none) 2 Tryz.prog 196 #[(pt b)] (fun x:Nat => #[au (x:Int),aF (l.getD x 0)]) (Ov b (.slice a l.length c)) (fun k=>k=FQ l.length l.length) l.length (BwP b a l.length c l) :=
 fun j J W ⟨h,e⟩ g f d=>callsIn_wide.2 (agp J j b c a l W h e ⟨g,d⟩ i f)
namespace Rt
theorem Ow{l:List Int}{T:dK}(b:T.ok)(h : ∀ k,k∈l->T.has k=true)(x:Nat):0<=l.getD x 0/\l.getD x 0<=18446744073709551615:=by
 by_cases a:x<l.length
 ·have d:l.getD x 0∈l:=by rw[r_,o_ a]; exact P_ a
  obtain⟨i,c,e⟩:=gG (h _ d);rw[<- e]; exact UE b c
 rw[r_,List.getElem?_eq_none (by omega)]; decide
theorem Ox{l:List Int}{T:dK}{pa:Int}(a:T.ok)(e:l=T.path pa)(x:Nat):0<=l.getD x 0/\l.getD x 0<=18446744073709551615:=Ow a (fun k d=>by
 obtain⟨i,b,c⟩:=List.getElem_of_mem d;have:=dK.MS a e b;rw[r_,o_ b]at this;rw[<- c]; exact this) x
theorem XY{l:List Int}{T:dK}(a:T.ok)(h : ∀ k,k∈l<->T.has k=true)(x:Nat):0<=l.getD x 0/\l.getD x 0<=18446744073709551615:=Ow a (fun k b=>(h k).1 b) x
end Rt
theorem acP(m:dP)(lp B:Nat)(w:World)(h:lD w B lp m)(id pa:Int)(hid:0<=id/\id<=18446744073709551615) :
 Calls Tryz.prog 170 #[(pt lp),aF id,aF pa] w fun e w'=>e = .returned (au (m.T.err id pa))/\Below w.heap.size w w':=by
 have hC:=h.c;have hT:=h.t;have hP:=h.p;have hR:=h.r;have hG:=h.g;have hA:=h.a;have hN:=h.ne;have lC:=h.c.lt;have lT:=h.t.lt;have lP:=h.p.lt;have lR:=h.r.lt;have lG:=h.g.lt;have lA:=h.a.lt;refine Fx.acJ 3 Tryz.func170 rfl (n:=55) rfl (by rfl) ?_;refine Fx.W0.seq<|Fx.W0.list<|zH (pt lp) fun g1 w1 mD m1 s1 z1 => ?_;have⟨m2,m3,m4,m5,m6,m7,b1⟩:=jo s1.old hC hT hP hR hG hA (Below.refl w.heap.size w);have uG:=iE mD;have⟨nI,zB,wY,AZ,zx⟩:=Df mD hC.lt hP.lt hR.lt hG.lt hA.lt;have wO:=m1.lt;refine av (au 0)<|Ln<|Fx.qD<|Fx.W0.seq<|Fx.W0.list<|lS (Zp _) ?_;rintro e9 w2 ⟨v,j,u,hg1,m8,hb1⟩;refine⟨_,u,?_⟩;clear u;have nem.aqP:m.mb≠j:=t_ (n_ m3.lt hg1);have⟨m9,m10,m11,m12,m13,m14,m15,b2⟩:=lu hb1 m2 m3 m4 m5 m6 m7 m1 b1;have m16:rD w2 (w.heap.size) v j dK.zero:=m8.weak b1.size;clear m8 hg1;refine xg 1 (fun _ => .pointer none) fun L w3 yA m17 s3 z2 => ?_;have⟨m18,m19,m24,ni,b3⟩:=vP s3.old m9 m10 m15 m16 b2;have sG:=jI yA b2.size;have⟨acQ,acR,amX,amY,amZ,ana⟩:=Ii yA m9.lt m11.lt m12.lt m13.lt m14.lt m15.lt;have Bg:=m17.lt;refine jm m17 0 (pt v) fun w4 nZ s4 z3 => ?_;have oz:aS w4 L 1 (fun _=>(pt v)) 98:=dM nZ;have gK:=gY s4 m17.ty;have⟨og,oC,oN,pW⟩:=JA gK m18 m19 m24 ni;have b4:=s4.below b3 b3.size (by omega);refine Ln<|Fx.qD<|Fx.W0.seq<|Fx.W0.list<|Lv (pt lp) (aN oN.aI 0)<|av (pt lp)<|av (pf lp 18)<|Lv (pt m.tp) (aN og.aI 18)<|av (aF pa)<|lS (Iq pa oC) ?_;rintro e9 w5 ⟨F,G,u,qx,hb2⟩;refine⟨_,u,?_⟩;clear u;have⟨nu,rX,qK,b5⟩:=oZ hb2 oN pW oz b4;obtain⟨l,J⟩ : ∃ q,q=dK.path m.T pa:=⟨_,rfl⟩;rw[<- J]at qx ⊢;have hl4:l.length<=4:=by rw[J]; exact dK.yH
 refine av (.slice F (l.length) (G))<|Ln<|Fx.qD<|Fx.W0.seq<|Fx.W0.seq<|Fx.W0.list<|av (.slice F (l.length) (G))<|lS (amW F l.length G _) ?_;rintro e9 w6 ⟨sb1,u,hg2,nU,hb3⟩;refine⟨_,u,?_⟩;clear u;have⟨uh,E,wR,tL,U⟩:=vP hb3 nu rX qK qx b5;refine Ln<|Fx.qD<|Fx.W0.block ?_;have agq:g1≠j:=E.map.ne uh.ty;have auo:=uh.lt;have agr:L≠j:=E.map.ne wR.ty;have aup:=wR.lt;have ZF:sb1≠j:=E.map.ne nU.ty;have ags:=nU.lt;have hgm:=E.gm;have ltm:=E.lt;have ltt:=E.blk.lt;have K : ∀ g,(.slice F (l.length) (G):Value).ownBlock=some g->g<w6.heap.size/\g≠j:=fun g y=>XW tL E.map y;refine Fx.W0.acL (gf:=196) (lb := #[(pt sb1)]) (eu:=fun x:Nat=>au (x:Int)) (ev2:=fun x=>aF (l.getD x 0)) (by decide) rfl (fun args w=>jQ Tryz.func196 (by kernel_rfl) rfl args w) (acO sb1 G F l (by omega)) ⟨nU,Fx.abh tL⟩ (fun W o _ hi=>hi.alloc o) (fun h k=>h.trans k) (fun W l o o' J _ _=>Ov.put ags (fun g y=>(K g y).1) W l o o' J) (by decide) (by decide) (fun xs W=>rD W (w.heap.size) v j (Lr m.T l xs)/\Stp j w6 W) (UK ltt ltm) ⟨E,ng _ _⟩ (fun x f=>f 3=(pt g1)/\f 7=(pt L)/\f 10=aF (l.getD x 0)) ?_ ?_ ?_
 ·intro ly x W;exact Fx.W0.list (Lv (aF (l.getD x 0)) (eP rfl rfl) (Ln ⟨rfl,rfl,⟨rfl,rfl,rfl⟩,rfl⟩))
 ·rintro ly pre x W f9 ⟨q3,q7,q10⟩ ⟨hT2,s⟩ hpl hWs;have H:Below w.heap.size w W:=s.below U U.size hgm;have C:=h.up H;have hPW:=C.p;have M:=C.c;have N:=C.t;have Q:=uh.cZ s agq;have agt:=Q.lt;have R:=wR.cZ s agr;have agu:=R.lt;have lWm:j<W.heap.size:=n_ ltm s.size;have lWt:w6.heap.size<=W.heap.size:=s.size;have lCW:=M.lt;have lPW:=hPW.lt;have lTW:=N.lt;have lh0:=h.t.lt;have lh1:=h.p.lt;refine Fx.W0.block ?_;refine Fx.W0.agm [1,6,0,2,3,4,5,7,8] [4,0,4,0,0,4,0,4,3] Fx.Mk uq Fx.Mk.trans (fG := [(8,0,[0]),(8,2,[7,5,4,3,2]),(8,5,[7,5]),(8,7,[7])]) (by kernel_rfl) (by kernel_rfl) (by kernel_rfl) (by kernel_rfl) (by kernel_rfl) fun qI dY iF => ?_;have s7:Stp W.heap.size W qI:=Sb dY;have⟨rY,rz,wS,pG,uJ,nS⟩:=uy dY M hPW N Q R hT2;have b7:=(ng j W).then s7 (.inr (ng j W).size);refine bW q10<|bW q10<|Rs (pt v) (aN uJ.aI 0 (ha:=q7)) ?_;refine Rs (pt lp) (aN pG.aI 0 (ha:=q3)) ?_;refine bf (pt lp)<|bf (pf lp 19)<|Rs (.map (some m.pb)) (aN rY.aI 19) ?_
  rcases Fx.qZ m.T.x m.T.n (l.getD x 0)with ⟨UL,CO,CP⟩|jk
  ·refine Rs (aF (m.T.p UL)) (Fx.vQ (z:=aF 0) rfl rfl rfl rz Tryz.underlying100 Tryz.underlying28 (by rfl) CO CP rfl) ?_;refine gF<|eB (JY (l.getD x 0) (m.T.p UL) nS (Ox h.t.inv J x)) _ rfl ?_;rintro w7 ⟨sw,s8⟩;have O:=nS.Bd s8;have m64:=rY.dQ O;have vV:=rz.dQ O (by omega);have vE:=wS.dQ O (by omega);have vW:=pG.dQ O;have vX:=uJ.dQ O;have V:=b7.then s8 (.inl rfl);refine Ln<|Rn<|Fx.KG ?_;have ep:m.T.par (l.getD x 0)=m.T.p UL:=Aq C.t.inv.inj CO CP;refine⟨rfl,⟨V.size,fun q hq hq2=>V.block q hq2 (by omega)⟩,Ov.Bp V (by omega) ZF (fun g y=>⟨n_ (K g y).1 lWt,(K g y).2⟩),?_,s.then V (.inl rfl)⟩;rw[Fh,ep]; exact sw
  refine Rs (aF 0) (Fx.Ny (z:=aF 0) rfl rfl rfl rz Tryz.underlying100 Tryz.underlying28 (by rfl) jk) ?_;refine gF<|eB (JY (l.getD x 0) 0 nS (Ox h.t.inv J x)) _ rfl ?_;rintro w8 ⟨qz,s9⟩;have P:=nS.Bd s9;have sD:=rY.dQ P;have sU:=rz.dQ P (by omega);have sF:=wS.dQ P (by omega);have sV:=pG.dQ P;have xu:=uJ.dQ P;have X:=b7.then s9 (.inl rfl);refine Ln<|Rn<|Fx.KG ?_;have ep:m.T.par (l.getD x 0)=0:=acN jk;refine⟨rfl,⟨X.size,fun q hq hq2=>X.block q hq2 (by omega)⟩,Ov.Bp X (by omega) ZF (fun g y=>⟨n_ (K g y).1 lWt,(K g y).2⟩),?_,s.then X (.inl rfl)⟩;rw[Fh,ep]; exact qz
 rintro D xs W hD rfl ⟨hT2,s⟩ hK;have H:Below w.heap.size w W:=s.below U U.size hgm;have C:=h.up H;have hPW:=C.p;have M:=C.c;have N:=C.t;have Q:=uh.cZ s agq;have agt:=Q.lt;have R:=wR.cZ s agr;have agu:=R.lt;have lWm:j<W.heap.size:=n_ ltm s.size;have lWt:w6.heap.size<=W.heap.size:=s.size;have lCW:=M.lt;have lPW:=hPW.lt;have lTW:=N.lt;have lh0:=h.t.lt;have lh1:=h.p.lt;have lDW:=(Array.getElem?_eq_some_iff.1 hK).1;have oW:=tL.cZ s (fun e=>(K _ e).2 rfl);refine Fx.KG<|Fx.qD<|Fx.W0.seq<|Fx.W0.seq<|Fx.W0.list<|Lv (pt lp) (aN Q.aI 0) ?_;refine av (pt lp)<|av (pf lp 18)<|Lv (pt m.tp) (aN M.aI 18)<|lS (SC N) ?_;rintro e9 w9 ⟨ZG,A,d,u,uK,hq1,agv,hb4⟩;refine⟨_,u,?_⟩;clear u;have s10:=Sb hb4;have⟨vY,uL,wW⟩:=ku hb4 R hT2 oW;have b10:=(ng j W).then s10 (.inr (ng j W).size);refine av (au d.length)<|av (au 0)<|Ln<|Fx.qD<|Fx.W0.block<|Fx.W0.loop (fun f S => ∃ i:Nat,i<=d.length/\f 1=aF id/\f 2=aF pa/\f 7=(pt L)/\f 8 = .slice F (l.length) (G)/\f 37 = .slice ZG (d.length) (A)/\f 38=au (d.length:Int)/\f 39=au (i:Int)/\aS S L 1 (fun _=>(pt v)) 98/\rD S (w.heap.size) v j (kV l d (Lr m.T l (FQ l.length l.length)) i)/\Fx.Own S W.heap.size 28 1 (.slice ZG (d.length) (A)) d.length (xD d)/\Fx.Own S w4.heap.size 28 1 (.slice F (l.length) (G)) l.length (xD l)/\Stp j W S) (fun f _=>((d.length:Int)-intOf (f 39)).toNat) ⟨0,(by omega),Fx.ic,Fx.ic,(by rfl),(by rfl),(by rfl),Fx.ic,Fx.ic,vY,uL,uK,wW,b10⟩ ?_;rintro f1 sQ ⟨i,hi,h1,h2,h3,h4,h5,h6,I,yR,xA,zu,zL,b11⟩;refine Fx.W0.seq<|Fx.W0.list ?_;by_cases c40:(i:Int)<(d.length:Int)
 ·refine Lv aH (gV c40 (hx:=I) (hy:=h6)) (Ln (Fx.qD (Fx.W0.seq (Fx.W0.cond (b:=true) rfl (fun _=>Fx.W0.skip (Fx.qD (Fx.W0.seq (Fx.W0.block (Fx.W0.seq (Fx.W0.list ?_)))))) (fun h=>nomatch h)))));obtain⟨EC,Z⟩:=zu.addr (by omega);have zw:Fx.Own sQ W.heap.size 28 1 (bL EC d.length A) d.length (xD d):=zu.dL (K_ (fun q=>Value.slice q d.length A) Z);refine Lv (pf EC i) (dh 1 (hx:=(h5.trans (K_ (fun q=>Value.slice q (d.length) (A)) Z))) (hi:=I))<|Lv (aF (d.getD i 0)) (aN zw.aI i)<|av (aF (d.getD i 0))<|Ln<|Fx.qD<|Fx.W0.seq<|Fx.W0.list<|aX h4<|av (aF (d.getD i 0))<|eB (ajz l (d.getD i 0) _ _ _ _ zL (by omega)) (ax := #[.slice F (l.length) (G),aF (d.getD i 0)]) _ rfl ?_;intro FP hb5;have s11:=Sb hb5;have⟨yS,yT,zM,Dm⟩:=oZ hb5 yR xA zL zw;have b12:=b11.then s11 (.inr b11.size);by_cases Y:d.getD i 0∈l
  ·skip
   refine Lv aG (Fx.QV rfl (K_ Value.bool (f_ Y)))<|Ln<|Fx.qD<|Fx.W0.cond (b:=false) rfl (fun h=>nomatch h)<|fun _=>Fx.W0.skip<|Fx.KG<|Fx.qD<|Fx.W0.list<|Lv (au ((i:Int)+1)) (eY (hx:=I))<|av (au ((i:Int)+1))<|Ln ?_;have Bz:Fx.Own FP W.heap.size 28 1 (.slice ZG (d.length) (A)) d.length (xD d):=Dm.dL (K_ (fun q=>Value.slice q d.length A) Z.symm);have AA:rD FP (w.heap.size) v j (kV l d (Lr m.T l (FQ l.length l.length)) (i+1)):=by unfold kV; rw[d_ Y]; exact yT
   skip
   refine Fx.agk ⟨i+1,(by omega),(h1.trans Fx.ic),(h2.trans Fx.ic),h3,h4,h5,(h6.trans Fx.ic),Fx.ic,yS,AA,Bz,zM,b12⟩ ?_;show((d.length:Int)-intOf (au ((i:Int)+1))).toNat<_;simp only[I,intOf]; omega
  skip
  refine Lv aH (Fx.Z5 rfl (K_ Value.bool (g_ Y))) (Ln (Fx.qD (Fx.W0.cond (b:=true) rfl (fun _=>Fx.W0.list (Lv (pt v) (aN yS.aI 0 (ha:=h3)) ?_)) (fun h=>nomatch h))));refine av (aF (d.getD i 0))<|eB (JY (d.getD i 0) 0 yT (XY h.t.inv hq1.2 i)) _ rfl ?_;rintro Ag ⟨Bh,s12⟩;have acS:=yT.Bd s12;have yU:=yS.dQ acS;have DR:=zM.dQ acS;have CB:=Dm.dQ acS;have b13:=b12.then s12 (.inl rfl);refine Ln<|Fx.KG<|Fx.qD<|Fx.W0.list<|Lv (au ((i:Int)+1)) (eY (hx:=I))<|av (au ((i:Int)+1))<|Ln ?_;have DT:Fx.Own Ag W.heap.size 28 1 (.slice ZG (d.length) (A)) d.length (xD d):=CB.dL (K_ (fun q=>Value.slice q d.length A) Z.symm);have EB:rD Ag (w.heap.size) v j (kV l d (Lr m.T l (FQ l.length l.length)) (i+1)):=by unfold kV; rw[b_ Y]; exact Bh
  skip
  refine Fx.agk ⟨i+1,(by omega),(h1.trans Fx.ic),(h2.trans Fx.ic),h3,h4,h5,(h6.trans Fx.ic),Fx.ic,yU,EB,DT,DR,b13⟩ ?_;show((d.length:Int)-intOf (au ((i:Int)+1))).toNat<_;simp only[I,intOf]; omega
 refine Lv aG (gW c40 (hx:=I) (hy:=h6))<|Ln<|Fx.qD<|Fx.W0.seq<|Fx.W0.cond (b:=false) rfl (fun h=>nomatch h)<|fun _=>Fx.W0.exit<|Fx.agi<|Fx.amT<|Fx.agj<|Fx.qD<|Fx.W0.seq ?_;have hil:i=d.length:=by omega
 refine Fx.W0.list<|Lv (pt v) (aN yR.aI 0 (ha:=h3)) ?_;refine aX h1<|aX h2<|eB (JY id pa xA hid) _ rfl ?_;rintro FZ ⟨tN,s13⟩;have acT:=xA.Bd s13;have wB:=yR.dQ acT;have tO:=zu.dQ acT;have rM:=zL.dQ acT;have b14:=b11.then s13 (.inl rfl);refine av (au (dK.err (kV l d (Lr m.T l (FQ l.length l.length)) i) id pa))<|Ln<|Fx.qD<|Fx.W0.ret ?_;have hKD:=(b14.block D lDW (by omega)).trans hK;have eD:dK.err (kV l d (Lr m.T l (FQ l.length l.length)) d.length) id pa=m.T.err id pa:=XV h.t.inv J hq1;refine Fx.leaveD hKD (rV Tryz.results170 (show Fx.LG Tryz.prog _ _ (.tmp 6) (au (dK.err (kV l d (Lr m.T l (FQ l.length l.length)) i) id pa))from rfl)) ⟨by rw[hil,eD],?_⟩;exact(b14.below H H.size hgm).grown (grownBy_putObj' _ D _) (b14.below H H.size hgm).size fun r e=>by cases e; omega
end Go.Proofs.YtahbiajdgealnaaGreatDoor
