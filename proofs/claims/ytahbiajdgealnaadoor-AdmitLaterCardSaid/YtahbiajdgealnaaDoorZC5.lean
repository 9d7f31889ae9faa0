/-
  What the proof of the law rests on, part 5: walks of functions, and plain laws; each says its conditions itself.
-/
import Derived.Test.YtahbiajdgealnaaDoorRows
import Derived.OrdersIn
import Derived.Test.YtahbiajdgealnaaDoorZC4
set_option maxHeartbeats 1600000
set_option linter.unusedVariables false
set_option linter.unusedSimpArgs false
namespace Go.Proofs.YtahbiajdgealnaaDoor
open Go.RowKit Rt
open Fx (fI fq fP bF gX gW dA dY gP jE eZ jF gy jv jG Lv sN Ln Ws Qv Wl Rp Wc Qs Wr Sb Lk Wk rC rV sR Rs Rn Rd Rk Wb Wx Wo FQ Wt rT Qn F3 Bl Af Ar DI Ei rM gK Av mV wI uT wX xX Aq DL Au rv aA aQ bR aN ev bZ Stp dJ aR flat dD Mp fA aU iR iQ bJ down iI jM iT nY bP bL cells_one jl bS wQ unseen jN iK bX dH bI bT cK cO gU iB qo gu)
section
namespace Rt
structure Inv0(L:fB)(T:Nat):Prop where
 BO:L.tn=L.nn
 nn:L.nn<=32
 tid : ∀ i,i<L.nn->L.t i 0=L.id i/\L.t i 1=L.par i
 rise : ∀ i j,i<j->j<L.nn->L.id i<L.id j
 pos : ∀ i,i<L.nn->1<=L.id i
 top : ∀ i,i<L.nn->L.id i<7696581394432
 up : ∀ i,i<L.nn->L.par i=0 \/ ∃ j,j<L.nn/\L.id j=L.par i
 dep : ∀ x,∃ D,D<=4/\bB L.t L.tn (aW L.t L.tn D x)<0
 gn:L.gn<=T
 rn : ∀ i,i<6->L.rn i<=T
 may : ∀ k,k<L.nn->may (L.R k)=true
 g47 : ∀ k,k<L.nn -> ∀ a,a<6->L.R k a<=140737488355328
 kn:AO L.known
theorem Zh(a:Int):a<0\/0<=a:=by omega
theorem iy{t:Nat->Nat->Int}{tn:Nat}{x:Int}:0<=bB t tn x <-> ∃ i,i<tn/\t i 0=x:=by
 constructor
 ·intro h;obtain⟨j,c,_,e⟩:=uJ h;exact⟨j,c,e⟩
 rintro ⟨i,b,e⟩
 rcases jC (fun i=>decide (t i 0=x)) tn with ⟨k,_,a,_⟩|⟨_,h2⟩
 ·unfold bB; rw[a]; omega
 have:=h2 i b; rw[f_ e]at this; cases this
theorem uN{t:Nat->Nat->Int}{tn:Nat}{x:Int}:bB t tn x<0 <-> ∀ i,i<tn->t i 0≠x:=by
 constructor
 ·intro h i a e;have:=iy.2 ⟨i,a,e⟩; omega
 intro h
 rcases Zh (bB t tn x)with h1|h1
 ·exact h1
 obtain⟨i,a,e⟩:=iy.1 h1;exact L_ e (h i a)
theorem uO{t:Nat->Nat->Int}{tn i:Nat}(c : ∀ i j,i<tn->j<tn->t i 0=t j 0->i=j)(hi:i<tn):bB t tn (t i 0)=(i:Int):=by
 obtain⟨j,b,e,a⟩:=uJ (iy.2 ⟨i,hi,rfl⟩);rw[e,c j i b hi a]
theorem EY{t:Nat->Nat->Int}{tn:Nat}{x:Int} : ∀ j,aW t tn (j+1) x=aW t tn j (aW t tn 1 x)
 | 0=>rfl
 | j+1=>by
   show t (bB t tn (aW t tn (j+1) x)).toNat 1=t (bB t tn (aW t tn j (aW t tn 1 x))).toNat 1;rw[EY j]
section
variable {L:fB} {T:Nat}
theorem Inv0.inj(h:Inv0 L T) : ∀ i j,i<L.nn->j<L.nn->L.id i=L.id j->i=j:=fun i j a b e=>by
 rcases Nat.lt_trichotomy i j with h1|h1|h1
 ·have:=h.rise i j h1 b; omega
 ·exact h1
 ·have:=h.rise j i h1 a; omega
theorem Inv0.afA(h:Inv0 L T) : ∀ i j,i<L.tn->j<L.tn->L.t i 0=L.t j 0->i=j:=fun i j a b e=>by
 rw[h.BO]at a b;rw[(h.tid i a).1,(h.tid j b).1]at e;exact h.inj i j a b e
theorem CK{P Q:Nat->Bool} : ∀ {n:Nat},(∀ i,i<n->P i=Q i)->gI P n=gI Q n
 | 0,_=>rfl
 | n+1,h=>by
   simp only[gI];rw[CK (n:=n) fun i a=>h i (by omega),h n (by omega)]
theorem Inv0.node(h:Inv0 L T)(x:Int):L.node x=bB L.t L.tn x:=by
 unfold fB.node bB;rw[h.BO];exact CK fun i a=>by rw[(h.tid i a).1]
theorem Inv0.w(h:Inv0 L T):abz L T where
 nn:=by have:=h.nn; omega
 gn:=h.gn
 rn:=h.rn
 tn:=h.node
 dx:=fun x=>by obtain⟨D,b,a⟩:=h.dep x; exact⟨D,by omega,a⟩
 may:=h.may
 kn:=h.kn
theorem Inv0.mono{T':Nat}(h:Inv0 L T)(a:T<=T'):Inv0 L T' := { h with gn:=m_ h.gn a,rn:=fun i b=>m_ (h.rn i b) a }
theorem DZ{a:Type}{f:Nat->a}{k i:Nat}{v:a}(h:i<k):bZ f k v i=f i:=by unfold bZ; rw[d_ h]
theorem dG{a:Type}{f:Nat->a}{k:Nat}{v:a}:bZ f k v k=v:=by unfold bZ; rw[b_ (by omega),d_ rfl]
theorem D5{a:Type}{f:Nat->a}{k i:Nat}{v:a}(h:k<i):bZ f k v i=f (i-1):=by unfold bZ; rw[b_ (by omega),b_ (by omega)]
theorem dS{k i n:Nat}(b:k<=n)(hi:i<n+1):i=k \/ ∃ j,j<n/\(∀ {α:Type} (f:Nat->α) (v:α),bZ f k v i=f j)/\(j<k->i=j)/\(k<=j->i=j+1):=by
 rcases Nat.lt_trichotomy i k with h|h|h
 ·exact .inr ⟨i,by omega,fun f v=>DZ h,fun _=>rfl,fun a=>by omega⟩
 ·exact .inl h
 exact .inr ⟨i-1,by omega,fun f v=>D5 h,fun a=>by omega,fun _=>by omega⟩
theorem A8{k j n:Nat}(a:j<n) : ∃ i,i<n+1/\i≠k /\ ∀ {α:Type} (f:Nat->α) (v:α),bZ f k v i=f j:=by
 by_cases h:j<k
 ·exact⟨j,by omega,by omega,fun f v=>DZ h⟩
 exact⟨j+1,by omega,by omega,fun f v=>by rw[D5 (by omega)]; rfl⟩
theorem yG(t:Nat->Nat->Int)(k:Nat)(id par:Int)(i:Nat):oF t k id par i=bZ t k (fun j=>if j=0 then id else par) i:=rfl
theorem GX{P Q:Nat->Bool} : ∀ {n:Nat},(∀ i,i<n->P i=Q i)->down P n=down Q n
 | 0,_=>rfl
 | n+1,h=>by
   unfold down;rw[GX (n:=n) fun i a=>h i (by omega),h n (by omega)]
structure oI(t t':Nat->Nat->Int)(tn:Nat)(id par:Int):Prop where
 u : ∀ i j,i<tn->j<tn->t i 0=t j 0->i=j
 u' : ∀ i j,i<tn+1->j<tn+1->t' i 0=t' j 0->i=j
 no : ∀ i,i<tn->t i 0≠id
 old : ∀ i,i<tn -> ∃ j,j<tn+1/\t' j=t i
 new : ∃ j,j<tn+1/\t' j 0=id/\t' j 1=par
 back : ∀ j,j<tn+1->t' j 0=id \/ ∃ i,i<tn/\t' j=t i
variable {t t':Nat->Nat->Int} {tn:Nat} {id par:Int}
theorem oI.find(h:oI t t' tn id par){x:Int}:0<=bB t' (tn+1) x<->(0<=bB t tn x\/x=id):=by
 rw[iy,iy];constructor
 ·rintro ⟨j,b,e⟩
  rcases h.back j b with a|⟨i,hi,a⟩
  ·exact .inr (e.symm.trans a)
  exact .inl ⟨i,hi,by rw[<- a]; exact e⟩
 rintro (⟨i,hi,e⟩|e)
 ·obtain⟨j,b,a⟩:=h.old i hi;exact⟨j,b,by rw[a]; exact e⟩
 obtain⟨j,b,a,_⟩:=h.new;exact⟨j,b,a.trans e.symm⟩
theorem oI.XG(h:oI t t' tn id par){x:Int}(hx:0<=bB t tn x):t' (bB t' (tn+1) x).toNat 1=t (bB t tn x).toNat 1:=by
 obtain⟨i,b,e⟩:=iy.1 hx;obtain⟨j,f,a⟩:=h.old i b;have c:bB t tn x=(i:Int):=by rw[<- e]; exact uO h.u b
 have d:bB t' (tn+1) x=(j:Int):=by
  have:t' j 0=x:=by rw[a]; exact e
  rw[<- this]; exact uO h.u' f
 rw[c,d];show t' j 1=t i 1;rw[a]
theorem oI.iter(h:oI t t' tn id par){x:Int} : ∀ K,(∀ i,i<K->0<=bB t tn (aW t tn i x))->aW t' (tn+1) K x=aW t tn K x
 | 0,_=>rfl
 | K+1,hk=>by
   have a:=oI.iter h K fun i b=>hk i (by omega);show t' (bB t' (tn+1) (aW t' (tn+1) K x)).toNat 1=t (bB t tn (aW t tn K x)).toNat 1;rw[a]; exact h.XG (hk K (by omega))
theorem uP{t:Nat->Nat->Int}{tn:Nat}{x:Int} : ∀ D,bB t tn (aW t tn D x)<0 -> ∃ K,K<=D/\bB t tn (aW t tn K x)<0 /\ ∀ i,i<K->0<=bB t tn (aW t tn i x)
 | 0,h=>⟨0,z_ _,h,fun _ a=>L_ a (u_ _)⟩
 | D+1,h=>by
   by_cases f : ∀ i,i<D+1->0<=bB t tn (aW t tn i x)
   ·exact⟨D+1,z_ _,h,f⟩
   ·obtain⟨i,a⟩:=Classical.not_forall.1 f;obtain⟨a,o⟩:=Classical.not_imp.1 a
    rcases Nat.lt_or_ge i D with h3|h3
    ·-- an earlier end
     have : ∀ n,n<=D->(∃ j,j<=n/\bB t tn (aW t tn j x)<0) -> ∃ K,K<=n/\bB t tn (aW t tn K x)<0 /\ ∀ i,i<K->0<=bB t tn (aW t tn i x):=by
      intro n
      induction n with
      | zero=>rintro _ ⟨j,m,k⟩; obtain rfl:j=0:=by omega
              exact⟨0,z_ _,k,fun _ a=>L_ a (u_ _)⟩
      | succ n ih =>
        rintro k ⟨j,m,g⟩;by_cases c : ∃ j,j<=n/\bB t tn (aW t tn j x)<0
        ·obtain⟨K,d,l⟩:=ih (by omega) c; exact⟨K,by omega,l⟩
        ·refine⟨n+1,z_ _,?_,fun i a => ?_⟩
         ·by_cases e:j=n+1
          ·rw[<- e]; exact g
          ·exact L_ ⟨j,by omega,g⟩ c
         ·rcases Zh (bB t tn (aW t tn i x))with h7|h7
          ·exact L_ ⟨i,by omega,h7⟩ c
          ·exact h7
     obtain⟨K,d,b⟩:=this i (by omega) ⟨i,z_ _,by omega⟩;exact⟨K,by omega,b⟩
    ·obtain rfl:i=D:=(by omega);obtain⟨K,d,b⟩:=uP (t:=t) (tn:=tn) (x:=x) i (by omega);exact⟨K,by omega,b⟩
theorem oI.dep(h:oI t t' tn id par)(z:1<=id)(v : ∀ i,i<tn->t i 1=0\/0<=bB t tn (t i 1))(s:par=0\/0<=bB t tn par)(B:bB t tn 0<0)(o : ∀ x,∃ D,D<=4/\bB t tn (aW t tn D x)<0)(p : ¬ CB t tn par) :
 ∀ x,∃ D,D<=4/\bB t' (tn+1) (aW t' (tn+1) D x)<0:=by
 have A:bB t tn id<0:=uN.2 h.no;have k : ∀ x K,x≠id->bB t tn (aW t tn K x)<0->(∀ i,i<K->0<=bB t tn (aW t tn i x))->bB t' (tn+1) (aW t' (tn+1) K x)<0:=fun x K c f a=>by
  rw[h.iter K a]
  rcases Zh (bB t' (tn+1) (aW t tn K x))with h1|h1
  ·exact h1
  ·exfalso
   rcases h.find.1 h1 with h2|h2
   ·omega
   ·cases K with
    | zero=>exact c h2
    | succ K =>
      have q:=a K (by omega);obtain⟨i,b,e⟩:=iy.1 q;have d:aW t tn (K+1) x=t i 1:=by
       show t (bB t tn (aW t tn K x)).toNat 1=t i 1;rw[<- e,uO h.u b]; rfl
      rw[d]at h2 f
      rcases v i b with h4|h4
      ·omega
      ·omega
 intro x;by_cases c:x=id
 ·subst c;obtain⟨i,b⟩:=Classical.not_forall.1 p;obtain⟨y,b⟩:=Classical.not_imp.1 b;obtain⟨K,f,g,a⟩:=uP (t:=t) (tn:=tn) (x:=par) i (by omega);refine⟨K+1,by omega,?_⟩;have l:aW t' (tn+1) 1 x=par:=by
   obtain⟨j,r,m,d⟩:=h.new;show t' (bB t' (tn+1) x).toNat 1=par;rw[<- m,uO h.u' r]; exact d
  rw[EY,l];refine k par K ?_ g a;rintro rfl
  rcases s with h1|h1 <;> omega
 obtain⟨D,w,n⟩:=o x;obtain⟨K,f,g,a⟩:=uP D n;exact⟨K,by omega,k x K c g a⟩
end
end Rt
end
section
namespace Rt
section
variable {L:fB} {T:Nat} {v:EvM}
theorem XH{t:Nat->Nat->Int}{tn:Nat}{id par:Int}(h:jk t tn id par=0):id≠0/\bB t tn id<0/\(par=0\/0<=bB t tn par)/\tn<32 /\ ¬ CB t tn par:=by
 unfold jk at h;split at h; · cases h
 rename_i h1;split at h; · cases h
 rename_i h2;split at h; · cases h
 rename_i h3;split at h; · cases h
 rename_i h4;refine⟨h1,by omega,?_,?_,fun b=>h4 (.inr b)⟩
 ·rcases Zh (bB t tn par)with h5|h5
  ·by_cases a:par=0
   ·exact .inl a
   exact L_ ⟨a,h5⟩ h3
  exact .inr h5
 rcases Nat.lt_or_ge tn 32 with h5|h5
 ·exact h5
 exact L_ (Or.inl h5) h4
theorem nO(h:bM v=true):1<=v.o/\v.o<=6/\1<=v.seq/\v.seq<1099511627776:=by
 have a:=iG h;have b:=DU h;unfold jI at a;simp only[R_,decide_eq_true_eq]at a;exact⟨a.1,a.2,b.1,b.2⟩
theorem qJ(h:bM v=true):iY v.o v.seq=1099511627776*v.o+v.seq:=by
 have:=nO h;unfold iY; rw[d_ (by omega)]
theorem jZ(h:bM v=true):aK v<6:=by
 have:=nO h; unfold aK; omega
theorem XI{a:Nat}{n:Int}(ha:a<6)(f:0<=n)(h1:n<=1125899906842624):may (upd (fun _=>0) a n)=true:=by
 have e : ∀ p,upd (fun _=>0) a n p=if p=a then n else 0:=fun p=>rfl;rw[jK];refine⟨fun p l => ?_,fun k h => ?_,?_⟩
 ·rw[e]; split <;> omega
 ·have b : ∀ i j,R (upd (fun _=>0) a n) i j=0:=fun i j=>by unfold R; rw[e,b_ (by omega)]
  refine⟨?_,?_,b k k⟩
  ·unfold L;simp only[b];have g:0<=G (upd (fun _=>0) a n) k:=by unfold G; rw[e]; split <;> omega
   have d:F (upd (fun _=>0) a n) k=0:=(by unfold F; rw[e,b_ (by omega)]);have c:C (upd (fun _=>0) a n) k=0:=(by unfold C; rw[e,b_ (by omega)]);omega
  have d:F (upd (fun _=>0) a n) k=0:=by unfold F; rw[e,b_ (by omega)]
  have c:C (upd (fun _=>0) a n) k=0:=by unfold C; rw[e,b_ (by omega)]
  omega
 unfold su G;simp only[e];have:(if 0=a then n else 0)+(if 1=a then n else 0)+(if 2=a then n else 0)+(if 3=a then n else 0)+(if 4=a then n else 0)+(if 5=a then n else 0)=n:=six a ha n;omega
theorem vX(h:Inv0 L T)(d:bM v=true)(F:v.kind=1)(f:jV L v=0) : ∃ k,k<=L.nn/\1<=iY v.o v.seq/\L.nn<32/\(0<=v.aT/\v.aT<=140737488355328)/\(v.node=0\/0<=bB L.t L.tn v.node) /\ ¬ CB L.t L.tn v.node /\
 qg L v = { L with nn:=L.nn+1,id:=bZ L.id k (iY v.o v.seq),par:=bZ L.par k v.node,R:=bZ L.R k (upd (fun _=>0) (aK v) v.aT),tn:=L.tn+1,t:=oF L.t k (iY v.o v.seq) v.node } /\
 (∀ i j,i<j->j<L.nn+1->bZ L.id k (iY v.o v.seq) i<bZ L.id k (iY v.o v.seq) j)/\(∀ i,i<L.nn+1->oF L.t k (iY v.o v.seq) v.node i 0=bZ L.id k (iY v.o v.seq) i/\oF L.t k (iY v.o v.seq) v.node i 1=bZ L.par k v.node i) /\
 oI L.t (oF L.t k (iY v.o v.seq) v.node) L.tn (iY v.o v.seq) v.node:=by
 unfold jV at f;split at f
 ·cases f
 rename_i h47;obtain⟨K,s,w,M,y⟩:=XH f;have S:=nO d;have U:=qJ d;have W:=jZ d;have D:0<=v.aT/\v.aT<=140737488355328:=by
  have Q : ¬ 140737488355328<v.aT:=fun h=>h47 (.inr h);unfold bM at d;simp only[R_]at d;have l:=d.2;unfold dI at l;rw[d_ F]at l;simp only[R_,decide_eq_true_eq]at l;omega
 generalize hx:iY v.o v.seq=x at *;have J:1<=x:=by omega
 have A:down (fun i=>decide (x<L.t i 0)) L.tn=rD L.id L.nn x:=by
  unfold rD; rw[h.BO]; exact GX fun i a=>by rw[(h.tid i a).1]
 have z:qg L v = { L with nn:=L.nn+1,id:=bZ L.id (rD L.id L.nn x) x,par:=bZ L.par (rD L.id L.nn x) v.node,R:=bZ L.R (rD L.id L.nn x) (upd (fun _=>0) (aK v) v.aT),tn:=L.tn+1,t:=oF L.t (rD L.id L.nn x) x v.node }:=by
  unfold qg; rw[hx,A]; rfl
 generalize hkk:rD L.id L.nn x=k at *;have c:k<=L.nn:=by rw[<- hkk]; exact Fx.yc _ _
 have G : ∀ i,i<L.nn->L.id i≠x:=fun i a e=>uN.1 s i (by rw[h.BO]; exact a) (by rw[(h.tid i a).1]; exact e);have C : ∀ q,k<=q->q<L.nn->x<L.id q:=fun q b g=>by
  have:=Fx.Iu (P:=fun i=>decide (x<L.id i)) (n:=L.nn) (i:=q) (by show rD L.id L.nn x<=q; omega) g;exact h_ this
 have B : ∀ q,q<k->L.id q<x:=fun q b=>by
  obtain⟨j,rfl⟩ : ∃ j,k=j+1:=⟨k-1,by omega⟩;have g:=Fx.Iw (P:=fun i=>decide (x<L.id i)) (n:=L.nn) (j:=j) hkk;have N : ¬ x<L.id j:=j_ g;have O:=G j (by omega);by_cases e:q=j
  ·subst e; omega
  ·have:=h.rise q j (by omega) (by omega); omega
 have H:L.nn<32:=by have:=h.BO; omega
 have m : ∀ i j,i<j->j<L.nn+1->bZ L.id k x i<bZ L.id k x j:=fun i j V hj=>by
  rcases dS c (show i<L.nn+1 by omega)with rfl|⟨q,hq,eq,q1,q2⟩
  ·rcases dS c hj with rfl|⟨r,hr,er,r1,r2⟩
   ·omega
   ·rw[dG,er];exact C r (by omega) hr
  ·rcases dS c hj with rfl|⟨r,hr,er,r1,r2⟩
   ·rw[dG,eq];exact B q (by omega)
   ·rw[eq,er];exact h.rise q r (by omega) hr
 have p : ∀ i,i<L.nn+1->oF L.t k x v.node i 0=bZ L.id k x i/\oF L.t k x v.node i 1=bZ L.par k v.node i:=fun i a=>by
  rw[yG]
  rcases dS c a with rfl|⟨q,hq,eq,_,_⟩
  ·rw[dG,dG,dG]; exact⟨rfl,rfl⟩
  ·rw[eq,eq,eq]; exact h.tid q hq
 have E : ∀ i j,i<L.nn+1->j<L.nn+1->bZ L.id k x i=bZ L.id k x j->i=j:=fun i j a hj e=>by
  rcases Nat.lt_trichotomy i j with b|b|b
  ·have:=m i j b hj; omega
  ·exact b
  ·have:=m j i b a; omega
 have I:oI L.t (oF L.t k x v.node) L.tn x v.node := {
  u:=h.afA
  u':=fun i j a hj e=>by
   rw[h.BO]at a hj;rw[(p i a).1,(p j hj).1]at e;exact E i j a hj e
  no:=uN.1 s
  old:=fun i a=>by
   obtain⟨j,hj,_,e⟩:=A8 (k:=k) a;exact⟨j,hj,by rw[yG]; exact e L.t _⟩
  new:=⟨k,by have:=h.BO; omega,by rw[yG,dG]; rfl,by rw[yG,dG]; rfl⟩
  back:=fun j hj=>by
   rw[h.BO]at hj
   rcases dS c hj with rfl|⟨q,hq,eq,_,_⟩
   ·exact .inl (by rw[yG,dG]; rfl)
   ·exact .inr ⟨q,by rw[h.BO]; exact hq,by rw[yG]; exact eq L.t _⟩ }
 exact⟨k,c,J,H,D,w,y,z,m,p,I⟩
theorem Ql(h:Inv0 L T)(c:bM v=true)(w:v.kind=1)(r:jV L v=0):Inv0 (qg L v) (T+1):=by
 obtain⟨k,a,m,K,s,g,n,p,B,E,F⟩:=vX h c w r;have I:=nO c;have J:=qJ c;have C:=jZ c;rw[p];generalize hx:iY v.o v.seq=x at *;have z : ∀ j,j<L.nn -> ∃ i,i<L.nn+1/\bZ L.id k x i=L.id j:=fun j hj=>by
  obtain⟨i,hi,_,e⟩:=A8 (k:=k) hj;exact⟨i,hi,e L.id x⟩
 have H:bB L.t L.tn 0<0:=uN.2 fun i hi e=>by
  rw[h.BO]at hi;rw[(h.tid i hi).1]at e;have:=h.pos i hi; omega
 have A:v.node=0 \/ ∃ j,j<L.nn/\L.id j=v.node:=by
  rcases g with e|e
  ·exact .inl e
  ·obtain⟨i,hi,d⟩:=iy.1 e;rw[h.BO]at hi;exact .inr ⟨i,hi,by rw[<- (h.tid i hi).1]; exact d⟩
 exact {
  BO:=by show L.tn+1=L.nn+1; rw[h.BO]
  nn:=by show L.nn+1<=32; omega
  tid:=E
  rise:=B
  pos:=fun i hi=>by
   show 1<=bZ L.id k x i
   rcases dS a hi with rfl|⟨q,hq,eq,_,_⟩
   ·rw[dG]; exact m
   ·rw[eq]; exact h.pos q hq
  top:=fun i hi=>by
   show bZ L.id k x i<_
   rcases dS a hi with rfl|⟨q,hq,eq,_,_⟩
   ·rw[dG]; omega
   ·rw[eq]; exact h.top q hq
  up:=fun i hi=>by
   show bZ L.par k v.node i=0 \/ ∃ j,j<L.nn+1/\bZ L.id k x j=bZ L.par k v.node i;have l : ∀ y,(y=0 \/ ∃ j,j<L.nn/\L.id j=y)->(y=0 \/ ∃ j,j<L.nn+1/\bZ L.id k x j=y):=fun y G=>G.imp id fun⟨j,hj,e⟩=>by
    obtain⟨i,hi,d⟩:=z j hj;exact⟨i,hi,d.trans e⟩
   rcases dS a hi with rfl|⟨q,hq,eq,_,_⟩
   ·rw[dG]; exact l _ A
   ·rw[eq]; exact l _ (h.up q hq)
  dep:=by
   show ∀ y,∃ D,D<=4/\bB (oF L.t k x v.node) (L.tn+1) (aW (oF L.t k x v.node) (L.tn+1) D y)<0;refine F.dep m (fun i hi => ?_) g H h.dep n;have f:=hi;rw[h.BO]at f;rw[(h.tid i f).2]
   rcases h.up i f with e|⟨j,hj,e⟩
   ·exact .inl e
   ·exact .inr (iy.2 ⟨j,by rw[h.BO]; exact hj,by rw[(h.tid j hj).1]; exact e⟩)
  gn:=Nat.le_succ_of_le h.gn
  rn:=fun i hi=>Nat.le_succ_of_le (h.rn i hi)
  may:=fun i hi=>by
   show may (bZ L.R k _ i)=true
   rcases dS a hi with rfl|⟨q,hq,eq,_,_⟩
   ·rw[dG]; exact XI C s.1 (by omega)
   ·rw[eq]; exact h.may q hq
  g47:=fun i hi b u=>by
   show bZ L.R k _ i b<=_
   rcases dS a hi with rfl|⟨q,hq,eq,_,_⟩
   ·rw[dG];show(if b=aK v then v.aT else 0)<=_;split <;> omega
   ·rw[eq]; exact h.g47 q hq b u
  kn:=h.kn }
theorem GY{b:fB}{T':Nat}(h:Inv0 L T)(c:b.nn=L.nn)(d:b.id=L.id)(f:b.par=L.par)(g:b.tn=L.tn)(j:b.t=L.t)(m:b.known=L.known)(n:b.gn<=T')(hr : ∀ i,i<6->b.rn i<=T')
 (l : ∀ k,k<L.nn->may (b.R k)=true /\ ∀ a,a<6->b.R k a<=140737488355328):Inv0 b T' where
 BO:=by rw[c,g]; exact h.BO
 nn:=by rw[c]; exact h.nn
 tid:=by rw[c,d,f,j]; exact h.tid
 rise:=by rw[c,d]; exact h.rise
 pos:=by rw[c,d]; exact h.pos
 top:=by rw[c,d]; exact h.top
 up:=by rw[c,d,f]; exact h.up
 dep:=by rw[g,j]; exact h.dep
 gn:=n
 rn:=hr
 may:=by rw[c]; exact fun k e=>(l k e).1
 g47:=by rw[c]; exact fun k e=>(l k e).2
 kn:=by rw[m]; exact h.kn
def tV(x:Nat->Int):Prop:=may x=true /\ ∀ a,a<6->x a<=140737488355328
theorem EZ{f:(Nat->Int)->(Nat->Int) × Int}{idx:Nat->Nat}{R:Nat->Nat->Int}{n:Nat}(g : ∀ x,tV x->(f x).2=0->tV (f x).1)(d : ∀ k,k<n->tV (R k)) : ∀ K k,k<n->tV ((cZ f idx R K).1 k)
 | 0,k,hk=>d k hk
 | K+1,k,hk=>by
   have a:=EZ g d (idx:=idx) K;unfold cZ;by_cases e:(cZ f idx R K).2=0
   ·rw[d_ e];by_cases b:(f ((cZ f idx R K).1 (idx K))).2=0
    ·rw[d_ b];show tV (if k=idx K then _ else _);by_cases c:k=idx K
     ·rw[d_ c]; exact g _ (by rw[<- c]; exact a k hk) b
     ·rw[b_ c]; exact a k hk
    ·rw[b_ b]; exact a k hk
   ·rw[b_ e]; exact a k hk
theorem XJ{x:Nat->Int}{i n:Int}(h:tV x)(c:(bC x i n).2=0):tV (bC x i n).1:=by
 obtain⟨a,g,_,_,_,_,_,f,_,_,_,e⟩:=I6 c;exact⟨f,fun b d=>by rw[e,fZ _ _ _ _ (by omega)]; exact h.2 b d⟩
theorem XK{x:Nat->Int}{i n:Int}(h:tV x)(c:(bD x i n).2=0):tV (bD x i n).1:=by
 obtain⟨a,g,_,_,_,_,f,_,_,_,e⟩:=I7 c;exact⟨f,fun b d=>by rw[e,fZ _ _ _ _ (by omega)]; exact h.2 b d⟩
theorem XL{x:Nat->Int}{i j n:Int}(h:tV x)(d:(cB x i j n).2=0):tV (cB x i j n).1:=by
 obtain⟨a,b,k,l,_,_,_,_,_,_,g,e⟩:=AY d;exact⟨g.may,fun c f=>by rw[e,fZ _ _ _ _ (by omega)]; exact h.2 c f⟩
theorem Uh{x:Nat->Int}{a:Nat}{n:Int}(ha:a<6)(h:tV x)(s:0<=n)(q : ¬ 140737488355328<x a+n):tV (upd x a (x a+n)):=by
 have d:=(jK x).1 h.1;have e : ∀ p,upd x a (x a+n) p=if p=a then x a+n else x p:=fun p=>rfl;have t:=d.1 a (by omega);have c : ∀ b,b<6->upd x a (x a+n) b<=140737488355328:=fun b l=>by
  rw[e]; split
  ·omega
  ·exact h.2 b l
 refine⟨(jK _).2 ⟨fun p o => ?_,fun k m => ?_,?_⟩,c⟩
 ·have:=d.1 p o;rw[e]; split <;> omega
 ·obtain⟨r,i,j⟩:=d.2.1 k m;have f:C (upd x a (x a+n)) k=C x k:=by unfold C; rw[e,b_ (by omega)]
  have g:F (upd x a (x a+n)) k=F x k:=by unfold F; rw[e,b_ (by omega)]
  refine⟨?_,?_,?_⟩
  ·rw[TV x a (by omega),f,g,afj]; split <;> omega
  ·rw[f,g]; exact i
  unfold R; rw[e,b_ (by omega)]; exact j
 unfold su G;have:=c 0 (by omega); have:=c 1 (by omega); have:=c 2 (by omega); have:=c 3 (by omega); have:=c 4 (by omega); have:=c 5 (by omega);omega
theorem Inv0.KI(h:Inv0 L T) : ∀ k,k<L.nn->tV (L.R k):=fun k a=>⟨h.may k a,h.g47 k a⟩
theorem Ov(h:Inv0 L T)(a:Nat) : ∀ i,i<6->aI L.rn a (L.rn a+1) i<=T+1:=fun i b=>by
 unfold aI;by_cases e:i=a
 ·subst e; rw[d_ rfl]; have:=h.rn i b; omega
 ·rw[b_ e]; have:=h.rn i b; omega
theorem Ow{q:Nat}{r:Nat->Int}(h : ∀ k,k<L.nn->tV (L.R k))(hr:tV r) : ∀ k,k<L.nn->tV (aI L.R q r k):=fun k a=>by
 unfold aI; split
 ·exact hr
 ·exact h k a
theorem Inv0.Ox(h:Inv0 L T){x:Int}(hx : ¬ L.node x<0):(L.node x).toNat<L.nn:=by
 rw[h.node]at hx ⊢;obtain⟨j,a,e,_⟩:=uJ (show 0<=bB L.t L.tn x by omega);rw[e]; have:=h.BO; simp; omega
theorem Qm(h:Inv0 L T)(a : ∀ k,k<L.nn->tV ((mP L v).1 k)):Inv0 (lN L v) (T+1):=by
 unfold lN ql;generalize mP L v=W at a;exact GY h rfl rfl rfl rfl rfl rfl (Nat.succ_le_succ h.gn) (Ov h _) a
theorem Qo(h:Inv0 L T)(a : ∀ k,k<L.nn->tV ((lQ L v).1 k)):Inv0 (jW L v) (T+1):=by
 unfold jW ql;generalize lQ L v=W at a;exact GY h rfl rfl rfl rfl rfl rfl (Nat.le_succ_of_le h.gn) (Ov h _) a
theorem Ui(h:Inv0 L T)(f:bM v=true)(a:dP L v=0):Inv0 (iF L v) (T+1):=by
 have q:=iV f;have o:=jZ f;have e:=h.gn;have d : ∀ i,i<6->L.rn i<=T+1:=fun i n=>Nat.le_succ_of_le (h.rn i n);unfold dP at a;unfold iF;by_cases b:v.kind=1
 ·rw[d_ b]at a ⊢; exact Ql h f b a
 by_cases c:v.kind=2
 ·rw[b_ b,d_ c]at a ⊢;unfold vW at a;split at a; · cases a
  rename_i n1;split at a; · cases a
  rename_i n2;have p:=kP f (.inl c);exact GY h rfl rfl rfl rfl rfl rfl (Nat.le_succ_of_le e) d (Ow h.KI (Uh o (h.KI _ (h.Ox n1)) (by omega) n2))
 by_cases g:v.kind=3
 ·rw[b_ b,b_ c,d_ g]at a ⊢;have j : ∀ k,k<L.nn->tV ((mP L v).1 k):=by unfold mP; exact EZ (fun x=>XJ) h.KI _
  exact Qm h j
 by_cases l:v.kind=4
 ·rw[b_ b,b_ c,b_ g,d_ l]at a ⊢;have j : ∀ k,k<L.nn->tV ((lQ L v).1 k):=by unfold lQ; exact EZ (fun x=>XK) h.KI _
  exact Qo h j
 by_cases m:v.kind=5
 ·rw[b_ b,b_ c,b_ g,b_ l,d_ m]at a ⊢;unfold oH at a;split at a; · cases a
  rename_i n1;split at a; · cases a
  exact GY h rfl rfl rfl rfl rfl rfl (Nat.le_succ_of_le e) d (Ow h.KI (XL (h.KI _ (h.Ox n1)) a))
 rw[b_ b,b_ c,b_ g,b_ l,b_ m];split
 ·exact GY h rfl rfl rfl rfl rfl rfl (Nat.le_succ_of_le e) d h.KI
 exact GY h rfl rfl rfl rfl rfl rfl (Nat.le_succ_of_le e) d h.KI
theorem zT(h:Inv0 L T):Inv0 (dz L v) (T+1):=by
 unfold dz;by_cases a:bG L v=0
 ·rw[d_ a];unfold bG at a;split at a; · cases a
  rename_i h1;split at a; · cases a
  split at a; · cases a
  rename_i h3;split at a; · cases a
  have b:bM v=true:=by simpa using h1
  have c:dw L.known v=true:=by simpa using h3
  have g:=Ui h b a;have k:=jZ b;have m:=DU b;refine { g with kn:=fun i j => ?_ };have e:(GV (iF L v) v).known=aI L.known (aK v) (L.known (aK v)+1):=by unfold GV; simp only[pE]
  rw[e];unfold dw at c;simp only[R_,decide_eq_true_eq]at c;have d:=h.kn;unfold aI;split
  ·have f:=c.1.2;have l:v.seq=L.known (aK v)+1:=f;have:=d (aK v) k;omega
  exact d i j
 rw[b_ a]; exact h.mono (Nat.le_succ T)
end
end Rt
end
section
namespace Rt
def Jc(t:Nat->Nat->Int)(tn:Nat)(x y:Int):Nat->Int
 | 0=>0
 | k+1=>Jc t tn x y k+if aW t tn k x=y then 1 else 0
def BP(t:Nat->Nat->Int)(tn:Nat)(x y:Int):Int:=Jc t tn x y (dR t tn x)
def pF(t:Nat->Nat->Int)(tn:Nat)(g:Nat->Int)(y:Int):Int:=if g 4=0 then g 3*BP t tn (g 2) y else 0
def om(t:Nat->Nat->Int)(tn:Nat)(g:Nat->Nat->Int)(y:Int):Nat->Int
 | 0=>0
 | q+1=>om t tn g y q+pF t tn (g q) y
structure zU(L:fB):Prop where
 us : ∀ k,k<L.nn->nJ (L.R k)=om L.t L.tn L.g (L.id k) L.gn
 gb : ∀ q,q<L.gn->0<=bB L.t L.tn (L.g q 2)/\1<=L.g q 0/\L.g q 0<=6/\0<=L.g q 3/\L.g q 3<=1125899906842624
structure nP(v:EvM):Prop where
 aT:v.aT<=65536
 req:v.req<=256
structure Qp(L:fB)(T:Nat):Prop where
 kt : ∀ i,i<6->L.known i<=T
 rb : ∀ k,k<L.nn -> ∀ a,a<54->L.R k a<=2097152*T
 rq : ∀ i,i<6 -> ∀ j,j<L.rn i->L.rq i j<=256
structure Inv(L:fB)(T:Nat):Prop extends Inv0 L T where
 s:zU L
 b:Qp L T
section
variable {L:fB} {T:Nat} {v:EvM}
theorem Jd{P:Nat->Bool} : ∀ {n i:Nat},i<lead P n->P i=true
 | 0,i,h=>L_ h (u_ _)
 | n+1,i,h=>by
   unfold lead at h;by_cases e:lead P n=n/\P n=true
   ·rw[d_ e]at h;by_cases a:i=n
    ·rw[a]; exact e.2
    ·exact Jd (n:=n) (by omega)
   ·rw[b_ e]at h; exact Jd h
theorem A9{t:Nat->Nat->Int}{tn i:Nat}{x:Int}(h:i<dR t tn x):0<=bB t tn (aW t tn i x):=h_ (Jd (P:=fun i=>decide (0<=bB t tn (aW t tn i x))) h)
theorem yH{t t':Nat->Nat->Int}{tn b:Nat}{g a:Nat->Nat->Int}{y c:Int} : ∀ n,(∀ q,q<n->pF t' b (a q) c=pF t tn (g q) y)->om t' b a c n=om t tn g y n
 | 0,_=>rfl
 | n+1,h=>by unfold om; rw[yH n fun q d=>h q (by omega),h n (by omega)]
theorem GZ{t:Nat->Nat->Int}{tn:Nat}{g:Nat->Nat->Int}{y:Int} : ∀ n,(∀ q,q<n->pF t tn (g q) y=0)->om t tn g y n=0
 | 0,_=>rfl
 | n+1,h=>by unfold om; rw[GZ n fun q a=>h q (by omega),h n (by omega)]; rfl
theorem KJ{t:Nat->Nat->Int}{tn k:Nat}{g:Nat->Nat->Int}{x:Nat->Int}{y:Int} : ∀ n,k<n->om t tn (aI g k x) y n=om t tn g y n-pF t tn (g k) y+pF t tn x y
 | 0,h=>L_ h (u_ _)
 | n+1,h=>by
   unfold om;by_cases e:k=n
   ·subst e;rw[yH (t:=t) (tn:=tn) (g:=g) (y:=y) k fun q a=>by unfold aI; rw[b_ (by omega)]];unfold aI; rw[d_ rfl]; omega
   ·rw[KJ n (by omega)];have:aI g k x n=g n:=b_ (fun h=>e h.symm);rw[this]; omega
theorem KL{t:Nat->Nat->Int}{tn k:Nat}{g:Nat->Nat->Int}{x:Nat->Int}{y:Int} : ∀ n,k<=n->om t tn (bZ g k x) y (n+1)=om t tn g y n+pF t tn x y
 | 0,h=>by
   obtain rfl:k=0:=(by omega);show(0:Int)+pF t tn (bZ g 0 x 0) y=0+_;rw[dG]
 | n+1,h=>by
   by_cases e:k=n+1
   ·subst e;show om t tn (bZ g (n+1) x) y (n+1)+pF t tn (bZ g (n+1) x (n+1)) y=_;rw[dG,yH (t:=t) (tn:=tn) (g:=g) (y:=y) (n+1) fun q a=>by rw[DZ a]]
   ·show om t tn (bZ g k x) y (n+1)+pF t tn (bZ g k x (n+1)) y=om t tn g y n+pF t tn (g n) y+_;rw[KL n (by omega),D5 (by omega),Nat.add_sub_cancel]; omega
def Uj(idx:Nat->Nat)(k:Nat):Nat->Int
 | 0=>0
 | j+1=>Uj idx k j+if idx j=k then 1 else 0
theorem BQ{f:(Nat->Int)->(Nat->Int) × Int}{idx:Nat->Nat}{R:Nat->Nat->Int}{d:Int}(e : ∀ x,(f x).2=0->nJ (f x).1=nJ x+d) : ∀ K,(cZ f idx R K).2=0 -> ∀ k,nJ ((cZ f idx R K).1 k)=nJ (R k)+d*Uj idx k K
 | 0,_,k=>by show nJ (R k)=nJ (R k)+d*0; omega
 | K+1,h,k=>by
   unfold cZ at h ⊢;by_cases a:(cZ f idx R K).2=0
   ·have g:=BQ e K a k;rw[d_ a]at h ⊢;by_cases b:(f ((cZ f idx R K).1 (idx K))).2=0
    ·rw[d_ b];show nJ (aI _ (idx K) _ k)=_;unfold aI Uj;rw[Int.mul_add];by_cases c:k=idx K
     ·subst c;rw[d_ rfl,d_ rfl,e _ b,g]; omega
     ·rw[b_ c,b_ (fun h=>c h.symm),g]; omega
    ·rw[b_ b]at h; exact L_ h b
   ·rw[b_ a]at h; exact L_ h a
theorem ML{t:Nat->Nat->Int}{tn k:Nat}{x y:Int}{idx:Nat->Nat} : ∀ K,(∀ i,i<K->(idx i=k<->aW t tn i x=y))->Uj idx k K=Jc t tn x y K
 | 0,_=>rfl
 | K+1,h=>by
   unfold Uj Jc;rw[ML K fun i b=>h i (by omega)];by_cases e:idx K=k
   ·rw[d_ e,d_ ((h K (by omega)).1 e)]
   ·rw[b_ e,b_ (fun a=>e ((h K (by omega)).2 a))]
theorem D6(h:Inv0 L T){x:Int}{i k:Nat}(g:k<L.nn)(hi:i<dR L.t L.tn x):nV L x i=k<->aW L.t L.tn i x=L.id k:=by
 obtain⟨j,f,e,c⟩:=uJ (A9 hi);have b:j<L.nn:=by rw[<- h.BO]; exact f
 have l:nV L x i=j:=by unfold nV; rw[h.node,e]; rfl
 rw[l];have a:L.id j=aW L.t L.tn i x:=by rw[<- (h.tid j b).1]; exact c
 constructor
 ·rintro rfl; exact a.symm
 intro d; exact h.inj j k b g (a.trans d)
theorem KM{x:Nat->Int}{a:Nat}{n:Int}(ha:a<6):nJ (upd x a n)=nJ x:=by
 have b : ∀ k,C (upd x a n) k=C x k:=fun k=>fZ _ _ _ _ (by omega);have c : ∀ k,F (upd x a n) k=F x k:=fun k=>fZ _ _ _ _ (by omega);unfold nJ; simp only[b,c]
theorem Uk(h:bM v=true)(b:v.kind=4):1<=v.req:=by
 unfold bM at h;simp only[R_]at h;have a:=h.2;unfold dI at a;rw[b_ (by omega),b_ (by omega),b_ (by omega),d_ b]at a;simp only[R_,decide_eq_true_eq]at a;exact a.1.1
theorem abA{n k:Nat}{g:Nat->Nat->Int}{x:Nat->Int}(a:k<=n)(P:(Nat->Int)->Prop)(h : ∀ q,q<n->P (g q))(hx:P x) : ∀ q,q<n+1->P (bZ g k x q):=fun q b=>by
 rcases dS a b with rfl|⟨j,hj,e,_,_⟩
 ·rw[dG]; exact hx
 ·rw[e]; exact h j hj
attribute [local irreducible] dR in
theorem MN(j:Inv0 L T)(h:zU L)(e:bM v=true)(b:v.kind=3)(a:iN L v=0):zU (lN L v):=by
 unfold iN at a;split at a; · cases a
 split at a; · cases a
 rename_i hp;have c:=nO e;have l:=kP e (.inr (.inl b));unfold lN ql;have p:=BQ (f:=fun x=>bC x v.o v.aT) (idx:=nV L v.node) (R:=L.R) (d:=v.aT) (fun x s=>by obtain⟨_,_,_,_,_,_,_,_,_,_,r,_⟩:=I6 s; exact r) _ a;refine⟨fun k b => ?_,fun q n => ?_⟩
 ·show nJ ((mP L v).1 k)=om L.t L.tn (bZ L.g (down (fun i=>EN v (L.g i)) L.gn) (pW v)) (L.id k) (L.gn+1);rw[KL _ (Fx.yc _ _)];have:=p k;rw[show pF L.t L.tn (pW v) (L.id k)=v.aT*BP L.t L.tn v.node (L.id k)from rfl,<- h.us k b];unfold BP;rw[<- ML (idx:=nV L v.node) (k:=k) _ fun i m=>D6 j b m];exact this
 exact abA (Fx.yc _ _) (fun y=>0<=bB L.t L.tn (y 2)/\1<=y 0/\y 0<=6/\0<=y 3/\y 3<=1125899906842624) h.gb
  ⟨A9 (i:=0) (x:=v.node) (by omega),c.1,c.2.1,by show 0<=v.aT; omega,l.2⟩ q n
attribute [local irreducible] dR in
theorem MO(s:Inv0 L T)(h:zU L)(z:bM v=true)(c:v.kind=4)(b:iE L v=0):zU (jW L v):=by
 unfold iE at b;split at b; · cases b
 split at b; · cases b
 rename_i l;have F:=Uk z c
 have E:0<=L.grant v.o v.of:=by rcases Zh (L.grant v.o v.of)with h|h; · exact L_ (.inl h) l
                                ·exact h
 have D:L.g (zy L v) 4=0:=by
  by_cases e:L.g (zy L v) 4=0
  ·exact e
  ·exact L_ (.inr e) l
 have n:zy L v<L.gn:=by
  rcases jC (fun i=>decide (L.g i 0=v.o)&&decide (L.g i 1=v.of)) L.gn with ⟨k,c,e,_⟩|⟨e,_⟩
  ·have m:L.grant v.o v.of=(k:Int):=e;unfold zy; rw[m]; exact c
  ·have m:L.grant v.o v.of = -1:=e;omega
 unfold jW ql lQ;unfold lQ at b;generalize zy L v=q at *;have A:=BQ (f:=fun x=>bD x v.o (L.g q 3)) (idx:=nV L (L.g q 2)) (R:=L.R) (d := -(L.g q 3)) (fun x C=>by obtain⟨_,_,_,_,_,_,_,_,_,B,_⟩:=I7 C; rw[B]; omega) _ b;have u:=h.gb q n;refine⟨fun k c => ?_,fun p l => ?_⟩
 ·show nJ ((cZ _ _ _ _).1 k)=om L.t L.tn (aI L.g q (aI (L.g q) 4 v.req)) (L.id k) L.gn;rw[KJ _ n,<- h.us k c,A k];have a:pF L.t L.tn (aI (L.g q) 4 v.req) (L.id k)=0:=by
   unfold pF; rw[b_]; show ¬ v.req=0; omega
  have r:pF L.t L.tn (L.g q) (L.id k)=L.g q 3*BP L.t L.tn (L.g q 2) (L.id k):=d_ D;rw[a,r];unfold BP;rw[<- ML (idx:=nV L (L.g q 2)) (k:=k) _ fun i w=>D6 s c w,Int.neg_mul];omega
 show 0<=bB L.t L.tn (aI L.g q (aI (L.g q) 4 v.req) p 2)/\1<=aI L.g q (aI (L.g q) 4 v.req) p 0/\aI L.g q (aI (L.g q) 4 v.req) p 0<=6/\0<=aI L.g q (aI (L.g q) 4 v.req) p 3/\aI L.g q (aI (L.g q) 4 v.req) p 3<=1125899906842624;by_cases e:p=q
 ·subst e;have a : ∀ j,j≠4->aI L.g p (aI (L.g p) 4 v.req) p j=L.g p j:=fun j y=>by
   show(if p=p then aI (L.g p) 4 v.req else L.g p) j=_;rw[d_ rfl]; exact b_ y
  rw[a 2 (by omega),a 0 (by omega),a 3 (by omega)]; exact u
 have a:aI L.g q (aI (L.g q) 4 v.req) p=L.g p:=b_ e;rw[a]; exact h.gb p l
theorem Je{a:fB}(h:zU L)(j:a.nn=L.nn)(l:a.id=L.id)(c:a.tn=L.tn)(d:a.t=L.t)(e:a.gn=L.gn)(f:a.g=L.g)(m : ∀ k,k<L.nn->nJ (a.R k)=nJ (L.R k)):zU a:=by
 refine⟨fun k b => ?_,fun q i => ?_⟩
 ·rw[j]at b; rw[l,c,d,e,f,m k b]; exact h.us k b
 rw[e]at i; rw[c,d,f]; exact h.gb q i
theorem Ul{q:Nat}{r:Nat->Int}{R:Nat->Nat->Int}(hr:nJ r=nJ (R q))(k:Nat):nJ (aI R q r k)=nJ (R k):=by
 unfold aI; split
 ·rename_i e; rw[e]; exact hr
 rfl
theorem oI.path{t t':Nat->Nat->Int}{tn:Nat}{id par z y:Int}(h:oI t t' tn id par)(A:1<=id)(r : ∀ i,i<tn->t i 1=0\/0<=bB t tn (t i 1))(p : ∃ D,D<=4/\bB t tn (aW t tn D z)<0)(C:0<=bB t tn z) :
 BP t' (tn+1) z y=BP t tn z y/\(y=id->BP t tn z y=0):=by
 obtain⟨D,w,g⟩:=p;obtain⟨K,x,c,a⟩:=uP D g;have f:K=dR t tn z:=uL a c g (by omega);have d : ∀ i,i<=K->aW t' (tn+1) i z=aW t tn i z:=fun i b=>h.iter i fun j B=>a j (by omega);have k:bB t' (tn+1) (aW t' (tn+1) K z)<0:=by
  rw[d K (z_ _)]
  rcases Zh (bB t' (tn+1) (aW t tn K z))with h1|h1
  ·exact h1
  ·exfalso
   rcases h.find.1 h1 with h2|h2
   ·omega
   ·cases K with
    | zero=>have:bB t tn z<0:=c; omega
    | succ K =>
      obtain⟨i,b,e⟩:=iy.1 (a K (by omega));have l:aW t tn (K+1) z=t i 1:=by
       show t (bB t tn (aW t tn K z)).toNat 1=t i 1;rw[<- e,uO h.u b]; rfl
      rw[l]at h2 c
      rcases r i b with h4|h4
      ·omega
      ·omega
 have m:K=dR t' (tn+1) z:=uL (fun i b=>by rw[d i (by omega)]; exact h.find.2 (.inl (a i b))) k k (by omega);have o : ∀ n,n<=K->Jc t' (tn+1) z y n=Jc t tn z y n:=by
  intro n
  induction n with
  | zero=>intro _; rfl
  | succ n ih=>intro q; unfold Jc; rw[ih (by omega),d n (by omega)]
 refine⟨?_,fun s => ?_⟩
 ·unfold BP; rw[<- f,<- m]; exact o K (z_ _)
 subst s;have : ∀ n,n<=K->Jc t tn z y n=0:=by
  intro n
  induction n with
  | zero=>intro _; rfl
  | succ n ih =>
    intro q; unfold Jc;rw[ih (by omega),b_]
    ·rfl
    ·intro e;have:=a n (by omega);rw[e]at this;have v:=uN.2 h.no;omega
 unfold BP; rw[<- f]; exact this K (z_ _)
attribute [local irreducible] dR in
theorem MP(a:Inv0 L T)(h:zU L)(l:bM v=true)(s:v.kind=1)(r:jV L v=0):zU (qg L v):=by
 obtain⟨k,u,A,E,D,B,C,p,F,G,n⟩:=vX a l s r;have z:=jZ l;rw[p];generalize iY v.o v.seq=x at *;have w : ∀ i,i<L.tn->L.t i 1=0\/0<=bB L.t L.tn (L.t i 1):=fun i c=>by
  have d:=c;rw[a.BO]at d;rw[(a.tid i d).2]
  rcases a.up i d with e|⟨j,hj,e⟩
  ·exact .inl e
  ·exact .inr (iy.2 ⟨j,by rw[a.BO]; exact hj,by rw[(a.tid j hj).1]; exact e⟩)
 have m : ∀ q,q<L.gn -> ∀ y,BP (oF L.t k x v.node) (L.tn+1) (L.g q 2) y=BP L.t L.tn (L.g q 2) y/\(y=x->BP L.t L.tn (L.g q 2) y=0):=fun q b y=>n.path A w (a.dep _) (h.gb q b).1;refine⟨fun i c => ?_,fun q b => ?_⟩
 ·show nJ (bZ L.R k (upd (fun _=>0) (aK v) v.aT) i)=om (oF L.t k x v.node) (L.tn+1) L.g (bZ L.id k x i) L.gn;rw[yH (t:=L.t) (tn:=L.tn) (g:=L.g) (y:=bZ L.id k x i) L.gn fun q b=>by unfold pF; rw[(m q b _).1]]
  rcases dS u c with rfl|⟨j,hj,e,_,_⟩
  ·rw[dG,dG,KM z,GZ L.gn fun q b=>by unfold pF; rw[(m q b _).2 rfl,Int.mul_zero]; exact ite_self _];rfl
  rw[e,e]; exact h.us j hj
 have f:=h.gb q b;exact⟨n.find.2 (.inl f.1),f.2⟩
theorem G5(g:Inv0 L T)(h:zU L)(c:bM v=true)(a:dP L v=0):zU (iF L v):=by
 have m:=iV c;have l:=jZ c;unfold dP at a;unfold iF;by_cases b:v.kind=1
 ·rw[d_ b]at a ⊢; exact MP g h c b a
 by_cases d:v.kind=2
 ·rw[b_ b,d_ d]at a ⊢;exact Je h rfl rfl rfl rfl rfl rfl fun k _=>Ul (KM l) k
 by_cases e:v.kind=3
 ·rw[b_ b,b_ d,d_ e]at a ⊢; exact MN g h c e a
 by_cases f:v.kind=4
 ·rw[b_ b,b_ d,b_ e,d_ f]at a ⊢; exact MO g h c f a
 by_cases i:v.kind=5
 ·rw[b_ b,b_ d,b_ e,b_ f,d_ i]at a ⊢;unfold oH at a;split at a; · cases a
  split at a; · cases a
  obtain⟨_,_,_,_,_,_,_,_,_,_,j,_⟩:=AY a;exact Je h rfl rfl rfl rfl rfl rfl fun k _=>Ul j.u k
 rw[b_ b,b_ d,b_ e,b_ f,b_ i];split
 ·exact Je h rfl rfl rfl rfl rfl rfl fun _ _=>rfl
 exact Je h rfl rfl rfl rfl rfl rfl fun _ _=>rfl
theorem Um{t:Nat->Nat->Int}{tn D:Nat}{x:Int}(h:bB t tn (aW t tn D x)<0):dR t tn x<=D:=by
 rcases Nat.lt_or_ge D (dR t tn x)with h1|h1
 ·have:=A9 h1; omega
 exact h1
theorem Inv0.Zi(h:Inv0 L T)(x:Int):dR L.t L.tn x<=4:=by
 obtain⟨D,b,a⟩:=h.dep x;have:=Um a; omega
theorem Ba{x:Nat->Int}{p:Nat}{n c:Int}(h : ∀ a,a<54->x a<=c)(d:n<=c) : ∀ a,a<54->upd x p n a<=c:=fun a b=>by
 show(if a=p then n else x a)<=c;split
 ·exact d
 ·exact h a b
theorem E5{f:(Nat->Int)->(Nat->Int) × Int}{idx:Nat->Nat}{R:Nat->Nat->Int}{n:Nat}{B d:Int}(o:0<=d)(m : ∀ x c,(f x).2=0->(∀ a,a<54->x a<=c) -> ∀ a,a<54->(f x).1 a<=c+d)(j : ∀ k,k<n -> ∀ a,a<54->R k a<=B) : ∀(K:Nat) k,k<n -> ∀ a,a<54->(cZ f idx R K).1 k a<=B+d*(K:Int)
 | 0,k,hk,a,ha=>by have h:=j k hk a ha; show R k a<=B+d*0; omega
 | K+1,k,hk,a,ha=>by
   have b:=E5 o m j (idx:=idx) K;have e:d*((K+1:Nat):Int)=d*(K:Int)+d:=(by rw[Int.natCast_succ,Int.mul_add,Int.mul_one]);rw[e];unfold cZ;by_cases l:(cZ f idx R K).2=0
   ·rw[d_ l];by_cases g:(f ((cZ f idx R K).1 (idx K))).2=0
    ·rw[d_ g];show(if k=idx K then _ else _:Nat->Int) a<=_;by_cases i:k=idx K
     ·rw[d_ i];have:=m _ (B+d*(K:Int)) g (by rw[<- i]; exact b k hk) a ha; omega
     ·rw[b_ i]; have:=b k hk a ha; omega
    ·rw[b_ g]; have:=b k hk a ha; show(cZ f idx R K).1 k a<=_; omega
   ·rw[b_ l]; have:=b k hk a ha; omega
theorem Un{i n c:Int}{x:Nat->Int}(g:n<=65536)(h:(bC x i n).2=0)(hx : ∀ a,a<54->x a<=c) : ∀ a,a<54->(bC x i n).1 a<=c+65536:=by
 obtain⟨a,f,_,_,_,_,_,_,_,_,_,e⟩:=I6 h;rw[e];have:=hx (6+a) (by omega);exact Ba (fun b d=>by have:=hx b d; omega) (by omega)
theorem Uo{i n c:Int}{x:Nat->Int}(h:(bD x i n).2=0)(hx : ∀ a,a<54->x a<=c) : ∀ a,a<54->(bD x i n).1 a<=c+0:=by
 obtain⟨a,g,_,_,_,b,_,_,_,_,e⟩:=I7 h;rw[e,C_];have d:=hx (6+a) (by omega);have f:n<=x (6+a)-x (12+a):=b;exact Ba hx (by omega)
theorem Oy(h:Qp L T){a:Nat}{r:Int}(hr:r<=256) : ∀ i,i<6 -> ∀ j,j<aI L.rn a (L.rn a+1) i->aI L.rq a (aI (L.rq a) (L.rn a) r) i j<=256:=fun i d j b=>by
 unfold aI at b ⊢;by_cases e:i=a
 ·subst e;rw[d_ rfl]at b ⊢;by_cases c:j=L.rn i
  ·rw[d_ c]; exact hr
  ·rw[b_ c]; exact h.rq i d j (by omega)
 ·rw[b_ e]at b ⊢; exact h.rq i d j b
attribute [local irreducible] dR in
theorem Qq(A:Inv0 L T)(h:Qp L T)(E:nP v)(D:bM v=true)(d:dP L v=0) :
 (∀ k,k<(iF L v).nn -> ∀ a,a<54->(iF L v).R k a<=2097152*((T+1:Nat):Int))/\(∀ i,i<6 -> ∀ j,j<(iF L v).rn i->(iF L v).rq i j<=256):=by
 have m:=iV D;have ab:=jZ D;have V:(0:Int)<=(T:Int):=Int.natCast_nonneg _;have X:((T+1:Nat):Int)=(T:Int)+1:=Int.natCast_succ _;have u : ∀ k,k<L.nn -> ∀ a,a<54->L.R k a<=2097152*((T+1:Nat):Int):=fun k m a l=>by have:=h.rb k m a l; omega
 have G : ∀ q r,(∀ a,a<54->r a<=2097152*((T+1:Nat):Int)) -> ∀ k,k<L.nn -> ∀ a,a<54->aI L.R q r k a<=2097152*((T+1:Nat):Int):=fun q r O k m a l=>by
  unfold aI; split
  ·exact O a l
  ·exact u k m a l
 have P:=E.aT;unfold dP at d;unfold iF;by_cases s:v.kind=1
 ·rw[d_ s]at d ⊢;obtain⟨k,N,ae,Z,Y,Q,S,I,aa,ac,ad⟩:=vX A D s d;rw[I];refine⟨fun i M a l => ?_,h.rq⟩;show bZ L.R k (upd (fun _=>0) (aK v) v.aT) i a<=_
  rcases dS N M with rfl|⟨j,hj,e,_,_⟩
  ·rw[dG];exact Ba (c:=2097152*((T+1:Nat):Int)) (fun b _=>by omega) (by omega) a l
  rw[e]; exact u j hj a l
 by_cases z:v.kind=2
 ·rw[b_ s,d_ z]at d ⊢;unfold vW at d;split at d; · cases d
  rename_i n1;split at d; · cases d
  have w:=A.Ox n1;have J:=h.rb _ w (aK v) (by omega);exact⟨G _ _ (Ba (fun b B=>u _ w b B) (by omega)),h.rq⟩
 by_cases C:v.kind=3
 ·rw[b_ s,b_ z,d_ C]at d ⊢;have y : ∀ k,k<L.nn -> ∀ a,a<54->(mP L v).1 k a<=2097152*((T+1:Nat):Int):=fun k m a l=>by
   have U:=A.Zi v.node;have:=E5 (f:=fun x=>bC x v.o v.aT) (idx:=nV L v.node) (by decide) (fun x c=>Un P) h.rb (dR L.t L.tn v.node) k m a l;unfold mP; omega
  unfold lN ql;generalize mP L v=W at y;exact⟨y,Oy h E.req⟩
 by_cases F:v.kind=4
 ·rw[b_ s,b_ z,b_ C,d_ F]at d ⊢;have y : ∀ k,k<L.nn -> ∀ a,a<54->(lQ L v).1 k a<=2097152*((T+1:Nat):Int):=fun k m a l=>by
   have:=E5 (f:=fun x=>bD x v.o (L.g (zy L v) 3)) (idx:=nV L (L.g (zy L v) 2)) (M_ 0) (fun x c=>Uo) h.rb (dR L.t L.tn (L.g (zy L v) 2)) k m a l;unfold lQ; omega
  unfold jW ql;generalize lQ L v=W at y;exact⟨y,Oy h E.req⟩
 by_cases H:v.kind=5
 ·rw[b_ s,b_ z,b_ C,b_ F,d_ H]at d ⊢;unfold oH at d;split at d; · cases d
  rename_i n1;split at d; · cases d
  have w:=A.Ox n1;obtain⟨a,b,l,B,_,_,_,_,_,_,_,e⟩:=AY d;have J:=h.rb _ w (18+a*6+b) (by omega);have K:=G (L.node v.node).toNat _ (Ba (x:=L.R (L.node v.node).toNat) (p:=18+a*6+b) (n:=L.R (L.node v.node).toNat (18+a*6+b)+v.aT) (fun b B=>u _ w b B) (by omega));refine⟨?_,h.rq⟩;show ∀ k,k<L.nn -> ∀ c,c<54->aI L.R (L.node v.node).toNat (xK L v).1 k c<=_;unfold xK;rw[e]; exact K
 rw[b_ s,b_ z,b_ C,b_ F,b_ H];split
 ·exact⟨u,h.rq⟩
 exact⟨u,h.rq⟩
theorem Qp.mono{T':Nat}(h:Qp L T)(e:T<=T'):Qp L T' where
 kt:=fun i c=>by have:=h.kt i c; omega
 rb:=fun k d a b=>by have:=h.rb k d a b; omega
 rq:=h.rq
theorem G6(j:nP v)(h:Inv L T):Inv (dz L v) (T+1):=by
 refine⟨zT h.toInv0,?_,?_⟩ <;> unfold dz <;> by_cases a:bG L v=0
 ·rw[d_ a];unfold bG at a;split at a; · cases a
  rename_i d;split at a; · cases a
  split at a; · cases a
  split at a; · cases a
  have e:bM v=true:=by simpa using d
  have c:=G5 h.toInv0 h.s e a;exact⟨c.us,c.gb⟩
 ·rw[b_ a]; exact h.s
 ·rw[d_ a];unfold bG at a;split at a; · cases a
  rename_i d;split at a; · cases a
  split at a; · cases a
  split at a; · cases a
  have e:bM v=true:=by simpa using d
  have c:=Qq h.toInv0 h.b j e a;refine⟨fun i g => ?_,c.1,c.2⟩;have f:(GV (iF L v) v).known=aI L.known (aK v) (L.known (aK v)+1):=by unfold GV; simp only[pE]
  rw[f];have d:=h.b.kt i g;have k:=h.b.kt (aK v) (jZ e);unfold aI;split <;> omega
 rw[b_ a]; exact h.b.mono (Nat.le_succ T)
theorem Inv.mono{T':Nat}(h:Inv L T)(a:T<=T'):Inv L T':=⟨h.toInv0.mono a,h.s,h.b.mono a⟩
end
end Rt
end
section
namespace Rt
def evX(e:Nat->EvM):Nat->Value:=flat 14 fun k=>bH (e k)
noncomputable def oo(e:Nat->EvM)(K:Nat->Int)(L:fB):Nat->fB
 | 0=>L
 | j+1=>if(e j).seq<=K (aK (e j))then dz (oo e K L j) (e j)else oo e K L j
def KN(L M:fB):Prop := ∀ i,i<6->L.known i=M.known i
open Classical in
noncomputable def iO(e:Nat->EvM)(n:Nat)(K:Nat->Int):Nat->fB->fB
 | 0,L=>L
 | f+1,L=>if KN (oo e K L n) L then oo e K L n else iO e n K f (oo e K L n)
noncomputable def E8(e:Nat->EvM)(n:Nat)(K:Nat->Int)(L:fB):fB:=iO e n K (n+1) L
section
variable {e:Nat->EvM} {K:Nat->Int} {L M M':fB} {j n r:Nat}
theorem Uq(h:M=oo e K L j)(b:(e j).seq<=K (aK (e j)))(a:M'=dz M (e j)):M'=oo e K L (j+1):=by unfold oo; rw[d_ b,<- h,a]
theorem XM(h:M=oo e K L j)(a : ¬ (e j).seq<=K (aK (e j))):M=oo e K L (j+1):=by unfold oo; rw[b_ a,<- h]
theorem Qr(hr:r<=n)(h:M=oo e K L n)(a:KN M L):iO e n K (n+1-r) L=M:=by
 rw[show n+1-r=(n-r)+1 by omega]; unfold iO; rw[<- h,d_ a]
theorem Ur(hr:r<=n)(h:M=oo e K L n)(a : ¬ KN M L):iO e n K (n+1-(r+1)) M=iO e n K (n+1-r) L:=by
 rw[show n+1-r=(n-r)+1 by omega,show n+1-(r+1)=n-r by omega]
 conv=>rhs; unfold iO
 rw[<- h,b_ a]
theorem G7{m a:lH}:KN m.core a.core <-> ∀ i,i<6->(rv .u64 m.s.known) i=(rv .u64 a.s.known) i:=by
 unfold KN rv;simp only[Value.int.injEq,true_and]; exact Iff.rfl
end
theorem AO.kd{K:Nat->Int}(h:AO K):Fx.Kd (List.replicate 6 (some .u64)) (rv .u64 K):=Fx.JE fun i a=>Fx.qU (by have:=h i a; omega)
end Rt
attribute [irreducible] Rt.iO
set_option maxRecDepth 20000 in
theorem XO(m:lH)(B p T:Nat)(O:Option Addr)(an E:Nat)(ev:Nat->EvM)(K:Nat->Int)(w:World)(hL:uZ w B p m)(hI:Inv m.core T)(hA:nY w O an 14 (evX ev))(hwf : ∀ k,k<an->fV (ev k))(hmay : ∀ k,k<an->bM (ev k)=true)(hsm : ∀ k,k<an->nP (ev k))(han:an<=60)(hT:T<=890000) :
 Calls Tryd.prog 26 #[(pt p),.slice O (an) (E),.agg (aA 6 (rv .u64 K))] w fun e w' => ∃ p' m',e = .returned (pt p')/\m'.core=E8 ev an K m.core/\Inv m'.core (T+3660)/\uZ w' B p' m'/\Below w.heap.size w w':=by
 refine Kent Tryd.func26 59 ?_;refine ay<|pQ fun H w1 mR g s1 z1 => ?_;have⟨l,b1⟩:=eU s1.old hL (Below.refl w.heap.size w);have sO:=gL mR;have uo:=g.lt;refine av (.pointer none)<|aD<|Ws<|ay<|av (au 0)<|aD<|Wb<|Wo (fun f z => ∃ r:Nat,∃ x:Nat,∃ g:lH,∃ N:Nat,r<=an+1/\iO ev an K (an+1-r) g.core=E8 ev an K m.core/\Inv g.core N/\N<=T+r*60/\f 0=(pt x)/\f 1 = .slice O (an) (E)/\f 5=(pt H)/\f 7=au (r:Int)/\aQ z H 6 (rv .u64 K) 26/\uZ z B x g/\Below w.heap.size w z) (fun f _=>(an+1-(intOf (f 7)).toNat)) ⟨0,p,m,T,by omega,rfl,hI,by omega,(by rfl),(by rfl),(by rfl),Fx.ic,g,l,b1⟩ ?_;rintro f1 w2 ⟨r,x,g,N,hr,hc1,S,hT1,h1,h2,h3,h4,m3,m4,b2⟩;refine Ws<|ay<|aY h4<|aY h2<|av (au an) ?_;by_cases c13:(r:Int)<=(an:Int)
 ·refine Lv aG (mW c13)<|aD<|aO<|Wk<|sN<|Ws<|Wb<|Ws ?_;have afB:=m4.c;refine Wl<|aY h1<|av (pt x)<|av (pt x)<|av (pf x 12)<|Lv (.agg (aA 6 (rv .u64 g.s.known))) (fJ afB.aH 12 (fun j V=>kJ _ (by omega) (lD _ V (by omega))))<|qC 6 (rv .u64 (fun _=>0)) fun g2 w3 yZ m5 s2 z2 => ?_;have⟨m6,m7,b3⟩:=jh s2.old m3 m4 b2;have qN:=jc yZ b2.size;have⟨Ze,Zj⟩:=yT yZ m3.lt afB.lt;have zL:=m5.lt;refine dZ m5 0 fun w4 m9 s3 z3 => ?_;have m10:aQ w4 g2 6 (rv .u64 g.s.known) 26:=aR m9;have m11:=m6.bY s3 (by omega);have gM:=gK s3 m5.ty;have m12:=jO gM m7;have b4:=s3.below b3 b3.size (by omega);refine aD<|Ws<|ay<|av (au 0)<|aD<|Wb<|Wo (fun f z => ∃ j:Nat,∃ u:Nat,∃ l:lH,∃ A:Nat,j<=an/\l.core=oo ev K g.core j/\Inv l.core A/\A<=T+r*60+j/\f 0=(pt u)/\f 1 = .slice O (an) (E)/\f 5=(pt H)/\f 7=au (r:Int)/\f 8=(pt g2)/\f 9=au (j:Int)/\aQ z H 6 (rv .u64 K) 26/\aQ z g2 6 (rv .u64 g.s.known) 26/\uZ z B u l/\Below w.heap.size w z) (fun f _=>(an-(intOf (f 9)).toNat)) ⟨0,x,g,N,by omega,rfl,S,by omega,h1,h2,h3,(h4.trans Fx.ic),(by rfl),Fx.ic,m11,m10,m12,b4⟩ ?_;rintro f2 t ⟨j,u,l,A,V,U,D,hT2,I,C,R,h8,h9,y,W,m15,J,G⟩;refine Ws<|ay<|aY y<|aY C<|av (au an) ?_;by_cases c24:(j:Int)<(an:Int)
  ·refine Lv aG (iL c24)<|aD<|aO<|Wk<|sN<|Ws<|Wb<|Ws ?_;obtain⟨a,ha,ho⟩:=eG (iG (hmay j (by omega)));have eN:aK (ev j)=a:=(by unfold aK; omega);refine yS<|eB C<|eB y ?_;obtain⟨F,L,eq1,Z⟩:=(hA.up G rfl) (by omega);have amx:F<t.heap.size:=Z.lt (by omega);refine Qv (pf F (14*j+L)) (fun b d=>dh 14 (hx:=(rfl.trans (K_ (fun q=>Value.slice q (an) (E)) eq1))))<|aX (pf F (14*j+L+1))<|Qv (aC ((ev j).seq)) (fun b d=>aM (Z.dr d) (14*j+1) (Fx.iw (k:=j) (j:=1) (by omega) (by omega) rfl))<|eB C<|eB y<|Qv (pf F (14*j+L)) (fun b d=>dh 14 (hx:=(rfl.trans (K_ (fun q=>Value.slice q (an) (E)) eq1))))<|aX (pf F (14*j+L))<|Qv (au ((ev j).o)) (fun b d=>aM (Z.dr d) (14*j) (Fx.iw (k:=j) (j:=0) (by omega) (by omega) rfl))<|Qv (au a) (fun b d=>fQ)<|Qv (pf H a) (fun b d=>jm 6 1 (hx:=R))<|Qv (aC (K a)) (fun b d=>aM (W.aH.dr d) a) ?_;by_cases P:((ev j).seq)<=(K a)
   ·refine Qv aG (fun b d=>mW P)<|Qn ?_;rintro _ ⟨v,rfl⟩;obtain⟨Dn,oG⟩ : ∃ b,b=World.drewN t v:=⟨_,rfl⟩;rw[<- oG];have s4:Stp t.heap.size t Dn:=(by rw[oG]; exact Sb (jD t v));have⟨m18,m19,m20,m21,b6⟩:=qD s4.old W m15 J Z G;clear oG;refine sN<|aO<|Wl<|aY I<|aY C<|aY y<|Lv (pf F (14*j+L)) (dh 14 (hx:=(rfl.trans (K_ (fun q=>Value.slice q (an) (E)) eq1))))<|Lv (.agg (aA 14 (bH (ev j)))) (fJ m21 (14*j) (fun jq hjq=>Fx.mo (k:=j) (by omega) hjq))<|lS (Ou l B u A (ev j) _ m20 (hwf j (by omega)) D.w (by omega)) ?_;rintro e9 w6 ⟨M,m3,he,hc3,hL1,hb1⟩;refine⟨.tuple #[(pt M),au (bG l.core (ev j))],he,?_⟩;clear he;have⟨m22,m23,b7⟩:=jh hb1 m18 m19 b6;refine av (.tuple #[(pt M),au (bG l.core (ev j))])<|av (pt M)<|av (au (bG l.core (ev j)))<|av (pt M)<|Ln<|bT<|sN<|Wl<|aY y<|Lv (au ((j:Int)+1)) fE<|av (au ((j:Int)+1))<|Ln<|iB ⟨j+1,M,m3,A+1,by omega,(Uq U (by rw[eN]; exact P) hc3),(by rw[hc3]; exact G6 (hsm j (by omega)) D),by omega,(by rfl),C,R,(h8.trans Fx.ic),h9,Fx.ic,m22,m23,hL1,b7⟩ ?_;show(an-(intOf (au ((j:Int)+1))).toNat)<_;simp only[y,intOf]; omega
   refine Qv aF (fun b d=>nk P)<|Qn ?_;rintro _ ⟨v,rfl⟩;obtain⟨wq2,vQ⟩ : ∃ b,b=World.drewN t v:=⟨_,rfl⟩;rw[<- vQ];have s6:Stp t.heap.size t wq2:=(by rw[vQ]; exact Sb (jD t v));have⟨mZ,nT,oM,b8⟩:=mJ s6.old W m15 J G;clear vQ;refine sN<|aL<|Wk<|bT<|sN<|Wl<|aY y<|Lv (au ((j:Int)+1)) fE<|av (au ((j:Int)+1))<|Ln<|iB ⟨j+1,u,l,A,by omega,(XM U (by rw[eN]; exact P)),D,by omega,I,C,R,(h8.trans Fx.ic),h9,Fx.ic,mZ,nT,oM,b8⟩ ?_;show(an-(intOf (au ((j:Int)+1))).toNat)<_;simp only[y,intOf]; omega
  refine Lv aF (iM c24)<|aD<|aL<|Wx<|cK<|gU<|cO<|sN<|Ws ?_;have amy:=J.c;refine yS<|eB I<|aX (pt u)<|aX (pt u)<|aX (pf u 12)<|Qv (.agg (aA 6 (rv .u64 l.s.known))) (fun b d=>fJ (amy.aH.dr d) 12 (fun j V=>kJ _ (by omega) (lD _ V (by omega))))<|Qv (.agg (aA 6 (rv .u64 g.s.known))) (fun b d=>fJ (m15.aH.dr d) 0 (ha:=h9)) ?_;by_cases Q : ∀ i,i<6->(rv .u64 l.s.known) i=(rv .u64 g.s.known) i
  ·refine Qv aG (fun b d=>Fx.vw (n:=6) (ks:=List.replicate 6 (some .u64)) (X:=rv .u64 l.s.known) (Y:=rv .u64 g.s.known) 12 true rfl rfl rfl (Fx.Pg Q) (AO.kd D.kn) (AO.kd S.kn) rfl (by kernel_rfl) (by kernel_rfl) (by kernel_rfl) (by kernel_rfl) (by kernel_rfl))<|Qn ?_;rintro _ ⟨v,rfl⟩;obtain⟨Zf,ET⟩ : ∃ b,b=World.drewN t v:=⟨_,rfl⟩;rw[<- ET];have s7:Stp t.heap.size t Zf:=(by rw[ET]; exact Sb (jD t v));have⟨lU,b9⟩:=eU s7.old J G;clear ET;refine sN<|aO<|ay<|aY I<|av (pt u)<|aD<|Wr<|bI<|sR<|qo<|bI<|sR<|aJ (pt u) ?_;exact⟨u,l,rfl,((Qr (n:=an) (r:=r) (by omega) (by rw[show an=j by omega]; exact U) (G7.2 Q)).symm.trans hc1),D.mono (by omega),lU,b9⟩
  refine Qv aF (fun b d=>Fx.vw (n:=6) (ks:=List.replicate 6 (some .u64)) (X:=rv .u64 l.s.known) (Y:=rv .u64 g.s.known) 12 false rfl rfl rfl (Fx.nob Q) (AO.kd D.kn) (AO.kd S.kn) rfl (by kernel_rfl) (by kernel_rfl) (by kernel_rfl) (by kernel_rfl) (by kernel_rfl))<|Qn ?_;rintro _ ⟨v,rfl⟩;obtain⟨wq4,EU⟩ : ∃ b,b=World.drewN t v:=⟨_,rfl⟩;rw[<- EU];have s8:Stp t.heap.size t wq4:=by rw[EU]; exact Sb (jD t v)
  have⟨qw,qG,b10⟩:=jh s8.old W J G;clear EU;refine sN<|aL<|Wk<|bT<|sN<|Wl<|aY h8<|Lv (au ((r:Int)+1)) fE<|av (au ((r:Int)+1))<|Ln<|iB ⟨r+1,u,l,A,by omega,(Ur (by omega) (by rw[show an=j by omega]; exact U) (fun h=>Q (G7.1 h))).trans hc1,D,by omega,I,C,R,Fx.ic,qw,qG,b10⟩ ?_;show(an+1-(intOf (au ((r:Int)+1))).toNat)<_;simp only[h4,intOf]; omega
 refine Lv aF (nk c13)<|aD<|aL<|Wx<|cK<|gU<|cO<|sN<|ay<|aY h1<|av (pt x)<|aD<|Wr<|aJ (pt x) ?_;exact⟨x,g,rfl,(by rw[<- hc1,show an+1-r=0 by omega]; unfold iO; rfl),S.mono (by omega),m4,b2⟩
end
section
namespace Rt
def zeroE:EvM:=⟨0,0,fun _=>0,0,0,0,0,0,0⟩
def eO(ev:Nat->EvM):Nat->Nat->Int
 | 0,_=>0
 | k+1,i=>eO ev k i+if aK (ev k)=i then 1 else 0
structure FV(ev:Nat->EvM)(an:Nat)(K:Nat->Int):Prop where
 le : ∀ i,i<6->K i<=eO ev an i
 cl : ∀ k,k<an->(ev k).seq<=K (aK (ev k)) -> ∀ i,i<6->(ev k).deps i<=K i
structure Cz(n an:Nat)(ev:Nat->EvM)(kn:Nat->Nat->Int):Prop where
 rd : ∀ k,k<an->dw (eO ev k) (ev k)=true
 reg : ∀ k,k<an->aK (ev k)<n
 own : ∀ o,o<n->kn o o=eO ev an o
 kc : ∀ o,o<n->FV ev an (kn o)
section
variable {ev:Nat->EvM} {an n j k i:Nat} {K:Nat->Int} {kn kn':Nat->Nat->Int} {v:EvM} {L:fB}
theorem Ut : ∀ d k i,eO ev k i<=eO ev (k+d) i
 | 0,_,_=>M_ _
 | d+1,k,i=>by have:=Ut d k i; show _<=eO ev (k+d) i+_; split <;> omega
theorem cnt_mono(h:j<=k):eO ev j i<=eO ev k i:=by have:=Ut (ev:=ev) (k-j) j i; rwa [show j+(k-j)=k by omega]at this
theorem D7(h:j<k):eO ev j (aK (ev j))+1<=eO ev k (aK (ev j)):=by
 have a:eO ev (j+1) (aK (ev j))<=eO ev k (aK (ev j)):=cnt_mono (by omega);have b:eO ev (j+1) (aK (ev j))=eO ev j (aK (ev j))+1:=by show _+(if _ then _ else _)=_; rw[d_ rfl]
 omega
theorem zV : ∀ k i,0<=eO ev k i
 | 0,_=>M_ _
 | k+1,i=>by have:=zV k i; unfold eO; split <;> omega
theorem Dz(h:dw K v=true):bM v=true/\v.seq=K (aK v)+1 /\ ∀ i,i<6->v.deps i<=K i:=by
 unfold dw at h;simp only[R_,decide_eq_true_eq]at h;refine⟨h.1.1,h.1.2,fun i a => ?_⟩;have:=h.2;unfold xG at this;rw[List.all_eq_true]at this;exact h_ (this i (N_.2 a))
theorem BR(h1:bM v=true)(a:v.seq=K (aK v)+1)(b : ∀ i,i<6->v.deps i<=K i):dw K v=true:=by
 unfold dw;simp only[R_,decide_eq_true_eq];refine⟨⟨h1,a⟩,?_⟩;unfold xG;rw[List.all_eq_true];intro i c;exact f_ (b i (N_.1 c))
theorem Cz.seq(h:Cz n an ev kn)(a:k<an):(ev k).seq=eO ev k (aK (ev k))+1:=(Dz (h.rd k a)).2.1
theorem Cz.MQ(h:Cz n an ev kn)(a:k<an):(ev k).seq<=eO ev an (aK (ev k)):=by rw[h.seq a]; exact D7 a
theorem Cz.uniq(h:Cz n an ev kn)(c:j<an)(d:k<an)(b:aK (ev j)=aK (ev k))(a:(ev j).seq=(ev k).seq):j=k:=by
 rw[h.seq c,h.seq d]at a
 rcases Nat.lt_trichotomy j k with h1|h1|h1
 ·have:=D7 (ev:=ev) h1; rw[b]at this a; omega
 ·exact h1
 have:=D7 (ev:=ev) h1; rw[<- b]at this a; omega
theorem Cz.step(h:Cz n an ev kn)(c:FV ev an K)(d:j<an)(hr:dw K (ev j)=true):FV ev an (aI K (aK (ev j)) (K (aK (ev j))+1)):=by
 obtain⟨_,l,m⟩:=Dz hr;have g : ∀ i,K i<=aI K (aK (ev j)) (K (aK (ev j))+1) i:=fun i=>by unfold aI; split <;> (try subst_vars) <;> omega
 refine⟨fun i a => ?_,fun k f b i a => ?_⟩
 ·unfold aI; split
  ·rename_i e; rw[e,<- l]; exact h.MQ d
  exact c.le i a
 by_cases e:(ev k).seq<=K (aK (ev k))
 ·exact Q_ (c.cl k f e i a) (g i)
 unfold aI at b;split at b
 ·rename_i e2;rw[e2]at e;have:k=j:=h.uniq f d e2 (by omega);subst this;exact Q_ (m i a) (g i)
 exact L_ b e
theorem iW(h:bG L v=0):dw L.known v=true:=by
 unfold bG at h;split at h; · cases h
 split at h; · cases h
 split at h; · cases h
 rename_i h3
 cases e:dw L.known v with
 | true=>rfl
 | false=>exact L_ e h3
theorem qK(L:fB)(v:EvM):(bG L v=0/\(dz L v).known=aI L.known (aK v) (L.known (aK v)+1))\/(bG L v≠0/\dz L v=L):=by
 by_cases h:bG L v=0
 ·refine .inl ⟨h,?_⟩;unfold dz; rw[d_ h];show aI (iF L v).known _ _=_;rw[pE]
 refine .inr ⟨h,?_⟩;unfold dz; rw[b_ h]
def KnO(ev:Nat->EvM)(an o:Nat)(K:Nat->Int):Prop:=FV ev an K/\K o=eO ev an o
theorem Cz.apply(h:Cz n an ev kn){o:Nat}(a:KnO ev an o L.known)(c:j<an):KnO ev an o (dz L (ev j)).known:=by
 rcases qK L (ev j)with ⟨f,b⟩|⟨_,b⟩
 ·have d:=iW f;rw[b];refine⟨h.step a.1 c d,?_⟩;unfold aI;split
  ·rename_i e;have:=(Dz d).2.1;have g:=h.MQ c;rw[<- e]at this g;have:=a.2;omega
  exact a.2
 rw[b]; exact a
theorem Cz.pass(h:Cz n an ev kn){o:Nat}{b:Nat->Int}(a:KnO ev an o L.known) : ∀ j,j<=an->KnO ev an o (oo ev b L j).known
 | 0,_=>a
 | j+1,hj=>by
   unfold oo;split
   ·exact h.apply (h.pass a j (by omega)) (by omega)
   ·exact h.pass a j (by omega)
theorem Cz.iO(h:Cz n an ev kn){o:Nat}{a:Nat->Int} : ∀ f L,KnO ev an o L.known->KnO ev an o (iO ev an a f L).known
 | 0,L,hL=>by unfold Rt.iO; exact hL
 | f+1,L,hL=>by
   unfold Rt.iO;split
   ·exact h.pass hL an (z_ _)
   ·exact h.iO f _ (h.pass hL an (z_ _))
theorem Cz.learn(h:Cz n an ev kn){o:Nat}(g:o<n){b:Nat->Int}(i:L.known=kn o)(c : ∀ q,q≠o->kn' q=kn q)(d:kn' o=(E8 ev an b L).known):Cz n an ev kn':=by
 have f:KnO ev an o (E8 ev an b L).known:=h.iO (an+1) L (by rw[i]; exact⟨h.kc o g,h.own o g⟩);refine⟨h.rd,h.reg,fun q a => ?_,fun q a => ?_⟩
 ·by_cases e:q=o
  ·subst e; rw[d]; exact f.2
  rw[c q e]; exact h.own q a
 by_cases e:q=o
 ·subst e; rw[d]; exact f.1
 rw[c q e]; exact h.kc q a
theorem Bb : ∀ k,k<=an -> ∀ i,eO (aI ev an v) k i=eO ev k i
 | 0,_,_=>rfl
 | k+1,hk,i=>by
   have e:aI ev an v k=ev k:=(by unfold aI; rw[b_ (by omega)]);show eO (aI ev an v) k i+(if aK (aI ev an v k)=i then 1 else 0)=eO ev k i+if aK (ev k)=i then 1 else 0;rw[e,Bb k (by omega) i]
theorem Oz(i:Nat):eO (aI ev an v) (an+1) i=eO ev an i+if aK v=i then 1 else 0:=by
 show eO (aI ev an v) an i+(if aK (aI ev an v an)=i then 1 else 0)=_;rw[Bb an (z_ _)];unfold aI; rw[d_ rfl]
theorem Cz.event(h:Cz n an ev kn){o:Nat}(m:o<n)(hr:dw (kn o) v=true)(d:aK v=o)(y:v.deps=kn o)(g : ∀ q,q≠o->kn' q=kn q)(j:kn' o=aI (kn o) o (kn o o+1)):Cz n (an+1) (aI ev an v) kn':=by
 obtain⟨u,t,z⟩:=Dz hr;rw[d]at t;have s : ∀ k,k<an->aI ev an v k=ev k:=fun k l=>by unfold aI; rw[b_ (by omega)]
 have r:aI ev an v an=v:=by unfold aI; rw[d_ rfl]
 have p:=h.own o m;refine⟨fun k l => ?_,fun k l => ?_,fun q c => ?_,fun q c=>⟨fun i b => ?_,fun k l a i b => ?_⟩⟩
 ·have e:eO (aI ev an v) k=eO ev k:=funext fun i=>Bb k (by omega) i;rw[e];by_cases f:k=an
  ·subst f; rw[r];refine BR u (by rw[d,t,p]) fun i b => ?_;exact Q_ (z i b) ((h.kc o m).le i b)
  rw[s k (by omega)]; exact h.rd k (by omega)
 ·by_cases f:k=an
  ·subst f; rw[r,d]; exact m
  rw[s k (by omega)]; exact h.reg k (by omega)
 ·rw[Oz,d];by_cases e:q=o
  ·subst e; rw[j,d_ rfl]; unfold aI; rw[d_ rfl,p]
  rw[g q e,b_ (fun x=>e x.symm),h.own q c,C_]
 ·rw[Oz,d];by_cases e:q=o
  ·subst e; rw[j]; unfold aI;split
   ·rename_i ei; subst ei; rw[d_ rfl,p]; exact M_ _
   have:=(h.kc q c).le i b; split <;> omega
  rw[g q e]; have:=(h.kc q c).le i b; split <;> omega
 by_cases f:k=an
 ·subst f;rw[r]at a ⊢;by_cases e:q=o
  ·subst e; rw[j,y]; unfold aI; split <;> (try subst_vars) <;> omega
  rw[g q e,d,t]at a;have:=(h.kc q c).le o;have w:o<6:=by have:=jZ u; omega
  have:=this w;omega
 rw[s k (by omega)]at a ⊢;by_cases e:q=o
 ·subst e;rw[j]at a ⊢;have A : ∀ i,kn q i<=aI (kn q) q (kn q q+1) i:=fun i=>by unfold aI; split <;> (try subst_vars) <;> omega
  refine Q_ ((h.kc q c).cl k (by omega) ?_ i b) (A i);unfold aI at a;split at a
  ·rename_i e3; have:=h.MQ (k:=k) (by omega); rw[e3]at this ⊢; omega
  exact a
 rw[g q e]at a ⊢; exact(h.kc q c).cl k (by omega) a i b
theorem Cz.zero(n:Nat)(h : ∀ o,o<n->kn o=fun _=>0):Cz n 0 ev kn:=⟨fun _ h=>L_ h (u_ _),fun _ h=>L_ h (u_ _),fun o a=>by rw[h o a]; rfl,fun o a=>⟨fun i _=>by rw[h o a]; exact M_ _,fun _ h=>L_ h (u_ _)⟩⟩
end
end Rt
end
end Go.Proofs.YtahbiajdgealnaaDoor
namespace Go.Proofs.YtahbiajdgealnaaDoor
open Go.RowKit
namespace Fx
section
variable {S S':Nat->Prop}
theorem jM.trans(w w' c:World)(h:jM S w w')(k:jM S w' c):jM S w c:=⟨k.os.trans h.os,k.tape.trans h.tape,k.output.trans h.output,m_ h.size k.size,fun i b a=>(k.block i (n_ b h.size) a).trans (h.block i b a)⟩
theorem jM.mono{w w':World}(h:jM S w w')(a : ∀ k,S k->S' k):jM S' w w':=⟨h.os,h.tape,h.output,h.size,fun i b c=>h.block i b fun d=>c (a i d)⟩
theorem jM.Bv{g:Nat}{w w':World}(h:Stp g w w'):jM (fun k=>k=g) w w':=(uT _ w).then h (.inl rfl)
end
end Fx
end Go.Proofs.YtahbiajdgealnaaDoor
namespace Go.Proofs.YtahbiajdgealnaaDoor
open Go.RowKit Rt
open Fx (fI fq fP bF gX gW dA dY gP jE eZ jF gy jv jG Lv sN Ln Ws Qv Wl Rp Wc Qs Wr Sb Lk Wk rC rV sR Rs Rn Rd Rk Wb Wx Wo FQ Wt rT Qn F3 Bl Af Ar DI Ei rM gK Av mV wI uT wX xX Aq DL Au rv aA aQ bR aN ev bZ Stp dJ aR flat dD Mp fA aU iR iQ bJ down iI jM iT nY bP bL cells_one jl bS wQ unseen jN iK bX dH bI bT cK cO gU iB qo gu)
section
set_option linter.unusedVariables false
set_option maxRecDepth 20000
structure dM where
 inn:Nat->Bool
 left:Nat->Bool
 known:Nat->Int
 own:Nat->Int
 T:dK
 R:Nat->Nat->Int
 gn:Nat
 g:Nat->Nat->Int
 an:Nat
 ao:Nat->Int
 ar:Nat->Int
 tp:Nat
 mb:Nat
 pb:Nat
 rb:Nat
 gb:Nat
 ab:Nat
def vg(m:dM):Nat->Value:=fun p=>if p<6 then .bool (m.inn p)else if p<12 then .bool (m.left (p-6))else if p<18 then .int .u64 (m.known (p-12))else if p=18 then .pointer (some ⟨m.tp,0,none⟩)else if p=19 then .map (some m.pb)else if p=20 then .map (some m.rb)else if p<27 then .int .i64 (m.own (p-21))else if p=27 then .map (some m.gb)else .map (some m.ab)
section
variable {m:dM} {p q:Nat}
theorem E9(h:p<6):vg m p = .bool (m.inn p):=by unfold vg; rw[d_ h]
theorem Fa(h:p<6)(e:q=p+6):vg m q = .bool (m.left p):=by subst e; unfold vg; rw[b_ (by omega),d_ (by omega),Nat.add_sub_cancel]
theorem uQ(h:p<6)(e:q=p+12):vg m q = .int .u64 (m.known p):=by subst e; unfold vg; rw[b_ (by omega),b_ (by omega),d_ (by omega),Nat.add_sub_cancel]
theorem Jf(h:p<6)(e:q=p+21):vg m q = .int .i64 (m.own p):=by subst e; unfold vg; rw[b_ (by omega),b_ (by omega),b_ (by omega),b_ (by omega),b_ (by omega),b_ (by omega),d_ (by omega),Nat.add_sub_cancel]
theorem Uu{i:Nat}(hi:i<6)(b:Bool):dD (vg m) i (.bool b)=vg { m with inn:=aI m.inn i b }:=by
 funext p
 unfold dD;by_cases e:p=i
 ·subst e; rw[d_ rfl,E9 hi]; simp[aI]
 rw[b_ e]; unfold vg;by_cases h:p<6
 ·rw[d_ h,d_ h]; simp[aI,e]
 rw[b_ h,b_ h]
theorem Uv{i:Nat}(hi:i<6)(c:q=i+6)(b:Bool):dD (vg m) q (.bool b)=vg { m with left:=aI m.left i b }:=by
 subst c
 funext p
 unfold dD;by_cases e:p=i+6
 ·subst e; rw[d_ rfl,Fa hi rfl]; simp[aI]
 rw[b_ e]; unfold vg;by_cases h:p<6
 ·rw[d_ h,d_ h]
 rw[b_ h,b_ h];by_cases a:p<12
 ·rw[d_ a,d_ a]; simp[aI,show ¬ p-6=i by omega]
 rw[b_ a,b_ a]
theorem Qu{i:Nat}(hi:i<6)(c:q=i+12)(x:Int):dD (vg m) q (.int .u64 x)=vg { m with known:=aI m.known i x }:=by
 subst c
 funext p
 unfold dD;by_cases e:p=i+12
 ·subst e; rw[d_ rfl,uQ hi rfl]; simp[aI]
 rw[b_ e]; unfold vg;by_cases h:p<6
 ·rw[d_ h,d_ h]
 rw[b_ h,b_ h];by_cases a:p<12
 ·rw[d_ a,d_ a]
 rw[b_ a,b_ a];by_cases b:p<18
 ·rw[d_ b,d_ b]; simp[aI,show ¬ p-12=i by omega]
 rw[b_ b,b_ b]
theorem XP{i:Nat}(hi:i<6)(j:q=i+21)(x:Int):dD (vg m) q (.int .i64 x)=vg { m with own:=aI m.own i x }:=by
 subst j
 funext p
 unfold dD;by_cases e:p=i+21
 ·subst e; rw[d_ rfl,Jf hi rfl]; simp[aI]
 rw[b_ e]; unfold vg;by_cases h:p<6
 ·rw[d_ h,d_ h]
 rw[b_ h,b_ h];by_cases a:p<12
 ·rw[d_ a,d_ a]
 rw[b_ a,b_ a];by_cases b:p<18
 ·rw[d_ b,d_ b]
 rw[b_ b,b_ b];by_cases c:p=18
 ·rw[d_ c,d_ c]
 rw[b_ c,b_ c];by_cases d:p=19
 ·rw[d_ d,d_ d]
 rw[b_ d,b_ d];by_cases f:p=20
 ·rw[d_ f,d_ f]
 rw[b_ f,b_ f];by_cases g:p<27
 ·rw[d_ g,d_ g]; simp[aI,show ¬ p-21=i by omega]
 rw[b_ g,b_ g]
end
def wP(R:Nat->Nat->Int):Nat->Value:=fun i => .agg (aA 54 (rv .i64 (R i)))
def Fb(T:dK):Nat->Value:=fun j => .int .u64 (T.p j)
def zW(g:Nat->Nat->Int):Nat->Value:=fun i => .agg (aA 5 (ng (g i)))
def Fe:Nat->Value:=fun _ => .bool true
structure QlN(m:dM):Prop where
 mp:m.mb≠m.pb
 mr:m.mb≠m.rb
 mg:m.mb≠m.gb
 ma:m.mb≠m.ab
 pr:m.pb≠m.rb
 pg:m.pb≠m.gb
 pa:m.pb≠m.ab
 rg:m.rb≠m.gb
 ra:m.rb≠m.ab
 ga:m.gb≠m.ab
structure kQ(w:World)(B lp:Nat)(m:dM):Prop where
 c:aQ w lp 29 (vg m) 93
 t:rR w B m.tp m.mb m.T
 p:Mp w m.pb m.T.n m.T.x (Fb m.T)
 r:Mp w m.rb m.T.n m.T.x (wP m.R)
 g:iR w m.gb m.gn (fun i=>m.g i 0) (fun i=>m.g i 1) (zW m.g)
 a:iR w m.ab m.an m.ao m.ar Fe
 ne:QlN m
 lB:B<=lp
 pB:B<=m.pb
 rB:B<=m.rb
 gB:B<=m.gb
 aB:B<=m.ab
def Bp(m:dM)(lp:Nat)(k:Nat):Prop:=k=lp\/k=m.mb\/k=m.pb\/k=m.rb\/k=m.gb\/k=m.ab
section
variable {w w':World} {B lp:Nat} {m:dM}
theorem kQ.up(h:kQ w B lp m)(b:Below w.heap.size w w'):kQ w' B lp m := { h with c:=h.c.bY (Sb b) (t_ h.c.lt),t:=h.t.up b,p:=h.p.up b,r:=h.r.up b,g:=h.g.up b,a:=h.a.up b }
instance:Rt.Tr w w' (kQ w B lp m) (kQ w' B lp m):=⟨fun b h=>h.up b⟩
theorem kQ.kg{d:List TypeId}(h:kQ w B lp m)(b:jl d w w')(e:(d.contains 93 || d.contains 116)=false):kQ w' B lp m:=by
 rw[Bool.or_eq_false_iff]at e;exact { h with c:=h.c.kg b e.1,t:=h.t.kg b e.2,p:=h.p.kg b trivial,r:=h.r.kg b trivial,g:=h.g.kg b trivial,a:=h.a.kg b trivial }
instance {a:List TypeId}:Rt.Tc a w w' (kQ w B lp m) (kQ w' B lp m) (!(a.contains 93 || a.contains 116)):=⟨fun b h e=>h.kg b (by simpa using e)⟩
theorem rR.keep{b a:Nat}{T:dK}(h:rR w B b a T)(c:w'.heap[b]? = w.heap[b]?)(d:w'.heap[a]? = w.heap[a]?):rR w' B b a T:=⟨c.trans h.blk,h.map.keep d,h.inv,h.gt,h.gm⟩
theorem kQ.keep(h:kQ w B lp m)(b : ∀ k,k=lp\/k=m.tp\/k=m.mb\/k=m.pb\/k=m.rb\/k=m.gb\/k=m.ab->w'.heap[k]? = w.heap[k]?):kQ w' B lp m := { h with
 c:=(b _ (.inl rfl)).trans h.c,t:=rR.keep h.t (b _ (.inr (.inl rfl))) (b _ (.inr (.inr (.inl rfl)))),p:=h.p.keep (b _ (.inr (.inr (.inr (.inl rfl))))),r:=h.r.keep (b _ (.inr (.inr (.inr (.inr (.inl rfl)))))),
 g:=h.g.keep (b _ (.inr (.inr (.inr (.inr (.inr (.inl rfl))))))),a:=h.a.keep (b _ (.inr (.inr (.inr (.inr (.inr (.inr rfl))))))) }
theorem kQ.chg{S:Nat->Prop}(h:kQ w B lp m)(f:jM S w w')(d : ∀ k,k=m.tp\/Bp m lp k -> ¬ S k):kQ w' B lp m:=by
 have b : ∀ k,k<w.heap.size -> ¬ S k->w'.heap[k]? = w.heap[k]? := f.block;refine h.keep fun k e => ?_
 rcases e with rfl|rfl|rfl|rfl|rfl|rfl|rfl
 ·exact b _ h.c.lt (d _ (.inr (.inl rfl)))
 ·exact b _ h.t.blk.lt (d _ (.inl rfl))
 ·exact b _ h.t.lt (d _ (.inr (.inr (.inl rfl))))
 ·exact b _ h.p.lt (d _ (.inr (.inr (.inr (.inl rfl)))))
 ·exact b _ h.r.lt (d _ (.inr (.inr (.inr (.inr (.inl rfl))))))
 ·exact b _ h.g.lt (d _ (.inr (.inr (.inr (.inr (.inr (.inl rfl)))))))
 exact b _ h.a.lt (d _ (.inr (.inr (.inr (.inr (.inr (.inr rfl)))))))
theorem kQ.weak{b:Nat}(h:kQ w B lp m)(a:b<=B):kQ w b lp m := { h with t:=h.t.weak a,lB:=m_ a h.lB,pB:=m_ a h.pB,rB:=m_ a h.rB,gB:=m_ a h.gB,aB:=m_ a h.aB }
theorem kQ.lt(h:kQ w B lp m):lp<w.heap.size:=h.c.lt
theorem kQ.ltS(h:kQ w B lp m){k:Nat}(b:Bp m lp k):B<=k/\k<w.heap.size:=by
 rcases b with rfl|rfl|rfl|rfl|rfl|rfl
 ·exact⟨h.lB,h.c.lt⟩
 ·exact⟨h.t.gm,h.t.lt⟩
 ·exact⟨h.pB,h.p.lt⟩
 ·exact⟨h.rB,h.r.lt⟩
 ·exact⟨h.gB,h.g.lt⟩
 exact⟨h.aB,h.a.lt⟩
end
namespace Rt
def zh(x:Nat->Int):Nat->Int->Nat
 | 0,_=>0
 | n+1,k=>if x n=k then n else zh x n k
theorem nQ{x:Nat->Int}{j:Nat}{k:Int} : ∀ {n:Nat},(∀ a b,a<n->b<n->x a=x b->a=b)->j<n->x j=k->zh x n k=j
 | 0,_,h,_=>L_ h (u_ _)
 | n+1,hi,hj,e=>by
   unfold zh;by_cases c:x n=k
   ·rw[d_ c]; exact hi n j (by omega) hj (c.trans e.symm)
   ·rw[b_ c];refine nQ (fun a b d f=>hi a b (by omega) (by omega)) ?_ e
    rcases Nat.lt_or_ge j n with h|h
    ·exact h
    ·obtain rfl:j=n:=(by omega);exact L_ e c
end Rt
def dM.idx(m:dM)(k:Int):Nat:=zh m.T.x m.T.n k
def MR(m:dM)(lp a:Nat)(k:Nat):Prop:=Bp m lp k\/a<=k
structure Uw(w:World)(B lp:Nat)(m m':dM)(b0:Nat)(fv:Value)(fi:Nat)(cap:Array Value):Prop where
 e:fv = .func (.func fi) #[] cap
 f : ∃ fn c, Tryd.prog.funcs[fi]? = some fn ∧ (fn.name == "runtime.NumGoroutine") = false ∧ fn.body = some c
 s : ∀ w2,Below w.heap.size w w2->Calls Tryd.prog fi cap w2 fun e w3=>e = .returned (.tuple #[])/\kQ w3 B lp m'/\jM (MR m lp b0) w2 w3
def Q9(w:World)(B lp:Nat)(m f:dM)(b:Int)(e:Ending)(w':World):Prop :=
 (∃ a d c,e = .returned (.tuple #[a,.int .i64 b])/\a.oneCell'=true/\(b=0->Uw w' B lp m f w.heap.size a d c))/\Below w.heap.size w w'
theorem kQ.Jg{w w':World}{B lp g n d:Nat}{m:dM}{x:Nat->Value}{T:TypeId}(h:kQ w B lp m)(b:aQ w g n x T)(f:T≠93)(i:jM (MR m lp d) w w')(j:g<d):aQ w' g n x T:=b.chg i fun e=>by
 rcases e with (rfl|rfl|rfl|rfl|rfl|rfl)|e
 ·exact f (Fx.Ty.only h.c.ty b.ty)
 ·exact h.t.map.qW b.ty
 ·exact h.p.qW b.ty
 ·exact h.r.qW b.ty
 ·exact h.g.qW b.ty
 ·exact h.a.qW b.ty
 ·omega
theorem Fx.OA{P:Program}{f:Nat->Value}{w:World}{o:Oper}{g:Nat}{t:Operand}{b:List Operand}{args:List Value}{d:Array TypeId}{cap all:Array Value}(l:o.op = .call { callee := .value t,args:=b.toArray,argTypes:=d })(m:ev f t = .func (.func g) #[] cap)(hx:b.map (ev f)=args)(j:args.toArray++cap=all)
 (k : ∃ a c, P.funcs[g]? = some a ∧ (a.name == "runtime.NumGoroutine") = false ∧ a.body = some c) : (execOp (ev f) o).run P w = .ok (.enter g all) w := by
 obtain⟨a,c,e,h,i⟩:=k;exact Fx.Ej l m hx (by rw[<- j]; simp) e h i
namespace Fx
theorem It.dQ{w w':World}{r b n g:Nat}{S:Nat->Bool}(h:It w r b n S)(a:Pq g w w')(c:b≠g)(d:r≠g):It w' r b n S:=h.keep (a.s.block b h.QZ c) (a.s.block r h.lt d)
theorem Bn.dQ{w w':World}{r b i g:Nat}(h:Bn w r b i)(a:Pq g w w')(c:b≠g)(d:r≠g):Bn w' r b i:=h.keep (a.s.block b h.QZ c) (a.s.block r h.lt d)
end Fx
end
end Go.Proofs.YtahbiajdgealnaaDoor
namespace Go.Proofs.YtahbiajdgealnaaDoor.Fx
open Go.RowKit
section
variable {P:Program} {n0:Nat} {Q:Post} {f:Nat->Value} {w:World} {ops:Array Oper} {rest:List Oper} {o:Oper}
theorem MS{T E:TypeId}{x:Operand}{b off n s:Nat}(d:o.op = .slice T x none none none)(hx:ev f x = .pointer (some ⟨b,off,none⟩))(c:P.underlying T=some (.array n E))(e:(P.info? E).map (·.size)=some s) :
 Runs P f o w (.slice (some ⟨b,off,none⟩) n n):=by
 obtain⟨i,a,g⟩:=Option.map_eq_some_iff.1 e;unfold Runs execOp;simp only[d,hx,Option.map_none];by_cases h:n=0
 ·subst h; simp[Instr.sliceAt,Instr.sureAddr,underlying,c,Instr.sliceBounds,sizeOf,typeInfo,a]
 simp[Instr.sliceAt,Instr.sureAddr,underlying,c,Instr.sliceBounds,sizeOf,typeInfo,a,Addr.add,g]
end
end Go.Proofs.YtahbiajdgealnaaDoor.Fx
namespace Go.Proofs.YtahbiajdgealnaaDoor
open Go.RowKit Rt
open Fx (fI fq fP bF gX gW dA dY gP jE eZ jF gy jv jG Lv sN Ln Ws Qv Wl Rp Wc Qs Wr Sb Lk Wk rC rV sR Rs Rn Rd Rk Wb Wx Wo FQ Wt rT Qn F3 Bl Af Ar DI Ei rM gK Av mV wI uT wX xX Aq DL Au rv aA aQ bR aN ev bZ Stp dJ aR flat dD Mp fA aU iR iQ bJ down iI jM iT nY bP bL cells_one jl bS wQ unseen jN iK bX dH bI bT cK cO gU iB qo gu)
namespace Rt
def kR(v:EvM)(l:Int):Bool:=decide (l<=v.aT)&&decide (v.aT<=1125899906842624)
def qL(v:EvM):EvM:=⟨v.o,v.seq,v.deps,v.kind,0,v.dst,0,v.req,v.of⟩
def xL(v:EvM):Bool:=decide (0<v.req)
def MU(v:EvM):EvM:=⟨v.o,v.seq,v.deps,v.kind,v.node,v.dst,v.aT,0,v.of⟩
def abD(v:EvM):EvM:=⟨v.o,v.seq,v.deps,v.kind,v.node,v.dst,v.aT,0,0⟩
def toB(v:EvM):Bool:=jI v.dst && !decide (v.dst=v.o)
def KO(v:EvM):EvM:=⟨v.o,v.seq,v.deps,v.kind,v.node,0,v.aT,v.req,v.of⟩
end Rt
def Rt.DC(v:EvM):Bool:=decide (0<v.req)&&(decide (0<v.of) && !decide (v.of=v.req))
theorem Bc(n:Int)(w:World) :
 Calls Tryd.prog 65 #[au n] w fun e w'=>e = .returned (.bool (jI n))/\w'=w:=by
 refine Kent Tryd.func65 9 ?_;refine ay<|av aF<|aD<|ay<|av (au n) ?_;by_cases a:1<=n
 ·refine Lv aG (ko a)<|av aG<|av (au n) ?_;by_cases b:n<=6
  ·refine Lv aG (mW b)<|av aG<|av aG<|aD<|Wr<|aJ aG ?_;exact⟨gY (by simp only[jI]; first|(symm; simp; omega)|(symm; simp; done)),rfl⟩
  refine Lv aF (nk b)<|av aF<|av aF<|aD<|Wr<|aJ aF ?_;exact⟨gY (by simp only[jI]; first|(symm; simp; omega)|(symm; simp; done)),rfl⟩
 refine Lv aF (jT a)<|av aF<|dB<|dB<|av aF<|av aF<|aD<|Wr<|aJ aF ?_;exact⟨gY (by simp only[jI]; first|(symm; simp; omega)|(symm; simp; done)),rfl⟩
theorem Jh(l:Int)(v:EvM)(g:Nat)(w:World)(a:aQ w g 14 (bH v) 139) :
 Calls Tryd.prog 94 #[(pt g),au l] w fun e w'=>e = .returned (.bool (kR v l))/\aQ w' g 14 (bH (qL v)) 139/\Stp g w w':=by
 have P:=a.lt;refine Kent Tryd.func94 30 ?_;refine ay<|av aF<|aD<|ay<|av (pt g)<|av (pt g)<|av (pt g)<|av (pf g 11)<|Lv (au v.aT) (aM a.aH 11)<|av (au l) ?_;by_cases c:l<=v.aT
 ·refine Lv aG (ko c)<|av aG<|av (pt g)<|av (pt g)<|av (pt g)<|av (pf g 11)<|Lv (au v.aT) (aM a.aH 11) ?_;by_cases d:v.aT<=1125899906842624
  ·refine Lv aG (mW d)<|av aG<|av aG<|aD<|ay<|av (pt g)<|av (pt g)<|av (pt g)<|av (pt g)<|av (pf g 9)<|iX a 9 (aC 0) fun J p D Q => ?_;have t:aQ J g 14 (bH (⟨v.o,v.seq,v.deps,v.kind,0,v.dst,v.aT,v.req,v.of⟩:EvM)) 139:=p.congr (fun j b=>by rcases j with _|_|_|_|_|_|_|_|_|_|_|_|_|_|j <;> first|rfl|omega)
   have f:=(mV g w).then D (by omega);refine av (pt g)<|av (pt g)<|av (pf g 11)<|iX t 11 (au 0) fun K u E R => ?_;have x:aQ K g 14 (bH (⟨v.o,v.seq,v.deps,v.kind,0,v.dst,0,v.req,v.of⟩:EvM)) 139:=u.congr (fun j b=>by rcases j with _|_|_|_|_|_|_|_|_|_|_|_|_|_|j <;> first|rfl|omega)
   have h:=f.then E (by omega);refine aD<|ay<|av aG<|av aG<|aD<|Wr<|aJ aG ?_;exact⟨gY (by simp only[kR]; first|(symm; simp; omega)|(symm; simp; done)),x,h⟩
  refine Lv aF (nk d)<|av aF<|av aF<|aD<|ay<|av (pt g)<|av (pt g)<|av (pt g)<|av (pt g)<|av (pf g 9)<|iX a 9 (aC 0) fun L y F S => ?_;have z:aQ L g 14 (bH (⟨v.o,v.seq,v.deps,v.kind,0,v.dst,v.aT,v.req,v.of⟩:EvM)) 139:=y.congr (fun j b=>by rcases j with _|_|_|_|_|_|_|_|_|_|_|_|_|_|j <;> first|rfl|omega)
  have i:=(mV g w).then F (by omega);refine av (pt g)<|av (pt g)<|av (pf g 11)<|iX z 11 (au 0) fun M A G T => ?_;have B:aQ M g 14 (bH (⟨v.o,v.seq,v.deps,v.kind,0,v.dst,0,v.req,v.of⟩:EvM)) 139:=A.congr (fun j b=>by rcases j with _|_|_|_|_|_|_|_|_|_|_|_|_|_|j <;> first|rfl|omega)
  have k:=i.then G (by omega);refine aD<|ay<|av aF<|av aF<|aD<|Wr<|aJ aF ?_;exact⟨gY (by simp only[kR]; first|(symm; simp; omega)|(symm; simp; done)),B,k⟩
 refine Lv aF (jT c)<|av aF<|dB<|dB<|dB<|dB<|dB<|dB<|av aF<|av aF<|aD<|ay<|av (pt g)<|av (pt g)<|av (pt g)<|av (pt g)<|av (pf g 9)<|iX a 9 (aC 0) fun N C H U => ?_;have q:aQ N g 14 (bH (⟨v.o,v.seq,v.deps,v.kind,0,v.dst,v.aT,v.req,v.of⟩:EvM)) 139:=C.congr (fun j b=>by rcases j with _|_|_|_|_|_|_|_|_|_|_|_|_|_|j <;> first|rfl|omega)
 have m:=(mV g w).then H (by omega);refine av (pt g)<|av (pt g)<|av (pf g 11)<|iX q 11 (au 0) fun O r I V => ?_;have s:aQ O g 14 (bH (⟨v.o,v.seq,v.deps,v.kind,0,v.dst,0,v.req,v.of⟩:EvM)) 139:=r.congr (fun j b=>by rcases j with _|_|_|_|_|_|_|_|_|_|_|_|_|_|j <;> first|rfl|omega)
 have n:=m.then I (by omega);refine aD<|ay<|av aF<|av aF<|aD<|Wr<|aJ aF ?_;exact⟨gY (by simp only[kR]; first|(symm; simp; omega)|(symm; simp; done)),s,n⟩
theorem OB(v:EvM)(g:Nat)(w:World)(a:aQ w g 14 (bH v) 139) :
 Calls Tryd.prog 95 #[(pt g)] w fun e w'=>e = .returned (.bool (xL v))/\aQ w' g 14 (bH (MU v)) 139/\Stp g w w':=by
 have r:=a.lt;refine Kent Tryd.func95 15 ?_;refine ay<|av aF<|aD<|ay<|av (pt g)<|av (pt g)<|av (pt g)<|av (pf g 12)<|Lv (aC v.req) (aM a.aH 12) ?_;by_cases b:0<v.req
 ·refine Lv aG (nu b)<|av aG<|aD<|ay<|av (pt g)<|av (pt g)<|av (pt g)<|av (pf g 12)<|iX a 12 (aC 0) fun p h m s => ?_;have i:aQ p g 14 (bH (⟨v.o,v.seq,v.deps,v.kind,v.node,v.dst,v.aT,0,v.of⟩:EvM)) 139:=h.congr (fun j f=>by rcases j with _|_|_|_|_|_|_|_|_|_|_|_|_|_|j <;> first|rfl|omega)
  have c:=(mV g w).then m (by omega);refine aD<|ay<|av aG<|av aG<|aD<|Wr<|aJ aG ?_;exact⟨gY (by simp only[xL]; first|(symm; simp; omega)|(symm; simp; done)),i,c⟩
 refine Lv aF (ny b)<|av aF<|aD<|ay<|av (pt g)<|av (pt g)<|av (pt g)<|av (pf g 12)<|iX a 12 (aC 0) fun q k n t => ?_;have l:aQ q g 14 (bH (⟨v.o,v.seq,v.deps,v.kind,v.node,v.dst,v.aT,0,v.of⟩:EvM)) 139:=k.congr (fun j f=>by rcases j with _|_|_|_|_|_|_|_|_|_|_|_|_|_|j <;> first|rfl|omega)
 have d:=(mV g w).then n (by omega);refine aD<|ay<|av aF<|av aF<|aD<|Wr<|aJ aF ?_;exact⟨gY (by simp only[xL]; first|(symm; simp; omega)|(symm; simp; done)),l,d⟩
theorem amB(v:EvM)(g:Nat)(w:World)(h:aQ w g 14 (bH v) 139) :
 Calls Tryd.prog 96 #[(pt g)] w fun e w'=>e = .returned (.bool (DC v))/\aQ w' g 14 (bH (abD v)) 139/\Stp g w w':=by
 have lg:=h.lt;refine Kent Tryd.func96 32 ?_;refine ay<|av aF<|aD<|Ws ?_;refine yS<|aX (pt g)<|aX (pt g)<|aX (pt g)<|aX (pf g 13)<|Qv (aC v.of) (fun b d=>aM (h.aH.dr d) 13) ?_;by_cases r:0<v.of
 ·refine Qv aG (fun b d=>nu r)<|aX aG<|aX (pt g)<|aX (pt g)<|aX (pt g)<|aX (pf g 13)<|Qv (aC v.of) (fun b d=>aM (h.aH.dr d) 13)<|aX (pt g)<|aX (pt g)<|aX (pt g)<|aX (pf g 12)<|Qv (aC v.req) (fun b d=>aM (h.aH.dr d) 12) ?_;by_cases q:v.of=v.req
  ·refine Qv aF (fun b d=>jH q)<|aX aF<|aX aF<|Qn ?_;rintro _ ⟨f,rfl⟩;obtain⟨Z,i⟩ : ∃ b,b=World.drewN w f:=⟨_,rfl⟩;rw[<- i];have y:Stp w.heap.size w Z:=(by rw[i]; exact Sb (jD w f));have H:=bE y.old h;have B:=(mV g w).then y (.inr (mV g w).size);clear i;refine sN<|ay<|av (pt g)<|av (pt g)<|av (pt g)<|av (pf g 13)<|iX H 13 (aC 0) fun W K Q z1 => ?_;have L:aQ W g 14 (bH (⟨v.o,v.seq,v.deps,v.kind,v.node,v.dst,v.aT,v.req,0⟩:EvM)) 139:=K.congr (fun j s=>by rcases j with _|_|_|_|_|_|_|_|_|_|_|_|_|_|j <;> first|rfl|omega)
   have C:=B.then Q (by omega);refine aD<|ay<|av (pt g)<|lS (OB (⟨v.o,v.seq,v.deps,v.kind,v.node,v.dst,v.aT,v.req,0⟩:EvM) g _ L) ?_;rintro e w2 ⟨a,u,R⟩;have m:=C.then R (by omega);by_cases c:xL (⟨v.o,v.seq,v.deps,v.kind,v.node,v.dst,v.aT,v.req,0⟩:EvM)=true
   ·refine⟨.bool true,by rw[a,c],?_⟩;clear a;refine av aG<|av aF<|av aF<|av aF<|aD<|Wr<|aJ aF ?_;exact⟨gY (by simp only[DC,xL]at *; first|(symm; simp; omega)|(symm; simp at *; omega)|(symm; simp at *; done)),u,m⟩
   rw[S_]at c;refine⟨.bool false,by rw[a,c],?_⟩;clear a;refine av aF<|dB<|av aF<|av aF<|aD<|Wr<|aJ aF ?_;exact⟨gY (by simp only[DC,xL]at *; first|(symm; simp; omega)|(symm; simp at *; omega)|(symm; simp at *; done)),u,m⟩
  refine Qv aG (fun b d=>mX q)<|aX aG<|aX aG<|Qn ?_;rintro _ ⟨f,rfl⟩;obtain⟨aa,k⟩ : ∃ b,b=World.drewN w f:=⟨_,rfl⟩;rw[<- k];have z:Stp w.heap.size w aa:=by rw[k]; exact Sb (jD w f)
  have M:=bE z.old h;have D:=(mV g w).then z (.inr (mV g w).size);clear k;refine sN<|ay<|av (pt g)<|av (pt g)<|av (pt g)<|av (pf g 13)<|iX M 13 (aC 0) fun X N S z2 => ?_;have O:aQ X g 14 (bH (⟨v.o,v.seq,v.deps,v.kind,v.node,v.dst,v.aT,v.req,0⟩:EvM)) 139:=N.congr (fun j s=>by rcases j with _|_|_|_|_|_|_|_|_|_|_|_|_|_|j <;> first|rfl|omega)
  have E:=D.then S (by omega);refine aD<|ay<|av (pt g)<|lS (OB (⟨v.o,v.seq,v.deps,v.kind,v.node,v.dst,v.aT,v.req,0⟩:EvM) g _ O) ?_;rintro e w4 ⟨a,x,T⟩;have n:=E.then T (by omega);by_cases c:xL (⟨v.o,v.seq,v.deps,v.kind,v.node,v.dst,v.aT,v.req,0⟩:EvM)=true
  ·refine⟨.bool true,by rw[a,c],?_⟩;clear a;refine av aG<|av aG<|av aG<|av aG<|aD<|Wr<|aJ aG ?_;exact⟨gY (by simp only[DC,xL]at *; first|(symm; simp; omega)|(symm; simp at *; omega)|(symm; simp at *; done)),x,n⟩
  rw[S_]at c;refine⟨.bool false,by rw[a,c],?_⟩;clear a;refine av aF<|dB<|av aF<|av aF<|aD<|Wr<|aJ aF ?_;exact⟨gY (by simp only[DC,xL]at *; first|(symm; simp; omega)|(symm; simp at *; omega)|(symm; simp at *; done)),x,n⟩
 refine Qv aF (fun b d=>ny r)<|aX aF<|aP<|aP<|aP<|aP<|aP<|aP<|aP<|aP<|aP<|aP<|aP<|aX aF<|aX aF<|Qn ?_;rintro _ ⟨f,rfl⟩;obtain⟨ab,l⟩ : ∃ b,b=World.drewN w f:=⟨_,rfl⟩;rw[<- l];have A:Stp w.heap.size w ab:=by rw[l]; exact Sb (jD w f)
 have P:=bE A.old h;have F:=(mV g w).then A (.inr (mV g w).size);clear l;refine sN<|ay<|av (pt g)<|av (pt g)<|av (pt g)<|av (pf g 13)<|iX P 13 (aC 0) fun Y I U z3 => ?_;have J:aQ Y g 14 (bH (⟨v.o,v.seq,v.deps,v.kind,v.node,v.dst,v.aT,v.req,0⟩:EvM)) 139:=I.congr (fun j s=>by rcases j with _|_|_|_|_|_|_|_|_|_|_|_|_|_|j <;> first|rfl|omega)
 have G:=F.then U (by omega);refine aD<|ay<|av (pt g)<|lS (OB (⟨v.o,v.seq,v.deps,v.kind,v.node,v.dst,v.aT,v.req,0⟩:EvM) g _ J) ?_;rintro e w6 ⟨a,t,V⟩;have p:=G.then V (by omega);by_cases c:xL (⟨v.o,v.seq,v.deps,v.kind,v.node,v.dst,v.aT,v.req,0⟩:EvM)=true
 ·refine⟨.bool true,by rw[a,c],?_⟩;clear a;refine av aG<|av aF<|av aF<|av aF<|aD<|Wr<|aJ aF ?_;exact⟨gY (by simp only[DC,xL]at *; first|(symm; simp; omega)|(symm; simp at *; omega)|(symm; simp at *; done)),t,p⟩
 rw[S_]at c;refine⟨.bool false,by rw[a,c],?_⟩;clear a;refine av aF<|dB<|av aF<|av aF<|aD<|Wr<|aJ aF ?_;exact⟨gY (by simp only[DC,xL]at *; first|(symm; simp; omega)|(symm; simp at *; omega)|(symm; simp at *; done)),t,p⟩
theorem afC(v:EvM)(g:Nat)(w:World)(a:aQ w g 14 (bH v) 139) :
 Calls Tryd.prog 97 #[(pt g)] w fun e w'=>e = .returned (.bool (toB v))/\aQ w' g 14 (bH (KO v)) 139/\Stp g w w':=by
 have Q:=a.lt;refine Kent Tryd.func97 28 ?_;refine ay<|av aF<|aD<|Ws ?_;refine mI<|aX (pt g)<|aX (pt g)<|aX (pt g)<|aX (pf g 10)<|Qv (au v.dst) (fun d b=>aM (a.cb b) 10) ?_;by_cases c:(jI v.dst)=true
 ·refine pO (fun _ _=>Bc v.dst _) aG (by rw[c])<|aX aG<|aX (pt g)<|aX (pt g)<|aX (pt g)<|aX (pf g 10)<|Qv (au v.dst) (fun d b=>aM (a.cb b) 10)<|aX (pt g)<|aX (pt g)<|aX (pt g)<|aX (pt g)<|Qv (au v.o) (fun d b=>aM (a.cb b) 0) ?_;by_cases f:v.dst=v.o
  ·refine Qv aF (fun d b=>jH f)<|aX aF<|aX aF<|Qn ?_;intro N h;have E:Stp w.heap.size w N:=Sb h;have t:=bE h a;have m:=(mV g w).then E (.inr (mV g w).size);refine sN<|ay<|av (pt g)<|av (pt g)<|av (pt g)<|av (pf g 10)<|iX t 10 (au 0) fun K u F R => ?_;have x:aQ K g 14 (bH (⟨v.o,v.seq,v.deps,v.kind,v.node,0,v.aT,v.req,v.of⟩:EvM)) 139:=u.congr (fun j l=>by rcases j with _|_|_|_|_|_|_|_|_|_|_|_|_|_|j <;> first|rfl|omega)
   have n:=m.then F (by omega);refine aD<|ay<|av aF<|av aF<|aD<|Wr<|aJ aF ?_;exact⟨gY (by unfold toB; rw[c]; first|(symm; simp; omega)|(symm; simp; done)),x,n⟩
  refine Qv aG (fun d b=>mX f)<|aX aG<|aX aG<|Qn ?_;intro O i;have G:Stp w.heap.size w O:=Sb i;have y:=bE i a;have p:=(mV g w).then G (.inr (mV g w).size);refine sN<|ay<|av (pt g)<|av (pt g)<|av (pt g)<|av (pf g 10)<|iX y 10 (au 0) fun L z H S => ?_;have A:aQ L g 14 (bH (⟨v.o,v.seq,v.deps,v.kind,v.node,0,v.aT,v.req,v.of⟩:EvM)) 139:=z.congr (fun j l=>by rcases j with _|_|_|_|_|_|_|_|_|_|_|_|_|_|j <;> first|rfl|omega)
  have q:=p.then H (by omega);refine aD<|ay<|av aG<|av aG<|aD<|Wr<|aJ aG ?_;exact⟨gY (by unfold toB; rw[c]; first|(symm; simp; omega)|(symm; simp; done)),A,q⟩
 rw[S_]at c;refine pO (fun _ _=>Bc v.dst _) aF (by rw[c])<|aX aF<|aP<|aP<|aP<|aP<|aP<|aP<|aP<|aP<|aP<|aP<|aP<|aX aF<|aX aF<|Qn ?_;intro P k;have I:Stp w.heap.size w P:=Sb k;have B:=bE k a;have r:=(mV g w).then I (.inr (mV g w).size);refine sN<|ay<|av (pt g)<|av (pt g)<|av (pt g)<|av (pf g 10)<|iX B 10 (au 0) fun M C J T => ?_;have D:aQ M g 14 (bH (⟨v.o,v.seq,v.deps,v.kind,v.node,0,v.aT,v.req,v.of⟩:EvM)) 139:=C.congr (fun j l=>by rcases j with _|_|_|_|_|_|_|_|_|_|_|_|_|_|j <;> first|rfl|omega)
 have s:=r.then J (by omega);refine aD<|ay<|av aF<|av aF<|aD<|Wr<|aJ aF ?_;exact⟨gY (by unfold toB; rw[c]; first|(symm; simp; omega)|(symm; simp; done)),D,s⟩
namespace Rt
def lY(v:EvM):Bool :=
 if v.kind=1 then kR v 0 else if v.kind=2 then kR v 1 else if v.kind=3 then kR v 1&&xL v else if v.kind=4 then DC v else if v.kind=5 then kR v 1&&toB v else if v.kind=6 then toB v else decide (v.kind=7)
def qz(v:EvM):EvM :=
 if v.kind=1 then qL v else if v.kind=2 then qL v else if v.kind=3 then MU (qL v)else if v.kind=4 then abD v else if v.kind=5 then KO (qL v)else if v.kind=6 then KO v else v
def Ux(v:EvM):EvM:=⟨v.o,v.seq,v.deps,v.kind,0,0,0,0,0⟩
theorem abE(a b:EvM):(∀ i,i<14->bH a i=bH b i)<->a.o=b.o/\a.seq=b.seq/\(∀ i,i<6->a.deps i=b.deps i)/\a.kind=b.kind/\a.node=b.node/\a.dst=b.dst/\a.aT=b.aT/\a.req=b.req/\a.of=b.of:=by
 constructor
 ·intro h;have f:Value.int .i64 a.o=au b.o:=h 0 (by decide);have g:Value.int .u64 a.seq=aC b.seq:=h 1 (by decide);have p:Value.int .u8 a.kind = .int .u8 b.kind:=h 8 (by decide);have q:Value.int .u64 a.node=aC b.node:=h 9 (by decide);have j:Value.int .i64 a.dst=au b.dst:=h 10 (by decide);have k:Value.int .i64 a.aT=au b.aT:=h 11 (by decide);have l:Value.int .u64 a.req=aC b.req:=h 12 (by decide);have m:Value.int .u64 a.of=aC b.of:=h 13 (by decide);simp only[Value.int.injEq,true_and]at f g p q j k l m;refine⟨f,g,fun i r => ?_,p,q,j,k,l,m⟩;have n:=h (i+2) (by omega);rw[kF a rfl r,kF b rfl r]at n
  simpa using n
 rintro ⟨f,g,n,p,q,j,k,l,m⟩ i r;unfold bH;rw[f,g,p,q,j,k,l,m];by_cases c:i=0
 ·rw[d_ c,d_ c]
 by_cases d:i=1
 ·rw[b_ c,d_ d,b_ c,d_ d]
 by_cases e:i<8
 ·rw[b_ c,b_ d,d_ e,b_ c,b_ d,d_ e,n _ (by omega)]
 rw[b_ c,b_ d,b_ e,b_ c,b_ d,b_ e]
theorem G8{v:EvM}(a:lY v=true):(∀ i,i<14->bH (qz v) i=bH (Ux v) i)<->rz v=true:=by
 have h:=a;rw[abE];unfold lY at h;unfold qz rz kH Ux;simp only[R_,decide_eq_true_eq];split at h
 ·rename_i k; simp[k,qL,and_assoc]
 split at h
 ·rename_i k1 k; simp[k,qL,and_assoc]
 split at h
 ·rename_i k1 k2 k; simp[k,qL,MU,and_assoc]
 split at h
 ·rename_i k1 k2 k3 k; simp[k,abD,and_assoc]
 split at h
 ·rename_i k1 k2 k3 k4 k; simp[k,qL,KO,and_assoc]
 split at h
 ·rename_i k1 k2 k3 k4 k5 k; simp[k,KO,and_assoc]
 rename_i k1 k2 k3 k4 k5 k6; simp[k1,k2,k3,k4,k5,k6,and_assoc]
theorem CO{v:EvM}(h:rz v=true):dI v=lY v:=by
 unfold rz kH at h;unfold dI lY someE kR DC toB lM xL;simp only[R_,decide_eq_true_eq]at h;split <;> try rfl
 rename_i k1;split <;> try rfl
 rename_i k2;split
 ·congr 1
 rename_i k3;split
 ·rename_i k4; rw[Bool.eq_iff_iff]; simp only[R_,decide_eq_true_eq,Bool.not_eq_true',decide_eq_false_iff_not]; omega
 split <;> rfl
def MV(x:Nat->Int):Nat->Int
 | 0=>x 0
 | k+1=>if x (k+1)>MV x k then x (k+1)else MV x k
theorem Uy(x:Nat->Int) : ∀ n i,i<=n->x i<=MV x n
 | 0,i,h=>by rw[show i=0 by omega]; exact M_ _
 | n+1,i,h=>by
   unfold MV;by_cases e:i=n+1
   ·subst e; split <;> omega
   ·have:=Uy x n i (by omega); split <;> omega
theorem Uz(x:Nat->Int) : ∀ n,∃ i,i<=n/\MV x n=x i
 | 0=>⟨0,z_ _,rfl⟩
 | n+1=>by
   unfold MV;split
   ·exact⟨n+1,z_ _,rfl⟩
   ·obtain⟨i,a,e⟩:=Uz x n; exact⟨i,by omega,e⟩
theorem abF{v:EvM}(h:1099511627776<=MV v.deps 5):zM v=false:=by
 obtain⟨i,a,e⟩:=Uz v.deps 5;exact Gz (k:=i) (by omega) (by omega)
theorem Ji{v:EvM}(h : ¬ 1099511627776<=MV v.deps 5):zM v=true :=
 vK (k:=6) (by omega) fun i a=>by have:=Uy v.deps 5 i (by omega); omega
def afD(v:EvM)(b:Bool)(a:EvM):Prop:=b=lY v/\(b=true->a=qz v)
end Rt
set_option maxHeartbeats 1000000 in
theorem abG(v:EvM)(g:Nat)(w:World)(k:aQ w g 14 (bH v) 139) :
 Calls Tryd.prog 67 #[(pt g)] w fun e w' => ∃ b O,e = .returned (.bool b)/\aQ w' g 14 (bH O) 139/\Stp g w w'/\afD v b O:=by
 have X:=k.lt;refine Kent Tryd.func67 46 ?_;refine ay<|av aF<|aD<|Ws<|ay<|av (pt g)<|av (pt g)<|av (pt g)<|av (pf g 8)<|Lv (.int .u8 (v.kind)) (aM k.aH 8)<|aD<|Wb<|ay ?_;by_cases c:v.kind=1
 ·refine Lv aG (eY c)<|av aG<|aD<|aO<|ay<|av (pt g)<|lS (Jh 0 v g _ k) ?_;rintro e Y ⟨a,G,P⟩;have y:=(mV g w).then P (by omega);by_cases p:kR v 0=true
  ·refine⟨.bool true,by rw[a,p],?_⟩;clear a;refine av aG (aD (Wr (bI (sR (aJ aG (⟨_,_,rfl,G,y,Eq.symm (by unfold lY; rw[d_ c,(show kR v 0=true from p)]; try rfl),fun d => ?_⟩))))))
   unfold qz; rw[d_ c]; try rfl
  rw[S_]at p;refine⟨.bool false,by rw[a,p],?_⟩;clear a;refine av aF (aD (Wr (bI (sR (aJ aF (⟨_,_,rfl,G,y,Eq.symm (by unfold lY; rw[d_ c,(show kR v 0=false from p)]; try rfl),fun d => ?_⟩))))))
  cases d
 refine Lv aF (fU c)<|av aF<|aD<|aL<|ay ?_;by_cases f:v.kind=2
 ·refine Lv aG (eY f)<|av aG<|aD<|aO<|ay<|av (pt g)<|lS (Jh 1 v g _ k) ?_;rintro e Z ⟨a,H,Q⟩;have z:=(mV g w).then Q (by omega);by_cases q:kR v 1=true
  ·refine⟨.bool true,by rw[a,q],?_⟩;clear a;refine av aG (aD (Wr (bI (sR (aJ aG (⟨_,_,rfl,H,z,Eq.symm (by unfold lY; rw[b_ c,d_ f,(show kR v 1=true from q)]; try rfl),fun d => ?_⟩))))))
   unfold qz; rw[b_ c,d_ f]; try rfl
  rw[S_]at q;refine⟨.bool false,by rw[a,q],?_⟩;clear a;refine av aF (aD (Wr (bI (sR (aJ aF (⟨_,_,rfl,H,z,Eq.symm (by unfold lY; rw[b_ c,d_ f,(show kR v 1=false from q)]; try rfl),fun d => ?_⟩))))))
  cases d
 refine Lv aF (fU f)<|av aF<|aD<|aL<|ay ?_;by_cases h:v.kind=3
 ·refine Lv aG (eY h)<|av aG<|aD<|aO<|ay<|av (pt g)<|lS (Jh 1 v g _ k) ?_;rintro e w3 ⟨a,I,R⟩;have A:=(mV g w).then R (by omega);by_cases m:kR v 1=true
  ·refine⟨.bool true,by rw[a,m],?_⟩;clear a;refine av aG<|av (pt g)<|lS (OB (⟨v.o,v.seq,v.deps,v.kind,0,v.dst,0,v.req,v.of⟩:EvM) g _ I) ?_;rintro e w4 ⟨a,J,S⟩;have B:=A.then S (by omega);by_cases r:xL (⟨v.o,v.seq,v.deps,v.kind,0,v.dst,0,v.req,v.of⟩:EvM)=true
   ·refine⟨.bool true,by rw[a,r],?_⟩;clear a;refine av aG (av aG (aD (Wr (bI (sR (aJ aG (⟨_,_,rfl,J,B,Eq.symm (by unfold lY; rw[b_ c,b_ f,d_ h,(show kR v 1=true from m),(show xL v=true from r)]; try rfl),fun d => ?_⟩)))))))
    unfold qz; rw[b_ c,b_ f,d_ h]; try rfl
   rw[S_]at r;refine⟨.bool false,by rw[a,r],?_⟩;clear a;refine av aF (av aF (aD (Wr (bI (sR (aJ aF (⟨_,_,rfl,J,B,Eq.symm (by unfold lY; rw[b_ c,b_ f,d_ h,(show kR v 1=true from m),(show xL v=false from r)]; try rfl),fun d => ?_⟩)))))))
   cases d
  rw[S_]at m;refine⟨.bool false,by rw[a,m],?_⟩;clear a;refine av aF (dB (dB (av aF (av aF (aD (Wr (bI (sR (aJ aF (⟨_,_,rfl,I,A,Eq.symm (by unfold lY; rw[b_ c,b_ f,d_ h,(show kR v 1=false from m)]; try rfl),fun d => ?_⟩))))))))))
  cases d
 refine Lv aF (fU h)<|av aF<|aD<|aL<|ay ?_;by_cases i:v.kind=4
 ·refine Lv aG (eY i)<|av aG<|aD<|aO<|ay<|av (pt g)<|lS (amB v g _ k) ?_;rintro e w5 ⟨a,K,T⟩;have C:=(mV g w).then T (by omega);by_cases s:DC v=true
  ·refine⟨.bool true,by rw[a,s],?_⟩;clear a;refine av aG (aD (Wr (bI (sR (aJ aG (⟨_,_,rfl,K,C,Eq.symm (by unfold lY; rw[b_ c,b_ f,b_ h,d_ i,(show DC v=true from s)]; try rfl),fun d => ?_⟩))))))
   unfold qz; rw[b_ c,b_ f,b_ h,d_ i]; try rfl
  rw[S_]at s;refine⟨.bool false,by rw[a,s],?_⟩;clear a;refine av aF (aD (Wr (bI (sR (aJ aF (⟨_,_,rfl,K,C,Eq.symm (by unfold lY; rw[b_ c,b_ f,b_ h,d_ i,(show DC v=false from s)]; try rfl),fun d => ?_⟩))))))
  cases d
 refine Lv aF (fU i)<|av aF<|aD<|aL<|ay ?_;by_cases j:v.kind=5
 ·refine Lv aG (eY j)<|av aG<|aD<|aO<|ay<|av (pt g)<|lS (Jh 1 v g _ k) ?_;rintro e w6 ⟨a,L,U⟩;have D:=(mV g w).then U (by omega);by_cases n:kR v 1=true
  ·refine⟨.bool true,by rw[a,n],?_⟩;clear a;refine av aG<|av (pt g)<|lS (afC (⟨v.o,v.seq,v.deps,v.kind,0,v.dst,0,v.req,v.of⟩:EvM) g _ L) ?_;rintro e w7 ⟨a,M,V⟩;have E:=D.then V (by omega);by_cases t:toB (⟨v.o,v.seq,v.deps,v.kind,0,v.dst,0,v.req,v.of⟩:EvM)=true
   ·refine⟨.bool true,by rw[a,t],?_⟩;clear a;refine av aG (av aG (aD (Wr (bI (sR (aJ aG (⟨_,_,rfl,M,E,Eq.symm (by unfold lY; rw[b_ c,b_ f,b_ h,b_ i,d_ j,(show kR v 1=true from n),(show toB v=true from t)]; try rfl),fun d => ?_⟩)))))))
    unfold qz; rw[b_ c,b_ f,b_ h,b_ i,d_ j]; try rfl
   rw[S_]at t;refine⟨.bool false,by rw[a,t],?_⟩;clear a;refine av aF (av aF (aD (Wr (bI (sR (aJ aF (⟨_,_,rfl,M,E,Eq.symm (by unfold lY; rw[b_ c,b_ f,b_ h,b_ i,d_ j,(show kR v 1=true from n),(show toB v=false from t)]; try rfl),fun d => ?_⟩)))))))
   cases d
  rw[S_]at n;refine⟨.bool false,by rw[a,n],?_⟩;clear a;refine av aF (dB (dB (av aF (av aF (aD (Wr (bI (sR (aJ aF (⟨_,_,rfl,L,D,Eq.symm (by unfold lY; rw[b_ c,b_ f,b_ h,b_ i,d_ j,(show kR v 1=false from n)]; try rfl),fun d => ?_⟩))))))))))
  cases d
 refine Lv aF (fU j)<|av aF<|aD<|aL<|ay ?_;by_cases l:v.kind=6
 ·refine Lv aG (eY l)<|av aG<|aD<|aO<|ay<|av (pt g)<|lS (afC v g _ k) ?_;rintro e w8 ⟨a,N,W⟩;have F:=(mV g w).then W (by omega);by_cases u:toB v=true
  ·refine⟨.bool true,by rw[a,u],?_⟩;clear a;refine av aG (aD (Wr (bI (sR (aJ aG (⟨_,_,rfl,N,F,Eq.symm (by unfold lY; rw[b_ c,b_ f,b_ h,b_ i,b_ j,d_ l,(show toB v=true from u)]; try rfl),fun d => ?_⟩))))))
   unfold qz; rw[b_ c,b_ f,b_ h,b_ i,b_ j,d_ l]; try rfl
  rw[S_]at u;refine⟨.bool false,by rw[a,u],?_⟩;clear a;refine av aF (aD (Wr (bI (sR (aJ aF (⟨_,_,rfl,N,F,Eq.symm (by unfold lY; rw[b_ c,b_ f,b_ h,b_ i,b_ j,d_ l,(show toB v=false from u)]; try rfl),fun d => ?_⟩))))))
  cases d
 refine Lv aF (fU l)<|av aF<|aD<|aL<|Wk<|bT<|sN<|ay<|av (pt g)<|av (pt g)<|av (pt g)<|av (pf g 8)<|Lv (.int .u8 (v.kind)) (aM k.aH 8) ?_;by_cases x:v.kind=7
 ·refine Lv aG (eY x) (av aG (aD (Wr (aJ aG (⟨_,_,rfl,k,(mV g w),Eq.symm (by unfold lY; rw[b_ c,b_ f,b_ h,b_ i,b_ j,b_ l,f_ x]; try rfl),fun d => ?_⟩)))))
  unfold qz; rw[b_ c,b_ f,b_ h,b_ i,b_ j,b_ l]; try rfl
 refine Lv aF (fU x) (av aF (aD (Wr (aJ aF (⟨_,_,rfl,k,(mV g w),Eq.symm (by unfold lY; rw[b_ c,b_ f,b_ h,b_ i,b_ j,b_ l,g_ x]; try rfl),fun d => ?_⟩)))))
 cases d
theorem afE(x:Nat->Int)(b off:Nat)(w:World)(hx:iQ w b off 6 (rv .u64 x)) :
 Calls Tryd.prog 66 #[.slice (some ⟨b,off,none⟩) (6) (6)] w fun e w'=>e = .returned (aC (MV x 5))/\Below w.heap.size w w':=by
 have o:=hx.lt (by omega);refine Kent Tryd.func66 25 ?_;refine ay<|av (aC 0)<|aD<|Ws<|ay<|av (.slice (some ⟨b,off,none⟩) (6) (6))<|av (au 6)<|Lv aF Gn<|aD<|aL<|Wk<|sN<|ay<|av (.slice (some ⟨b,off,none⟩) (6) (6))<|Lv (pf b off) (dh 1)<|Lv (aC (x 0)) (aM hx 0)<|av (aC (x 0))<|aD<|Ws<|ay<|av (au 1)<|aD<|Wb<|Wo (fun f j => ∃ k:Nat,k<=5/\f 0 = .slice (some ⟨b,off,none⟩) (6) (6)/\f 3=aC (MV x k)/\f 4=au ((k:Int)+1)/\iQ j b off 6 (rv .u64 x)/\Below w.heap.size w j) (fun f _=>(6-(intOf (f 4)).toNat)) ⟨0,by omega,(by rfl),rfl,Fx.ic,hx,(Below.refl w.heap.size w)⟩ ?_;rintro m p ⟨k,n,c,h,a,i,d⟩;refine Ws<|ay<|aY a<|aY c<|av (au 6) ?_;by_cases g:((k:Int)+1)<6
 ·refine Lv aG (iL g)<|aD<|aO<|Wk<|sN<|Ws<|Wb<|Wl<|aY h<|aY c<|aY a<|Lv (pf b (k+off+1)) (dh 1)<|Lv (aC (x (k+1))) (aM i (k+1))<|Lv (aC (MV x (k+1))) (Fx.YM rfl rfl rfl)<|av (aC (MV x (k+1)))<|Ln<|bT<|sN<|Wl<|aY a<|Lv (au ((k:Int)+2)) fE<|av (au ((k:Int)+2))<|Ln<|iB ⟨k+1,by omega,c,rfl,Fx.ic,i,d⟩ ?_;show(6-(intOf (au ((k:Int)+2))).toNat)<_;simp only[a,intOf]; omega
 refine Lv aF (iM g)<|aD<|aL<|Wx<|cK<|gU<|cO<|sN<|ay<|aY h<|av (aC (MV x k))<|aD<|Wr<|aJ (aC (MV x k)) ?_;have l:k=5:=by omega
 exact⟨by rw[l],d⟩
theorem Jj{ks:List (Option IntKind)}{x y:Nat->Value}(h:Fx.Kd ks y)(e : ∀ j,j<ks.length->x j=y j):Fx.Kd ks x:=fun i a=>by rw[e i a]; exact h i a
namespace Rt
theorem KP{v:EvM}(h:fV v):fV (Ux v):=by
 have z:jU 0:=⟨by decide,by decide⟩;have y:uF 0:=⟨by decide,by decide⟩;exact⟨h.o,h.seq,h.deps,h.kind,z,y,y,z,z⟩
theorem KQ{v:EvM}(h:fV v):fV (qz v):=by
 have z:jU 0:=⟨by decide,by decide⟩;have y:uF 0:=⟨by decide,by decide⟩;unfold qz;split
 ·exact⟨h.o,h.seq,h.deps,h.kind,z,h.dst,y,h.req,h.of⟩
 split
 ·exact⟨h.o,h.seq,h.deps,h.kind,z,h.dst,y,h.req,h.of⟩
 split
 ·exact⟨h.o,h.seq,h.deps,h.kind,z,h.dst,y,z,h.of⟩
 split
 ·exact⟨h.o,h.seq,h.deps,h.kind,h.node,h.dst,h.aT,z,z⟩
 split
 ·exact⟨h.o,h.seq,h.deps,h.kind,z,y,y,h.req,h.of⟩
 split
 ·exact⟨h.o,h.seq,h.deps,h.kind,h.node,y,h.aT,h.req,h.of⟩
 exact h
end Rt
set_option maxHeartbeats 2000000 in
theorem G9(v:EvM)(w:World)(G:fV v) :
 Calls Tryd.prog 44 #[.agg (aA 14 (bH v))] w fun e w'=>e = .returned (.bool (bM v))/\Below w.heap.size w w':=by
 refine Kent Tryd.func44 55 ?_;refine ay<|pQ fun g w1 mR t s1 z1 => ?_;have B:=bE s1.old (Below.refl w.heap.size w);have sO:=gL mR;have uo:=t.lt;refine av aF<|aD<|Ws<|Ws ?_;refine mI<|aX (pt g)<|Qv (au v.o) (fun f d=>aM (t.cb d) 0) ?_;by_cases l:(jI v.o)=true
 ·obtain⟨a,ha,ea⟩:=eG l;refine pO (fun _ _=>Bc v.o _) aG (by rw[l])<|aX aF<|aX aF<|aX (pf g 1)<|Qv (aC v.seq) (fun f d=>aM (t.cb d) 1) ?_;by_cases N:v.seq<1
  ·refine Qv aG (fun f d=>iL N)<|aX aG<|aX aG<|aP<|aP<|aP<|aX aG<|aX aG<|aP<|aP<|aP<|aP<|aP<|aP<|aP<|aP<|aP<|aP<|aX aG<|Qn ?_;intro WO sP;have⟨k,U⟩:=eU sP t B;refine sN<|aO<|ay<|av aF<|aD<|Wr<|sR<|aJ aF ?_;have k:decide (1<=v.seq)=false:=g_ (by omega);exact⟨gY (Eq.symm (by unfold bM; rw[l,k]; try rfl)),U⟩
  refine Qv aF (fun f d=>iM N)<|aX aF<|aX aF<|aX (pf g 1)<|Qv (aC v.seq) (fun f d=>aM (t.cb d) 1) ?_;by_cases O:1099511627776<=v.seq
  ·refine Qv aG (fun f d=>ko O)<|aX aG<|aX aG<|aP<|aP<|aP<|aP<|aP<|aP<|aP<|aP<|aP<|aP<|aX aG<|Qn ?_;intro Y1 wB;have⟨m,V⟩:=eU wB t B;refine sN<|aO<|ay<|av aF<|aD<|Wr<|sR<|aJ aF ?_;have k:decide (1<=v.seq)=true:=f_ (by omega);have m:decide (v.seq<1099511627776)=false:=g_ (by omega);exact⟨gY (Eq.symm (by unfold bM; rw[l,k,m]; try rfl)),V⟩
  refine Qv aF (fun f d=>jT O)<|aX aF<|aX aF<|aX (pt g)<|Qv (au v.o) (fun f d=>aM (t.cb d) 0)<|Qv (au a) (fun f d=>fQ)<|aX (pf g 2)<|Qv (pf g (a+2)) (fun f d=>jm 6 1)<|Qv (aC (v.deps a)) (fun f d=>aM (t.cb d) (a+2) (kF _ (by omega) (by omega)))<|aX (pf g 1)<|Qv (aC v.seq) (fun f d=>aM (t.cb d) 1)<|Qv (aC (v.seq-1)) (fun f d=>fQ) ?_;by_cases y:(v.deps a)=(v.seq-1)
  ·refine Qv aF (fun f d=>jH y)<|aX aF<|Qn ?_;intro wb3 wC;have⟨q,W⟩:=eU wC t B;refine sN<|aL<|Wk<|sN<|Ws<|ay<|av (pf g 2)<|Lv (.slice (some ⟨g,2,none⟩) (6) (6)) (Fx.MS rfl rfl Tryd.underlying26 (s:=1) (by kernel_rfl))<|dL (afE v.deps g 2 _ (fun j x=>by have Q:=q.aH (2+j) (by omega); rw[E_]at Q; rw[Q,kF v (p:=2+j) (j:=j) (by omega) x]; rfl)) _ rfl ?_;intro w2 hb1;have⟨r,I⟩:=eU hb1 q W;by_cases A:1099511627776<=(MV v.deps 5)
   ·refine Lv aG (ko A)<|aD<|aO<|ay<|av aF<|aD<|Wr<|sR<|aJ aF ?_;have k:decide (1<=v.seq)=true:=f_ (by omega);have m:decide (v.seq<1099511627776)=true:=f_ (by omega);have q:decide (v.deps (v.o-1).toNat=v.seq-1)=true:=f_ (by rw[show(v.o-1).toNat=a by omega]; exact y);have r:=abF A;exact⟨gY (Eq.symm (by unfold bM; rw[l,k,m,q,r]; try rfl)),I⟩
   refine Lv aF (jT A)<|aD<|aL<|Wk<|sN<|ay<|Lv (.agg (aA 14 (bH v))) (fJ r.aH 0)<|av (.agg (aA 14 (bR (fun c=>if c<1 then au 0 else if c<8 then aC 0 else if c<9 then .int .u8 (0)else if c<10 then aC 0 else if c<12 then au 0 else aC 0) 0 14 (bH v))))<|pQ fun z w3 P u s6 z2 => ?_;have⟨C,Z⟩:=eU s6.old r I;have qN:=jc P I.size;have Oh:=cu P r.lt;have zL:=u.lt;refine av (pt z)<|aD<|Ws ?_;have L:aQ w3 z 14 (bH v) 139:=u.congr (fun j x=>by rcases j with _|_|_|_|_|_|_|_|_|_|_|_|_|_|j <;> first|rfl|omega)
   refine Au [0,1,2,3,4,5,7,9,11,13,6,8,10,12,14,15,16,17,18] [0,3,0,0,0,0,4,0,4,0,4,0,4,0,4,0,0,0,0] (Fx.yU [139]) Fx.yU.refl Fx.yU.trans (fT := [(2,1,[1]),(3,1,[2,1]),(4,1,[2,1]),(5,1,[2,1]),(7,1,[2,1]),(9,1,[2,1]),(11,1,[2,1]),(13,1,[2,1]),(6,1,[2,1]),(8,1,[2,1]),(10,1,[2,1]),(12,1,[2,1]),(14,1,[2,1]),(15,1,[2,1]),(16,1,[2,1]),(17,1,[2,1]),(18,1,[1])]) (by kernel_rfl) (by kernel_rfl) (by kernel_rfl) (by kernel_rfl) (by kernel_rfl) fun qE dU iC => ?_;have⟨m9,m10,M⟩:=jh dU C L Z;refine aZ (pt z)<|gG<|lS (abG v z _ m10) ?_;rintro e w4 ⟨b,v',E,R,S,F,hkv⟩;have H:=m9.bY S (by omega);have J:=S.below M M.size (by omega)
   cases b
   ·refine⟨.bool false,E,?_⟩;clear E;refine Ln<|aZ aF<|Rk (by rfl)<|Rk (by rfl)<|Rk (by rfl)<|Rk (by rfl)<|Rk (by rfl)<|Rk (by rfl)<|Rk (by rfl)<|Rk (by rfl)<|Rk (by rfl)<|Rk (by rfl)<|Rk (by rfl)<|Rk (by rfl)<|Rk (by rfl)<|Rk (by rfl)<|aZ aF<|aZ aF<|bO<|Wr<|aJ aF ?_;have k:decide (1<=v.seq)=true:=f_ (by omega);have m:decide (v.seq<1099511627776)=true:=f_ (by omega);have q:decide (v.deps (v.o-1).toNat=v.seq-1)=true:=f_ (by rw[show(v.o-1).toNat=a by omega]; exact y);have r:=Ji A;have u:rz v=true->dI v=false:=fun h=>by rw[CO h,<- F]
    have C:(rz v&&dI v)=false:=by cases h:rz v with|false=>rfl|true=>exact u h
    have L:(true&&true&&true&&true&&true&&rz v&&dI v)=false:=C;exact⟨gY (Eq.symm (by unfold bM; rw[l,k,m,q,r,L]; try rfl)),J⟩
   refine⟨.bool true,E,?_⟩;clear E;rw[hkv rfl]at R;refine Ln<|aZ aG<|aZ (pt z)<|aZ (pt z)<|aZ (pt z)<|aZ (pt g)<|aZ (pf g 1)<|aZ (pf g 2)<|aZ (pf g 8)<|Rs (.agg (aA 14 (bH (qz v)))) (fJ R.aH 0) ?_;refine Rs (au v.o) (aM H.aH 0) ?_;refine Rs (aC v.seq) (aM H.aH 1) ?_;refine Rs (.agg (aA 6 (rv .u64 v.deps))) (fJ H.aH 2 (fun j x=>kF _ (by omega) x)) ?_;refine Rs (.int .u8 (v.kind)) (aM H.aH 8) ?_;refine aZ (.agg (aA 14 (bR (bR (bR (bR (fun c=>if c<1 then au 0 else if c<8 then aC 0 else if c<9 then .int .u8 (0)else if c<10 then aC 0 else if c<12 then au 0 else aC 0) 0 1 (fun _=>au v.o)) 1 1 (fun _=>aC v.seq)) 2 6 (rv .u64 v.deps)) 8 1 (fun _ => .int .u8 (v.kind))))) ?_;by_cases D : ∀ i,i<14->(bH (qz v)) i=(bR (bR (bR (bR (fun c=>if c<1 then au 0 else if c<8 then aC 0 else if c<9 then .int .u8 (0)else if c<10 then aC 0 else if c<12 then au 0 else aC 0) 0 1 (fun _=>au v.o)) 1 1 (fun _=>aC v.seq)) 2 6 (rv .u64 v.deps)) 8 1 (fun _ => .int .u8 (v.kind))) i
   ·refine Rp aG (fun f=>Fx.vw (n:=14) (ks := [(some .i64),(some .u64),(some .u64),(some .u64),(some .u64),(some .u64),(some .u64),(some .u64),(some .u8),(some .u64),(some .i64),(some .i64),(some .u64),(some .u64)]) (X:=bH (qz v)) (Y:=bR (bR (bR (bR (fun c=>if c<1 then au 0 else if c<8 then aC 0 else if c<9 then .int .u8 (0)else if c<10 then aC 0 else if c<12 then au 0 else aC 0) 0 1 (fun _=>au v.o)) 1 1 (fun _=>aC v.seq)) 2 6 (rv .u64 v.deps)) 8 1 (fun _ => .int .u8 (v.kind))) 12 true rfl rfl rfl (Fx.Pg D) (zx (KQ G)) (Jj (zx (KP G)) (fun j x=>by rcases j with _|_|_|_|_|_|_|_|_|_|_|_|_|_|j <;> first|rfl|exact L_ x (by simp))) rfl (by kernel_rfl) (by kernel_rfl) (by kernel_rfl) (by kernel_rfl) (by kernel_rfl))<|aZ aG<|aZ aG<|bO<|Wr<|aJ aG ?_
    have k:decide (1<=v.seq)=true:=f_ (by omega);have m:decide (v.seq<1099511627776)=true:=f_ (by omega);have q:decide (v.deps (v.o-1).toNat=v.seq-1)=true:=f_ (by rw[show(v.o-1).toNat=a by omega]; exact y);have r:=Ji A;have u:=(G8 F.symm).1 (fun i K=>(D i K).trans (by rcases i with _|_|_|_|_|_|_|_|_|_|_|_|_|_|i <;> first|rfl|omega))
    have C:=(CO u).trans F.symm;exact⟨gY (Eq.symm (by unfold bM; rw[l,k,m,q,r,u,C]; try rfl)),J⟩
   refine Rp aF (fun f=>Fx.vw (n:=14) (ks := [(some .i64),(some .u64),(some .u64),(some .u64),(some .u64),(some .u64),(some .u64),(some .u64),(some .u8),(some .u64),(some .i64),(some .i64),(some .u64),(some .u64)]) (X:=bH (qz v)) (Y:=bR (bR (bR (bR (fun c=>if c<1 then au 0 else if c<8 then aC 0 else if c<9 then .int .u8 (0)else if c<10 then aC 0 else if c<12 then au 0 else aC 0) 0 1 (fun _=>au v.o)) 1 1 (fun _=>aC v.seq)) 2 6 (rv .u64 v.deps)) 8 1 (fun _ => .int .u8 (v.kind))) 12 false rfl rfl rfl (Fx.nob D) (zx (KQ G)) (Jj (zx (KP G)) (fun j x=>by rcases j with _|_|_|_|_|_|_|_|_|_|_|_|_|_|j <;> first|rfl|exact L_ x (by simp))) rfl (by kernel_rfl) (by kernel_rfl) (by kernel_rfl) (by kernel_rfl) (by kernel_rfl))<|aZ aF<|aZ aF<|bO<|Wr<|aJ aF ?_
   have k:decide (1<=v.seq)=true:=f_ (by omega);have m:decide (v.seq<1099511627776)=true:=f_ (by omega);have q:decide (v.deps (v.o-1).toNat=v.seq-1)=true:=f_ (by rw[show(v.o-1).toNat=a by omega]; exact y);have r:=Ji A;have u:rz v=false:=Bool.eq_false_iff.2 (fun h=>D (fun i K=>((G8 F.symm).2 h i K).trans (by rcases i with _|_|_|_|_|_|_|_|_|_|_|_|_|_|i <;> first|rfl|omega)))
   exact⟨gY (Eq.symm (by unfold bM; rw[l,k,m,q,r,u]; try rfl)),J⟩
  refine Qv aG (fun f d=>mX y)<|aX aG<|Qn ?_;intro wb4 AJ;have b9:=bE AJ B;refine sN<|aO<|ay<|av aF<|aD<|Wr<|sR<|aJ aF ?_;have k:decide (1<=v.seq)=true:=f_ (by omega);have m:decide (v.seq<1099511627776)=true:=f_ (by omega);have q:decide (v.deps (v.o-1).toNat=v.seq-1)=false:=g_ (by rw[show(v.o-1).toNat=a by omega]; exact y);exact⟨gY (Eq.symm (by unfold bM; rw[l,k,m,q]; try rfl)),b9⟩
 rw[S_]at l;refine pO (fun _ _=>Bc v.o _) aF (by rw[l])<|aX aG<|aX aG<|aP<|aP<|aP<|aX aG<|aX aG<|aP<|aP<|aP<|aX aG<|aX aG<|aP<|aP<|aP<|aP<|aP<|aP<|aP<|aP<|aP<|aP<|aX aG<|Qn ?_;intro wb5 Ey;have T:=bE Ey B;refine sN<|aO<|ay<|av aF<|aD<|Wr<|sR<|aJ aF ?_;exact⟨gY (Eq.symm (by unfold bM; rw[l]; try rfl)),T⟩
namespace Rt
def tX(a b:Int):Int:=if b>a then b else a
def vx(X:Nat->Nat->Int):Nat->Value:=fun p=>aC (X (p / 6) (p % 6))
theorem UA(X:Nat->Nat->Int){i p j:Nat}(a:p=6*i)(b:j<6):vx X (p+j)=rv .u64 (X i) j:=by
 subst a;show Value.int .u64 (X ((6*i+j) / 6) ((6*i+j) % 6))=aC (X i j);rw[show(6*i+j) / 6=i by omega,show(6*i+j) % 6=j by omega]
def zA(c:Int->Int->Int)(X:Nat->Nat->Int):Nat->Nat->Int
 | 0=>X 0
 | k+1=>fun p=>c (zA c X k p) (X (k+1) p)
def OC(c:Int->Int->Int)(X:Nat->Nat->Int):Nat->Nat->Int
 | 0=>fun _=>0
 | k+1=>zA c X k
def Vcs(w:World)(a:Option Addr)(n cap:Nat)(X:Nat->Nat->Int):Prop:=0<n->n<=cap /\ ∃ b c,a=some ⟨b,c,none⟩/\iQ w b c (6*n) (vx X)
def xM(x:Nat->Int)(k:Nat):Nat->Int:=fun p=>if p<k then x p else 0
theorem MW(x:Nat->Int)(k:Nat):upd (xM x k) k (x k)=xM x (k+1):=by
 funext p; unfold upd xM
 by_cases h:p=k
 ·subst h; rw[d_ rfl,d_ (by omega)]
 rw[b_ h];by_cases a:p<k
 ·rw[d_ a,d_ (by omega)]
 rw[b_ a,b_ (by omega)]
theorem Qw(x:Nat->Int):aA 6 (rv .u64 (xM x 6))=aA 6 (rv .u64 x):=Fx.dW fun p a=>K_ (Value.int .u64) (by unfold xM; rw[d_ a])
end Rt
theorem afF(a b:Int)(w:World) :
 Calls Tryd.prog 109 #[aC a,aC b] w fun e w'=>e = .returned (aC (tX a b))/\w'=w:=by
 refine Kent Tryd.func109 8 ?_;refine ay<|av (aC 0)<|aD<|ay<|av (aC a)<|av (aC b)<|Lv (aC (tX a b)) (Fx.YM rfl rfl rfl)<|av (aC (tX a b))<|aD<|Wr<|aJ (aC (tX a b)) ?_;exact⟨rfl,rfl⟩
theorem UC(x y:Nat->Int)(d go c q:Nat)(w:World)(l:q<6)(j:aQ w d 1 (fun _ => .func (.func 109) #[] #[]) 175)(f:aQ w go 6 (rv .u64 x) 26)(k:aQ w c 6 (rv .u64 y) 26) :
 Calls Tryd.prog 122 #[au (q:Int),(pt d),(pt go),(pt c)] w fun e w'=>e = .returned (aC (tX (x q) (y q)))/\Below w.heap.size w w':=by
 refine Kent Tryd.func122 14 ?_;refine ay<|av (aC 0)<|aD<|Ws ?_;refine mI<|Qv (.func (.func 109) #[] #[]) (fun b a=>aM (j.cb a) 0)<|aX (au q)<|Qv (pf go q) (fun b a=>jm 6 1)<|Qv (aC (x q)) (fun b a=>aM (f.cb a) q)<|aX (au q)<|Qv (pf c q) (fun b a=>jm 6 1)<|Qv (aC (y q)) (fun b a=>aM (k.cb a) q)<|F3 (v:=aC (tX (x q) (y q))) (by rfl) (fun b a=>Fx.Ej (args := [aC (x q),aC (y q)]) rfl rfl rfl (all := #[aC (x q),aC (y q)]) rfl Tryd.func109 rfl rfl) rfl (fun b a=>(afF (x q) (y q) _).mono fun e v2 h=>⟨h.1,by rw[h.2]; exact a⟩) ?_;refine aX (aC (tX (x q) (y q)))<|Qn ?_;intro n i;have⟨m,g⟩:=eU i f (Below.refl w.heap.size w);refine sN<|Wr<|aJ (aC (tX (x q) (y q))) ?_;exact⟨rfl,g⟩
theorem MZ(x y:Nat->Int)(b go c:Nat)(w:World)(z:aQ w b 1 (fun _ => .func (.func 109) #[] #[]) 175)(B:aQ w go 6 (rv .u64 x) 26)(C:aQ w c 6 (rv .u64 y) 26) :
 Calls Tryd.prog 121 #[.func (.func 122) #[] #[(pt b),(pt go),(pt c)]] w fun e w'=>e = .returned (.agg (aA 6 (rv .u64 (fun p=>tX (x p) (y p)))))/\Below w.heap.size w w':=by
 refine Kent Tryd.func121 14 ?_;refine ay<|DI (m:=6) (y:=rv .u64 (fun _=>0)) (by rfl) rfl (by kernel_rfl) rfl fun a w1 u D Z z1 => ?_;have⟨T,W,X,E⟩:=mJ Z.old z B C (Below.refl w.heap.size w);have sO:=gL u;have⟨nC,TH,zB⟩:=Dh u z.lt B.lt C.lt;have uo:=D.lt;refine aD<|Ws<|ay<|av (au 0)<|aD<|Wb ?_;have Y:aQ w1 a 6 (rv .u64 (xM (fun p=>tX (x p) (y p)) 0)) 26:=D;refine Wo (fun f h => ∃ k:Nat,k<=6/\f 0 = .func (.func 122) #[] #[(pt b),(pt go),(pt c)]/\f 2=(pt a)/\f 4=au (k:Int)/\aQ h b 1 (fun _ => .func (.func 109) #[] #[]) 175/\aQ h go 6 (rv .u64 x) 26/\aQ h c 6 (rv .u64 y) 26/\aQ h a 6 (rv .u64 (xM (fun p=>tX (x p) (y p)) k)) 26/\Below w.heap.size w h) (fun f _=>(6-(intOf (f 4)).toNat)) ⟨0,by omega,(by rfl),(by rfl),Fx.ic,T,W,X,Y,E⟩ ?_;rintro f1 w2 ⟨k,hk,v,d,g,n,o,q,r,l⟩;refine ay ?_;by_cases t:(k:Int)<6
 ·refine Lv aG (iL t (hx:=g))<|aD<|Ws<|aO<|Wk<|sN<|Ws<|Wb<|ay<|aY g<|av (au k)<|aD<|Wl<|av (au k)<|aY v<|av (au k)<|Bl (by rfl) (Fx.Ej (args := [au (k:Int)]) rfl rfl rfl (all := #[au (k:Int),(pt b),(pt go),(pt c)]) rfl Tryd.func122 rfl rfl) rfl<|(UC x y b go c k _ (by omega) n o q).mono ?_;rintro e w3 ⟨A,I⟩;refine⟨aC (tX (x k) (y k)),by rw[A],?_⟩;clear A;have⟨J,K,L,M,s⟩:=qD I n o q r l;refine Lv (pf a k) (jm 6 1 (hx:=d))<|iX M k (aC (tX (x k) (y k))) fun w4 N i z2 => ?_;have O:aQ w4 a 6 (rv .u64 (upd (xM (fun p=>tX (x p) (y p)) k) k (tX (x k) (y k)))) 26:=N.to (Fx.xW _ _ _ _);have P:=J.bY i (by omega);have Q:=K.bY i (by omega);have R:=L.bY i (by omega);have F:=i.below s s.size (by omega);refine Ln<|bT<|sN<|Wl<|Lv (au ((k:Int)+1)) (fE (hx:=g))<|av (au ((k:Int)+1))<|Ln ?_;have S:=O.to (K_ (rv .u64) (MW (fun p=>tX (x p) (y p)) k));refine iB ⟨k+1,by omega,v,d,Fx.ic,P,Q,R,S,F⟩ ?_;show(6-(intOf (au ((k:Int)+1))).toNat)<_;simp only[g,intOf]; omega
 refine Lv aF (iM t (hx:=g))<|aD<|Ws<|aL<|Wx<|cK<|gU<|cO<|sN<|ay<|Lv (.agg (aA 6 (rv .u64 (xM (fun p=>tX (x p) (y p)) k)))) (fJ r.aH 0 (ha:=d))<|dZ r 0 (ha:=d) fun w5 U j z3 => ?_;have V:aQ w5 a 6 (rv .u64 (xM (fun p=>tX (x p) (y p)) k)) 26:=aR U;have m22:=n.bY j (by omega);have m23:=o.bY j (by omega);have m24:=q.bY j (by omega);have G:=j.below l l.size (by omega);refine aD (Wr (⟨.agg (aA 6 (rv .u64 (xM (fun p=>tX (x p) (y p)) k))),rV Tryd.results121 ⟨_,d,aU V.aH (by kernel_rfl) (by kernel_rfl)⟩,?_⟩));have H:k=6:=by omega
 exact⟨by rw[H,Qw],G⟩
namespace Rt
def V2(x y:Nat->Int):Nat->Nat->Int
 | 0=>x
 | 1=>y
 | _=>fun _=>0
end Rt
theorem KR(a:Option Addr)(cap:Nat)(w:World) :
 Calls Tryd.prog 108 #[.slice a (0) (cap),.func (.func 109) #[] #[]] w fun e w'=>e = .returned (.agg (aA 6 (rv .u64 (fun _=>0))))/\Below w.heap.size w w':=by
 refine Kent Tryd.func108 26 ?_;refine ay<|xg (.func (.func 109) #[] #[]) fun t C j b p E => ?_;have c:=bE p.old (Below.refl w.heap.size w);have u:=gL j;have A:=b.lt;refine qC 6 (rv .u64 (fun _=>0)) fun k D f g q F => ?_;have⟨l,d⟩:=eU q.old b c;have v:=jc f c.size;have z:=cu f b.lt;have B:=g.lt;refine aD<|Ws<|ay<|av (.slice a (0) (cap))<|av (au 0)<|Lv aG (eY rfl)<|aD<|aO<|ay<|Lv (.agg (aA 6 (rv .u64 (fun _=>0)))) (Fx.L9 (vs := []) (s:=1) (m:=6) (x:=rv .u64 (fun _=>0)) rfl rfl Tryd.underlying26 (by kernel_rfl) (by kernel_rfl) (by rfl))<|dZ g 0 fun r n h G => ?_;have o:aQ r k 6 (rv .u64 (fun _=>0)) 26:=aR n;have y:=l.bY h (by omega);have i:=h.below d d.size (by omega);refine aD (Wr (sR (⟨.agg (aA 6 (rv .u64 (fun _=>0))),rV Tryd.results108 ⟨_,rfl,aU o.aH (by kernel_rfl) (by kernel_rfl)⟩,?_⟩)));exact⟨rfl,i⟩
theorem KS(b off m cap:Nat)(X:Nat->Nat->Int)(w:World)(hcap:m+1<=cap)(hm:m<=1000000)(hx:iQ w b off (6*(m+1)) (vx X)) :
 Calls Tryd.prog 108 #[.slice (some ⟨b,off,none⟩) (m+1) (cap),.func (.func 109) #[] #[]] w fun e w'=>e = .returned (.agg (aA 6 (rv .u64 (zA tX X m))))/\Below w.heap.size w w':=by
 have lb:=hx.lt (by omega);refine Kent Tryd.func108 26 ?_;refine ay<|xg (.func (.func 109) #[] #[]) fun c w1 Q F s1 z1 => ?_;have⟨T,K⟩:=eU s1.old hx (Below.refl w.heap.size w);have sO:=gL Q;have nC:b≠c:=by rw[Q]; exact t_ (hx.lt (by omega))
 have uo:=F.lt;refine qC 6 (rv .u64 (fun _=>0)) fun r w2 z I s2 z2 => ?_;have⟨J,Z,L⟩:=jh s2.old T F K;have qN:=jc z K.size;have afG:b≠r:=by rw[z]; exact t_ (T.lt (by omega))
 have Og:=cu z F.lt;have zL:=I.lt;refine aD<|Ws<|ay<|av (.slice (some ⟨b,off,none⟩) (m+1) (cap))<|av (au ((m+1:Nat):Int))<|Lv aF aeb<|aD<|aL<|Wk<|sN<|ay<|av (.slice (some ⟨b,off,none⟩) (m+1) (cap))<|Lv (pf b off) (dh 6)<|Lv (.agg (aA 6 (rv .u64 (X 0)))) (fJ J 0 (fun j E=>UA _ (i:=0) (p:=0) (by omega) E))<|qC 6 (rv .u64 (fun _=>0)) fun a w3 A m6 s3 z3 => ?_;have⟨m7,m8,m9,M⟩:=mJ s3.old J Z I L;have Bz:=jc A L.size;have aqL:b≠a:=by rw[A]; exact t_ (J.lt (by omega))
 have⟨UD,UE⟩:=yT A Z.lt I.lt;have IK:=m6.lt;refine dZ m6 0 fun w4 m10 x z4 => ?_;have m11:aQ w4 a 6 (rv .u64 (X 0)) 26:=aR m10;have m12:=m7.bY x (by omega);have m13:=m8.bY x (by omega);have m14:=m9.bY x (by omega);have b4:=x.below M M.size (by omega);refine aD<|Ws<|ay<|av (.slice (some ⟨b,off,none⟩) (m+1) (cap))<|Lv (.slice (if cap=1 then some ⟨b,off,none⟩else some ⟨b,off+6,none⟩) (m) (cap-1)) (Fx.zF (j:=1) (b:=b) (off:=off) (len:=m+1) (cap:=cap) (s:=6) rfl rfl rfl Tryd.underlying173 (by kernel_rfl) (by omega) rfl rfl rfl)<|av (au m)<|av (au 0)<|aD<|Wb ?_;have m15:aQ w4 a 6 (rv .u64 (zA tX X 0)) 26:=m11;refine Wo (fun f n => ∃ k:Nat,k<=m/\f 3=(pt c)/\f 4=(pt r)/\f 5=(pt a)/\f 16 = .slice (if cap=1 then some ⟨b,off,none⟩else some ⟨b,off+6,none⟩) (m) (cap-1)/\f 17=au (m:Int)/\f 18=au (k:Int)/\iQ n b off (6*(m+1)) (vx X)/\aQ n c 1 (fun _ => .func (.func 109) #[] #[]) 175/\aQ n r 6 (rv .u64 (fun _=>0)) 26/\aQ n a 6 (rv .u64 (zA tX X k)) 26/\Below w.heap.size w n) (fun f _=>(m-(intOf (f 18)).toNat)) ⟨0,by omega,(by rfl),(by rfl),(by rfl),(by rfl),Fx.ic,Fx.ic,m12,m13,m14,m15,b4⟩ ?_;rintro f1 w5 ⟨k,hk,R,C,t,S,D,g,u,G,H,v,o⟩;refine ay ?_;by_cases P:(k:Int)<(m:Int)
 ·refine Lv aG (iL P (hx:=g) (hy:=D))<|aD<|Ws<|aO<|Wk<|sN<|Ws<|Wb<|ay<|Lv (pf b (6*k+off+6)) (dh 6 (hx:=(S.trans (K_ (fun q=>Value.slice q (m) (cap-1)) (b_ (by omega))))) (hi:=g))<|Lv (.agg (aA 6 (rv .u64 (X (k+1))))) (fJ u (6*k+6) (fun j E=>UA _ (i:=k+1) (p:=6*k+6) (by omega) E))<|qC 6 (rv .u64 (fun _=>0)) fun d w6 B U s5 z5 => ?_;have⟨m21,m22,m23,m24,N⟩:=qD s5.old u G H v o;have Q7:=jc B o.size;have amC:b≠d:=by rw[B]; exact t_ (u.lt (by omega))
  have⟨amD,amE,amF⟩:=Dh B G.lt H.lt v.lt;have Qi:=U.lt;refine dZ U 0 fun w7 mZ h z6 => ?_;have V:aQ w7 d 6 (rv .u64 (X (k+1))) 26:=aR mZ;have oM:=m21.bY h (by omega);have W:=m22.bY h (by omega);have oZ:=m23.bY h (by omega);have Y:=m24.bY h (by omega);have b7:=h.below N N.size (by omega);refine aD<|Wl<|Lv (.func (.func 122) #[] #[(pt c),(pt a),(pt d)]) (Fx.mG (us := []) (vs := [(pt c),(pt a),(pt d)]) rfl rfl (Fx.NC R t rfl))<|dL (MZ (zA tX X k) (X (k+1)) c a d _ W Y V) _ rfl ?_;intro w8 hb1;have⟨lU,m32,qw,og,qG,O⟩:=rX hb1 oM W oZ Y V b7;refine dZ og 0 (ha:=t) fun w9 pV l z7 => ?_;have uf:aQ w9 a 6 (rv .u64 (fun p=>tX ((zA tX X k) p) ((X (k+1)) p))) 26:=aR pV;have rP:=lU.bY l (by omega);have qM:=m32.bY l (by omega);have uq:=qw.bY l (by omega);have nU:=qG.bY l (by omega);have b9:=l.below O O.size (by omega);refine Ln<|bT<|sN<|Wl<|Lv (au ((k:Int)+1)) (fE (hx:=g))<|av (au ((k:Int)+1))<|Ln<|iB ⟨k+1,by omega,R,C,t,S,(D.trans Fx.ic),Fx.ic,rP,qM,uq,uf,b9⟩ ?_;show(m-(intOf (au ((k:Int)+1))).toNat)<_;simp only[g,intOf]; omega
 refine Lv aF (iM P (hx:=g) (hy:=D))<|aD<|Ws<|aL<|Wx<|cK<|gU<|cO<|sN<|ay<|Lv (.agg (aA 6 (rv .u64 (zA tX X k)))) (fJ v.aH 0 (ha:=t))<|dZ H 0 (ha:=C) fun rO nD y z8 => ?_;have nE:aQ rO r 6 (rv .u64 (zA tX X k)) 26:=aR nD;have rY:=u.bY y (by omega);have rQ:=G.bY y (by omega);have pz:=v.bY y (by omega);have b10:=y.below o o.size (by omega);refine aD (Wr (⟨.agg (aA 6 (rv .u64 (zA tX X k))),rV Tryd.results108 ⟨_,C,aU nE.aH (by kernel_rfl) (by kernel_rfl)⟩,?_⟩));have ek:k=m:=by omega
 exact⟨by rw[ek],b10⟩
theorem M4(a:Option Addr)(n cap:Nat)(X:Nat->Nat->Int)(w:World)(g:n<=1000000)(h:Vcs w a n cap X) :
 Calls Tryd.prog 108 #[.slice a n cap,.func (.func 109) #[] #[]] w fun e w'=>e = .returned (.agg (aA 6 (rv .u64 (OC tX X n))))/\Below w.heap.size w w':=by
 cases n with
 | zero=>exact KR a cap w
 | succ m=>obtain⟨c,b,f,rfl,d⟩:=h (by omega); exact KS b f m cap X w c (by omega) d
theorem abH{w w':World}{a:Option Addr}{n cap:Nat}{X:Nat->Nat->Int}(h:Vcs w a n cap X)(f:Below w.heap.size w w'):Vcs w' a n cap X:=fun d=>by
 obtain⟨g,b,i,e,c⟩:=h d;exact⟨g,b,i,e,c.below f (c.lt (by omega))⟩
theorem abI(a:Option Addr)(n cap:Nat)(X:Nat->Nat->Int)(w:World)(k:n<=1000000)(h:Vcs w a n cap X) :
 Calls Tryd.prog 98 #[.slice a (n) (cap)] w fun e w'=>e = .returned (.agg (aA 6 (rv .u64 (OC tX X n))))/\Below w.heap.size w w':=by
 refine Kent Tryd.func98 5 ?_;refine ay<|DI (m:=6) (y:=rv .u64 (fun _=>0)) (by rfl) rfl (by kernel_rfl) rfl fun i v g d q z => ?_;have b:=bE q.old (Below.refl w.heap.size w);have t:=gL g;have u:=d.lt;refine aD<|ay<|av (.slice a (n) (cap))<|dL (M4 a n cap X _ k (abH h b)) _ rfl ?_;intro x j;have⟨l,c⟩:=eU j d b;refine dZ l 0 fun s o r A => ?_;have p:aQ s i 6 (rv .u64 (OC tX X n)) 26:=aR o;have f:=r.below c c.size (by omega);refine aD (Wr (⟨.agg (aA 6 (rv .u64 (OC tX X n))),rV Tryd.results98 ⟨_,rfl,aU p.aH (by kernel_rfl) (by kernel_rfl)⟩,?_⟩));exact⟨rfl,f⟩
namespace Rt
theorem afH(x y:Nat->Int):bR (bR (fun j=>rv .u64 (fun _=>0) (j % 6)) (0*6) 6 (rv .u64 x)) (1*6) 6 (rv .u64 y)=vx (V2 x y):=by
 funext p
 unfold bR;by_cases b:1*6<=p/\p<1*6+6
 ·rw[d_ b];show _=Value.int .u64 (V2 x y (p / 6) (p % 6));rw[show p / 6=1 by omega,show p-1*6=p % 6 by omega]; rfl
 rw[b_ b];by_cases a:0*6<=p/\p<0*6+6
 ·rw[d_ a];show _=Value.int .u64 (V2 x y (p / 6) (p % 6));rw[show p / 6=0 by omega,show p-0*6=p % 6 by omega]; rfl
 rw[b_ a];show _=Value.int .u64 (V2 x y (p / 6) (p % 6));obtain⟨q,c⟩ : ∃ q,p / 6=q+2:=⟨p / 6-2,by omega⟩;rw[c]; rfl
end Rt
namespace Rt
def hasB(K:Nat->Int)(o a:Int):Bool:=jI o&&decide (0<a)&&decide (a<=K (o-1).toNat)
theorem He{a b:Nat->Int}:xG a b=true <-> ∀ i,i<6->rv .u64 (fun p=>tX (a p) (b p)) i=rv .u64 b i:=by
 unfold xG;rw[List.all_eq_true];have e : ∀ i,rv .u64 (fun p=>tX (a p) (b p)) i=rv .u64 b i<->a i<=b i:=fun i=>by
  show Value.int .u64 (tX (a i) (b i))=aC (b i)<->_;simp only[Value.int.injEq,true_and]; unfold tX; split <;> omega
 constructor
 ·intro h i c; have:=h i (N_.2 c); rw[e]; exact h_ this
 intro h i c; have:=h i (N_.1 c); rw[e]at this; exact f_ this
def Kr(K:Nat->Int):Prop := ∀ i,i<6->jU (K i)
theorem Kr.kd{K:Nat->Int}(h:Kr K):Fx.Kd (List.replicate 6 (some .u64)) (rv .u64 K):=Fx.JE fun i a=>Fx.qU (h i a)
theorem Kr.mx{K L:Nat->Int}(h:Kr K)(b:Kr L):Kr (fun p=>tX (K p) (L p)):=fun i a=>by
 have c:=h i a; have d:=b i a; show jU (tX (K i) (L i)); unfold tX; split <;> assumption
end Rt
theorem XQ{w:World}{g:Nat}{T:TypeId}{x:Nat->Value}(D K:Nat->Int)(h:aQ w g (2*6) x T)(e:x=vx (V2 D K)) :
 Calls Tryd.prog 98 #[bK g 2 2] w fun e w'=>e = .returned (.agg (aA 6 (rv .u64 fun p=>tX (D p) (K p))))/\Below w.heap.size w w' :=
 abI (some ⟨g,0,none⟩) 2 2 (V2 D K) w (by omega) (fun _=>⟨z_ _,g,0,rfl,(h.to e).aH⟩)
theorem Jk(n:Int)(w:World) :
 Calls Tryd.prog 38 #[au n] w fun e w'=>e = .returned (.bool (jI n))/\w'=w:=by
 refine Kent Tryd.func38 9 ?_;refine ay<|av aF<|aD<|ay<|av (au n) ?_;by_cases a:1<=n
 ·refine Lv aG (ko a)<|av aG<|av (au n) ?_;by_cases b:n<=6
  ·refine Lv aG (mW b)<|av aG<|av aG<|aD<|Wr<|aJ aG ?_;exact⟨gY (by simp only[jI]; first|(symm; simp; omega)|(symm; simp; done)),rfl⟩
  refine Lv aF (nk b)<|av aF<|av aF<|aD<|Wr<|aJ aF ?_;exact⟨gY (by simp only[jI]; first|(symm; simp; omega)|(symm; simp; done)),rfl⟩
 refine Lv aF (jT a)<|av aF<|dB<|dB<|av aF<|av aF<|aD<|Wr<|aJ aF ?_;exact⟨gY (by simp only[jI]; first|(symm; simp; omega)|(symm; simp; done)),rfl⟩
theorem Zk(K:Nat->Int)(o q:Int)(w:World) :
 Calls Tryd.prog 68 #[.agg (aA 6 (rv .u64 K)),au o,aC q] w fun e w'=>e = .returned (.bool (hasB K o q))/\Below w.heap.size w w':=by
 refine Kent Tryd.func68 21 ?_;refine ay<|pQ fun k s j i l t => ?_;have f:=bE l.old (Below.refl w.heap.size w);have p:=gL j;have r:=i.lt;refine av aF<|aD<|ay<|av (au o) ?_;by_cases b:(jI o)=true
 ·obtain⟨a,n,m⟩:=eG b;refine oC (Jk o _) aG (by rw[b])<|av aG<|av (aC q) ?_;by_cases c:0<q
  ·refine Lv aG (nu c)<|av aG<|av aG<|av (au o)<|Lv (au a) fQ<|Lv (pf k a) (jm 6 1)<|Lv (aC (K a)) (aM i.aH a)<|av (aC q) ?_;by_cases g:q<=(K a)
   ·refine Lv aG (ko g)<|av aG<|av aG<|aD<|Wr<|aJ aG ?_;have d:decide (0<q)=true:=f_ c;have h:decide (q<=K (o-1).toNat)=true:=f_ (by rw[show(o-1).toNat=a by omega]; exact g);exact⟨gY (Eq.symm (by unfold hasB; rw[b,d,h]; try rfl)),f⟩
   refine Lv aF (jT g)<|av aF<|av aF<|aD<|Wr<|aJ aF ?_;have d:decide (0<q)=true:=f_ c;have h:decide (q<=K (o-1).toNat)=false:=g_ (by rw[show(o-1).toNat=a by omega]; exact g);exact⟨gY (Eq.symm (by unfold hasB; rw[b,d,h]; try rfl)),f⟩
  refine Lv aF (ny c)<|av aF<|av aF<|dB<|dB<|dB<|dB<|dB<|dB<|av aF<|av aF<|aD<|Wr<|aJ aF ?_;have d:decide (0<q)=false:=g_ c;exact⟨gY (Eq.symm (by unfold hasB; rw[b,d]; try rfl)),f⟩
 rw[S_]at b;refine oC (Jk o _) aF (by rw[b])<|av aF<|dB<|dB<|av aF<|av aF<|dB<|dB<|dB<|dB<|dB<|dB<|av aF<|av aF<|aD<|Wr<|aJ aF ?_;exact⟨gY (Eq.symm (by unfold hasB; rw[b]; try rfl)),f⟩
theorem UF(D K:Nat->Int)(w:World)(o:Kr D)(b:Kr K) :
 Calls Tryd.prog 69 #[.agg (aA 6 (rv .u64 D)),.agg (aA 6 (rv .u64 K))] w fun e w'=>e = .returned (.bool (xG D K))/\Below w.heap.size w w':=by
 refine Kent Tryd.func69 11 ?_;refine ay<|pQ fun M w1 E d I z1 => ?_;have f:=bE I.old (Below.refl w.heap.size w);have Q:=gL E;have W:=d.lt;refine pQ fun N w2 l r J z2 => ?_;have⟨H,B⟩:=eU J.old d f;have R:=jc l f.size;have T:=cu l d.lt;have Z:=r.lt;refine av aF<|aD<|Ws ?_;refine jS [0,1,4,2,3,5,6] [4,4,2,2,1,0,0] [(2,0,[0]),(3,0,[2,0]),(2,1,[1]),(3,1,[2,1]),(3,2,[2]),(5,2,[3,2]),(6,2,[2]),(5,3,[3]),(6,3,[3])] fun qE F P => ?_;have⟨t,c,g⟩:=jh F H r B;refine Rs (.agg (aA 6 (rv .u64 D))) (fJ t.aH 0) ?_;refine Rs (.agg (aA 6 (rv .u64 K))) (fJ c.aH 0) ?_;refine Rd (v := .agg (aA 6 (rv .u64 K))) (by rfl) (by rfl) (wI _) (fun A G=>eZ (x:=rv .u64 K) (y:=rv .u64 K) rfl rfl (by kernel_rfl) (by kernel_rfl) (c.aH.below G (by have:=c.lt; omega)) (i:=0) (by omega) (by omega) (fun j _=>by rw[E_])) ?_;refine Dc<|Af (vs := [(0,.agg (aA 6 (rv .u64 D))),(1,.agg (aA 6 (rv .u64 K)))]) (s:=6) (zc:=rv .u64 (fun _=>0)) (y:=bR (bR (fun j=>(rv .u64 (fun _=>0)) (j % 6)) (0*6) 6 (rv .u64 D)) (1*6) 6 (rv .u64 K)) (by rfl) rfl rfl Tryd.underlying173 (by kernel_rfl) (by rfl) (by rfl) (by kernel_rfl) (by rw[bJ (off:=0*6) (s:=6) (y:=rv .u64 D) rfl (bL _ _) (by rfl)]; rw[bJ (off:=1*6) (s:=6) (y:=rv .u64 K) rfl (bL _ _) (by rfl)]; rfl) rfl fun O w3 m u z z3 => ?_;have C:=bE z.old g;have S:=jc m g.size;have⟨U,V⟩:=yT m t.lt c.lt;have aa:=u.lt;refine Ln ⟨z.old,?_⟩;refine Dc<|dL (XQ D K u (afH D K)) _ rfl ?_;intro w4 q;have L:=Sb q;have k:=bE q C;refine Ln ⟨L.old,?_⟩;by_cases a : ∀ i,i<6->(rv .u64 (fun p=>tX (D p) (K p))) i=(rv .u64 K) i
 ·refine Rp aG (fun A=>Fx.vw (n:=6) (ks:=List.replicate 6 (some .u64)) (X:=rv .u64 (fun p=>tX (D p) (K p))) (Y:=rv .u64 K) 12 true rfl rfl rfl (Fx.Pg a) (o.mx b).kd b.kd rfl (by kernel_rfl) (by kernel_rfl) (by kernel_rfl) (by kernel_rfl) (by kernel_rfl))<|aZ aG<|bO<|Wr<|aJ aG ?_;exact⟨gY (Eq.symm (He.2 a)),k⟩
 refine Rp aF (fun A=>Fx.vw (n:=6) (ks:=List.replicate 6 (some .u64)) (X:=rv .u64 (fun p=>tX (D p) (K p))) (Y:=rv .u64 K) 12 false rfl rfl rfl (Fx.nob a) (o.mx b).kd b.kd rfl (by kernel_rfl) (by kernel_rfl) (by kernel_rfl) (by kernel_rfl) (by kernel_rfl))<|aZ aF<|bO<|Wr<|aJ aF ?_;exact⟨gY (Eq.symm (Bool.eq_false_iff.2 (fun h=>a (He.1 h)))),k⟩
theorem Rt.KT{K:Nat->Int}{v:EvM}(h:bM v=true):lX K v=hasB K v.o v.seq:=by
 have a:=iG h; have b:=(DU h).1;unfold lX hasB; rw[h,a,show decide (0<v.seq)=true from f_ (by omega)]; rfl
theorem UG(K:Nat->Int)(v:EvM)(w:World)(k:fV v) :
 Calls Tryd.prog 45 #[.agg (aA 6 (rv .u64 K)),.agg (aA 14 (bH v))] w fun e w'=>e = .returned (.bool (lX K v))/\Below w.heap.size w w':=by
 refine Kent Tryd.func45 15 ?_;refine ay<|pQ fun B H q c z O => ?_;have f:=bE z.old (Below.refl w.heap.size w);have C:=gL q;have F:=c.lt;refine pQ fun j I i d A P => ?_;have⟨x,g⟩:=eU A.old c f;have D:=jc i f.size;have E:=cu i c.lt;have G:=d.lt;refine av aF<|aD<|ay<|Lv (.agg (aA 14 (bH v))) (fJ d.aH 0) ?_;by_cases a:(bM v)=true
 ·refine dL (G9 v _ k) aG (by rw[a]) ?_;intro J r;have⟨y,l,h⟩:=jh r x d g;refine av aG<|Lv (.agg (aA 6 (rv .u64 K))) (fJ y.aH 0)<|av (pt j)<|Lv (au v.o) (aM l.aH 0)<|av (pf j 1)<|Lv (aC v.seq) (aM l.aH 1) ?_;by_cases b:(hasB K v.o v.seq)=true
  ·refine dL (Zk K v.o v.seq _) aG (by rw[b]) ?_;intro L s;have m:=bE s h;refine av aG<|av aG<|aD<|Wr<|aJ aG ?_;exact⟨gY (Eq.symm ((KT a).trans b)),m⟩
  rw[S_]at b;refine dL (Zk K v.o v.seq _) aF (by rw[b]) ?_;intro M t;have n:=bE t h;refine av aF<|av aF<|aD<|Wr<|aJ aF ?_;exact⟨gY (Eq.symm ((KT a).trans b)),n⟩
 rw[S_]at a;refine dL (G9 v _ k) aF (by rw[a]) ?_;intro N u;have p:=bE u g;refine av aF<|dB<|dB<|dB<|dB<|dB<|dB<|av aF<|av aF<|aD<|Wr<|aJ aF ?_;exact⟨gY (Eq.symm (by unfold lX; rw[a]; rfl)),p⟩
theorem OD(K:Nat->Int)(v:EvM)(w:World)(i:fV v)(q:Kr K) :
 Calls Tryd.prog 46 #[.agg (aA 6 (rv .u64 K)),.agg (aA 14 (bH v))] w fun e w'=>e = .returned (.bool (dw K v))/\Below w.heap.size w w':=by
 refine Kent Tryd.func46 24 ?_;refine ay<|pQ fun z Q y l F W => ?_;have m:=bE F.old (Below.refl w.heap.size w);have L:=gL y;have O:=l.lt;refine pQ fun k R p c G X => ?_;have⟨r,h⟩:=eU G.old l m;have M:=jc p m.size;have N:=cu p l.lt;have P:=c.lt;refine av aF<|aD<|Ws ?_;refine mI<|Qv (.agg (aA 14 (bH v))) (fun d b=>fJ (c.cb b) 0) ?_;by_cases f:(bM v)=true
 ·obtain⟨a,I,H⟩:=eG (iG f);have J:=DU f;refine yR (fun _ _=>G9 v _ i) aG (by rw[f])<|aX aG<|aX (pt k)<|Qv (au v.o) (fun d b=>aM (c.cb b) 0)<|Qv (au a) (fun d b=>fQ)<|Qv (pf z a) (fun d b=>jm 6 1)<|Qv (aC (K a)) (fun d b=>aM (r.cb b) a)<|aX (pf k 1)<|Qv (aC v.seq) (fun d b=>aM (c.cb b) 1)<|Qv (aC (v.seq-1)) (fun d b=>fQ) ?_;by_cases n:(K a)=(v.seq-1)
  ·refine Qv aG (fun d b=>eY n)<|aX aG<|aX aG<|aX (pf k 2)<|Qv (.agg (aA 6 (rv .u64 v.deps))) (fun d b=>fJ (c.cb b) 2 (fun j E=>kF _ (by omega) E))<|Qv (.agg (aA 6 (rv .u64 K))) (fun d b=>fJ (r.cb b) 0) ?_;by_cases g:(xG v.deps K)=true
   ·refine yR (fun _ _=>UF v.deps K _ i.deps q) aG (by rw[g])<|aX aG<|aX aG<|Qn ?_;intro S A;have s:=bE A h;refine sN<|Wr<|aJ aG ?_;have c:decide (v.seq=K (v.o-1).toNat+1)=true:=f_ (by rw[show(v.o-1).toNat=a by omega]; omega);exact⟨gY (Eq.symm (by unfold dw; rw[f,c,g]; try rfl)),s⟩
   rw[S_]at g;refine yR (fun _ _=>UF v.deps K _ i.deps q) aF (by rw[g])<|aX aF<|aX aF<|Qn ?_;intro T B;have t:=bE B h;refine sN<|Wr<|aJ aF ?_;have c:decide (v.seq=K (v.o-1).toNat+1)=true:=f_ (by rw[show(v.o-1).toNat=a by omega]; omega);exact⟨gY (Eq.symm (by unfold dw; rw[f,c,g]; try rfl)),t⟩
  refine Qv aF (fun d b=>fU n)<|aX aF<|aX aF<|aP<|aP<|aP<|aP<|aX aF<|aX aF<|Qn ?_;intro U C;have u:=bE C h;refine sN<|Wr<|aJ aF ?_;have c:decide (v.seq=K (v.o-1).toNat+1)=false:=g_ (by rw[show(v.o-1).toNat=a by omega]; omega);exact⟨gY (Eq.symm (by unfold dw; rw[f,c]; try rfl)),u⟩
 rw[S_]at f;refine yR (fun _ _=>G9 v _ i) aF (by rw[f])<|aX aF<|aP<|aP<|aP<|aP<|aP<|aP<|aP<|aP<|aP<|aX aF<|aX aF<|aP<|aP<|aP<|aP<|aX aF<|aX aF<|Qn ?_;intro V D;have x:=bE D h;refine sN<|Wr<|aJ aF ?_;exact⟨gY (Eq.symm (by unfold dw; rw[f]; try rfl)),x⟩
set_option maxRecDepth 20000
namespace Rt
def jr(m:dM)(v:EvM):Int:=if m.T.has v.node=false then 9 else if 140737488355328<m.R (m.idx v.node) (aK v)+v.aT then 6 else 0
def BS(m:dM)(k:Int)(r:Nat->Int):dM := { m with R:=aN m.R (m.idx k) r }
def tY(m:dM)(v:EvM):dM:=BS m v.node (upd (m.R (m.idx v.node)) (aK v) (m.R (m.idx v.node) (aK v)+v.aT))
def rE(m:dM)(v:EvM):(Nat->Int) × Int:=cB (m.R (m.idx v.node)) v.o v.dst v.aT
def jX(m:dM)(v:EvM):Int:=if m.T.has v.node=false then 9 else if m.inn (v.dst-1).toNat=false then 10 else(rE m v).2
def CP(m:dM)(v:EvM):dM:=BS m v.node (rE m v).1
def Hf(m:dM)(v:EvM):dM := { m with inn:=aI m.inn (v.dst-1).toNat true }
def BU(m:dM)(v:EvM):dM := { m with left:=aI m.left (aK v) true }
theorem D8{R:Nat->Nat->Int}{j:Nat}{r:Nat->Int} : ∀ n x w b,Mp w b n x (aN (wP R) j (.agg (aA 54 (rv .i64 r))))->Mp w b n x (wP (aN R j r)):=fun n x w b h=>h.uh fun i _=>⟨rfl,by unfold wP aN; split <;> rfl⟩
end Rt
theorem Gc:Fx.vG Tryd.prog 102:=⟨by kernel_rfl,by kernel_rfl,by kernel_rfl⟩
theorem UH(m:dM)(lp B:Nat)(w:World)(h:kQ w B lp m)(v:EvM)(Y:bM v=true)(b:Nat)(D:b<6)(X:v.dst=(b:Int)+1)(i:Nat)(f:Nat)(l:aQ w i 1 (fun _=>(pt lp)) 44)(k:aQ w f 14 (bH v) 28) :
 Calls Tryd.prog 166 #[(pt i),(pt f)] w fun e w'=>e = .returned (.tuple #[])/\kQ w' B lp (Hf m v)/\jM (Bp m lp) w w':=by
 have x:=h.c;have C:=h.t;have z:=h.p;have A:=h.r;have y:=h.g;have u:=h.a;have d:=h.ne;have lC:=h.c.lt;have lT:=h.t.lt;have lP:=h.p.lt;have lR:=h.r.lt;have lG:=h.g.lt;have lA:=h.a.lt;have YV:=l.lt;have Zl:=k.lt;have E:(v.dst-1).toNat=b:=by omega
 refine Kent Tryd.func166 9 ?_;refine jS [1,0,4,5,2,3,6,7] [4,0,4,0,0,0,0,3] [(7,0,[0]),(7,2,[2])] fun W j Z => ?_;have U:Stp w.heap.size w W:=Sb j;have⟨n,M,N,O,P,Q,R,S⟩:=lK j x C z A y u l k;have q:=(uT (Bp m lp) w).then U (.inr (uT (Bp m lp) w).size);refine aZ (pf f 10)<|Rs (pt lp) (aM R.aH 0) ?_;refine aZ (pt lp)<|aZ (pt lp)<|Rs (au v.dst) (aM S.aH 10) ?_;refine Rp (au b) (fun _=>fQ)<|Rp (pf lp b) (fun _=>jm 6 1)<|gG<|iX n b aG fun V T o z1 => ?_;have G:aQ V lp 29 (vg { m with inn:=aI m.inn b true }) 93:=T.to (Uu D _);have F:=gK o n.ty;have⟨H,I,J,K,L⟩:=qb F M N O P Q;have s:=q.then o (.inl (.inl rfl));refine Ln (Rn (⟨.tuple #[],iI Tryd.results166,?_⟩));unfold Hf; rw[E];exact⟨rfl,{ c:=G,t:=H,p:=I,r:=J,g:=K,a:=L,ne:=⟨d.mp,d.mr,d.mg,d.ma,d.pr,d.pg,d.pa,d.rg,d.ra,d.ga⟩,lB:=h.lB,pB:=h.pB,rB:=h.rB,gB:=h.gB,aB:=h.aB },s⟩
theorem Qx(m:dM)(lp B:Nat)(w:World)(h:kQ w B lp m)(v:EvM)(H:bM v=true)(f:Nat)(d:Nat)(l:aQ w f 1 (fun _=>(pt lp)) 44)(k:aQ w d 14 (bH v) 28) :
 Calls Tryd.prog 167 #[(pt f),(pt d)] w fun e w'=>e = .returned (.tuple #[])/\kQ w' B lp (BU m v)/\jM (Bp m lp) w w':=by
 have y:=h.c;have D:=h.t;have A:=h.p;have C:=h.r;have z:=h.g;have x:=h.a;have b:=h.ne;have lC:=h.c.lt;have lT:=h.t.lt;have lP:=h.p.lt;have lR:=h.r.lt;have lG:=h.g.lt;have lA:=h.a.lt;have YV:=l.lt;have Zl:=k.lt;obtain⟨a,E,Z⟩ : ∃ a:Nat,a<6/\v.o=(a:Int)+1:=eG (iG H);have G:aK v=a:=by unfold aK; omega
 refine Kent Tryd.func167 9 ?_;refine jS [1,0,4,5,2,3,6,7] [4,0,4,0,0,0,0,3] [(7,0,[0]),(7,2,[2])] fun Y j aa => ?_;have W:Stp w.heap.size w Y:=Sb j;have⟨n,O,P,Q,R,S,T,U⟩:=lK j y D A C z x l k;have s:=(uT (Bp m lp) w).then W (.inr (uT (Bp m lp) w).size);refine aZ (pt d)<|Rs (pt lp) (aM T.aH 0) ?_;refine aZ (pt lp)<|aZ (pf lp 6)<|Rs (au v.o) (aM U.aH 0) ?_;refine Rp (au a) (fun _=>fQ)<|Rp (pf lp (a+6)) (fun _=>jm 6 1)<|gG<|iX n (a+6) aG fun X V q z1 => ?_;have I:aQ X lp 29 (vg { m with left:=aI m.left a true }) 93:=V.to (Uv (i:=a) E (by omega) _);have F:=gK q n.ty;have⟨J,K,L,M,N⟩:=qb F O P Q R S;have u:=s.then q (.inl (.inl rfl));refine Ln (Rn (⟨.tuple #[],iI Tryd.results167,?_⟩));unfold BU; rw[G];exact⟨rfl,{ c:=I,t:=J,p:=K,r:=L,g:=M,a:=N,ne:=⟨b.mp,b.mr,b.mg,b.ma,b.pr,b.pg,b.pa,b.rg,b.ra,b.ga⟩,lB:=h.lB,pB:=h.pB,rB:=h.rB,gB:=h.gB,aB:=h.aB },u⟩
theorem Qy(m:dM)(lp B:Nat)(w:World)(h:kQ w B lp m)(v:EvM)(hv:bM v=true)(P:m.T.has v.node=true)(r:Nat->Int)(k:Nat)(j:Nat)(f:Nat)(hr:aQ w k 54 (rv .i64 (r)) 82)(s:aQ w j 1 (fun _=>(pt lp)) 44)(o:aQ w f 14 (bH v) 28) :
 Calls Tryd.prog 156 #[(pt k),(pt j),(pt f)] w fun e w'=>e = .returned (.tuple #[])/\kQ w' B lp (BS m v.node r)/\jM (Bp m lp) w w':=by
 have J:=h.c;have O:=h.t;have M:=h.p;have N:=h.r;have K:=h.g;have I:=h.a;have b:=h.ne;have lC:=h.c.lt;have lT:=h.t.lt;have lP:=h.p.lt;have lR:=h.r.lt;have lG:=h.g.lt;have lA:=h.a.lt;have lgr:=hr.lt;have YV:=s.lt;have Zl:=o.lt;obtain⟨u,q,i⟩:=gQ P;have H:m.idx v.node=u:=nQ h.t.inv.inj q i;refine Kent Tryd.func156 10 ?_;refine jS [4,0,1,2,3,5,6,7] [4,0,0,4,0,4,4,3] [(7,0,[0]),(7,3,[3]),(7,5,[5]),(7,6,[6])] fun qE l iC => ?_;have s1:Stp w.heap.size w qE:=Sb l;have⟨y,Z,m3,z,m5,m6,A,C,D⟩:=Bt l J O M N K I hr s o;have F:=(uT (Bp m lp) w).then s1 (.inr (uT (Bp m lp) w).size);refine aZ (pf f 9)<|Rs (pt lp) (aM C.aH 0) ?_;refine aZ (pt lp)<|aZ (pf lp 20)<|Rs (.map (some m.rb)) (aM y.aH 20) ?_;refine Rs (aC v.node) (aM D.aH 9) ?_;refine Rs (.agg (aA 54 (rv .i64 (r)))) (fJ A.aH 0) ?_;refine gG<|Fx.L.Z8 (by rfl) rfl rfl rfl rfl rfl z Tryd.underlying88 Tryd.underlying22 q i fun w1 Q E z1 => ?_;have d:=z.Cw E;have S:=y.dQ d;have U:=Z.dQ d (b.mr);have V:=m3.dQ d (b.pr);have W:=m5.dQ d (Ne.symm b.rg);have X:=m6.dQ d (Ne.symm b.ra);have m16:=A.dQ d;have m17:=C.dQ d;have m18:=D.dQ d;have G:=F.then E (.inl (.inr (.inr (.inr (.inl rfl)))));have Y:Mp w1 m.rb m.T.n m.T.x (wP (aN m.R u (r))):=D8 _ _ _ _ Q;refine Ln (Rn (⟨.tuple #[],iI Tryd.results156,?_⟩));unfold BS; rw[H];exact⟨rfl,{ c:=S,t:=U,p:=V,r:=Y,g:=W,a:=X,ne:=⟨b.mp,b.mr,b.mg,b.ma,b.pr,b.pg,b.pa,b.rg,b.ra,b.ga⟩,lB:=h.lB,pB:=h.pB,rB:=h.rB,gB:=h.gB,aB:=h.aB },G⟩
theorem UJ(m:dM)(lp B:Nat)(w:World)(h:kQ w B lp m)(v:EvM)(hv:bM v=true)(P:m.T.has v.node=true)(r:Nat->Int)(k:Nat)(j:Nat)(f:Nat)(hr:aQ w k 54 (rv .i64 (r)) 82)(s:aQ w j 1 (fun _=>(pt lp)) 44)(o:aQ w f 14 (bH v) 28) :
 Calls Tryd.prog 165 #[(pt k),(pt j),(pt f)] w fun e w'=>e = .returned (.tuple #[])/\kQ w' B lp (BS m v.node r)/\jM (Bp m lp) w w':=by
 have J:=h.c;have O:=h.t;have M:=h.p;have N:=h.r;have K:=h.g;have I:=h.a;have b:=h.ne;have lC:=h.c.lt;have lT:=h.t.lt;have lP:=h.p.lt;have lR:=h.r.lt;have lG:=h.g.lt;have lA:=h.a.lt;have lgr:=hr.lt;have YV:=s.lt;have Zl:=o.lt;obtain⟨u,q,i⟩:=gQ P;have H:m.idx v.node=u:=nQ h.t.inv.inj q i;refine Kent Tryd.func165 10 ?_;refine jS [4,0,1,2,3,5,6,7] [4,0,0,4,0,4,4,3] [(7,0,[0]),(7,3,[3]),(7,5,[5]),(7,6,[6])] fun qE l iC => ?_;have s1:Stp w.heap.size w qE:=Sb l;have⟨y,Z,m3,z,m5,m6,A,C,D⟩:=Bt l J O M N K I hr s o;have F:=(uT (Bp m lp) w).then s1 (.inr (uT (Bp m lp) w).size);refine aZ (pf f 9)<|Rs (pt lp) (aM C.aH 0) ?_;refine aZ (pt lp)<|aZ (pf lp 20)<|Rs (.map (some m.rb)) (aM y.aH 20) ?_;refine Rs (aC v.node) (aM D.aH 9) ?_;refine Rs (.agg (aA 54 (rv .i64 (r)))) (fJ A.aH 0) ?_;refine gG<|Fx.L.Z8 (by rfl) rfl rfl rfl rfl rfl z Tryd.underlying88 Tryd.underlying22 q i fun w1 Q E z1 => ?_;have d:=z.Cw E;have S:=y.dQ d;have U:=Z.dQ d (b.mr);have V:=m3.dQ d (b.pr);have W:=m5.dQ d (Ne.symm b.rg);have X:=m6.dQ d (Ne.symm b.ra);have m16:=A.dQ d;have m17:=C.dQ d;have m18:=D.dQ d;have G:=F.then E (.inl (.inr (.inr (.inr (.inl rfl)))));have Y:Mp w1 m.rb m.T.n m.T.x (wP (aN m.R u (r))):=D8 _ _ _ _ Q;refine Ln (Rn (⟨.tuple #[],iI Tryd.results165,?_⟩));unfold BS; rw[H];exact⟨rfl,{ c:=S,t:=U,p:=V,r:=Y,g:=W,a:=X,ne:=⟨b.mp,b.mr,b.mg,b.ma,b.pr,b.pg,b.pa,b.rg,b.ra,b.ga⟩,lB:=h.lB,pB:=h.pB,rB:=h.rB,gB:=h.gB,aB:=h.aB },G⟩
set_option maxRecDepth 20000
namespace Rt
theorem OE{v:EvM}(h:bM v=true)(c:v.kind=5) : ∃ b:Nat,b<6/\v.dst=(b:Int)+1:=by
 unfold bM at h;simp only[R_]at h;have a:=h.2;unfold dI at a;rw[b_ (by omega),b_ (by omega),b_ (by omega),b_ (by omega),d_ c]at a;unfold lM at a;simp only[R_]at a;exact eG a.2.1
end Rt
theorem abJ(x:Nat->Int)(i j n:Int)(w:World)(hi:1<=i/\i<=6)(a:1<=j/\j<=6) :
 Calls Tryd.prog 164 #[.agg (aA 54 (rv .i64 x)),au i,au j,au n] w fun e w'=>e = .returned (.tuple #[.agg (aA 54 (rv .i64 (cB x i j n).1)),au (cB x i j n).2])/\Below w.heap.size w w' :=
 Tt x i j n w (by omega) (by omega)
theorem abK(x:Nat->Int)(i n:Int)(w:World)(hi:1<=i/\i<=6) :
 Calls Tryd.prog 159 #[.agg (aA 54 (rv .i64 x)),au i,au n] w fun e w'=>e = .returned (.tuple #[.agg (aA 54 (rv .i64 (bC x i n).1)),au (bC x i n).2])/\Below w.heap.size w w' :=
 Tm x i n w (by omega)
theorem abL(x:Nat->Int)(i n:Int)(w:World)(hi:1<=i/\i<=6) :
 Calls Tryd.prog 162 #[.agg (aA 54 (rv .i64 x)),au i,au n] w fun e w'=>e = .returned (.tuple #[.agg (aA 54 (rv .i64 (bD x i n).1)),au (bD x i n).2])/\Below w.heap.size w w' :=
 Tq x i n w (by omega)
theorem UK(m:dM)(lp B:Nat)(w:World)(h:kQ w B lp m)(v:EvM)(N:bM v=true)(hkd:v.kind=2)(hRb : ∀ i,i<m.T.n -> ∀ p,p<54->0<=m.R i p/\m.R i p<=1125899906842624) :
 Calls Tryd.prog 146 #[(pt lp),.agg (aA 14 (bH v))] w fun e w'=>Q9 w B lp m (tY m v) (jr m v) e w':=by
 have hC:=h.c;have hT:=h.t;have hP:=h.p;have hR:=h.r;have hG:=h.g;have hA:=h.a;have hN:=h.ne;have lC:=h.c.lt;have lT:=h.t.lt;have lP:=h.p.lt;have lR:=h.r.lt;have lG:=h.g.lt;have lA:=h.a.lt;obtain⟨a,ha,ho⟩ : ∃ a:Nat,a<6/\v.o=(a:Int)+1:=eG (iG N);have M:aK v=a:=by unfold aK; omega
 refine Kent Tryd.func146 39 ?_;refine ay<|xg (pt lp) fun l w1 aa O s1 z1 => ?_;have⟨m2,m4,m5,m6,m7,W⟩:=rX s1.old hC hP hR hG hA (Below.refl w.heap.size w);have sO:=gL aa;have⟨nC,zB,xI,CQ,AP⟩:=Aw aa hC.lt hP.lt hR.lt hG.lt hA.lt;have uo:=O.lt;refine pQ fun f w2 ab m8 s2 z2 => ?_;have⟨m9,m11,m12,m13,m14,m15,b2⟩:=jw s2.old m2 m4 m5 m6 m7 O W;have qN:=jc ab W.size;have⟨KU,BX,Fg,zX,BZ,zK⟩:=JO ab m2.lt m4.lt m5.lt m6.lt m7.lt O.lt;have zL:=m8.lt;refine av (.nilFunc)<|av (au 0)<|aD<|Ws ?_;refine jS [4,0,1,2,3,5,6,7,8,9,10,11,12] [1,0,0,1,0,1,1,0,0,0,2,3,0] [(11,0,[0]),(11,3,[3]),(11,5,[5]),(11,6,[6]),(11,10,[10]),(12,10,[10]),(12,11,[11])] fun qE dU iC => ?_;have⟨E,m18,F,m20,m21,s,u,y⟩:=lK dU m9 m11 m12 m13 m14 m15 m8 b2;refine aZ (pf f 9)<|Rd (v:=(pt lp)) (by rfl) (by rfl) (wI _) (fun G j=>bF (x:=fun _=>(pt lp)) rfl rfl (by kernel_rfl) (s.aH.below j (by have:=s.lt; omega)) (i:=0) (by omega) (by omega) rfl) ?_;refine aZ (pt lp)<|aZ (pf lp 20)<|Rd (v := .map (some m.rb)) (by rfl) (by rfl) (wI _) (fun G j=>bF (x:=vg m) rfl rfl (by kernel_rfl) (E.aH.below j (by have:=E.lt; omega)) (i:=20) (by omega) (by omega) rfl) ?_;refine Rd (v:=aC v.node) (by rfl) (by rfl) (wI _) (fun G j=>bF (x:=bH v) rfl rfl (by kernel_rfl) (u.aH.below j (by have:=u.lt; omega)) (i:=9) (by omega) (by omega) rfl) ?_
 rcases Fx.qY m.T.x m.T.n v.node with ⟨b,D,J⟩|jg
 ·refine Rd (v := .tuple #[.agg (aA 54 (rv .i64 (m.R b))),.bool true]) (by rfl) (by rfl) (wI _) (fun G j=>Fx.Es (z := .agg (aA 54 (rv .i64 (fun _=>0)))) rfl rfl rfl (F.up j) Tryd.underlying88 Tryd.underlying22 (by kernel_rfl) D J rfl) ?_;refine aZ (.tuple #[.agg (aA 54 (rv .i64 (m.R b))),.bool true])<|aZ (.agg (aA 54 (rv .i64 (m.R b))))<|aZ aG<|Dc<|qC 54 (rv .i64 (fun _=>0)) fun d w3 ac P s4 z3 => ?_;have⟨lU,m32,X⟩:=jh s4.old s u y;have Bz:=jc ac y.size;have⟨M5,M6,UL,UM,UN,abM,abN⟩:=Me ac E.lt m18.lt F.lt m20.lt m21.lt s.lt u.lt;have IK:=P.lt;refine Ln ⟨s4.old,?_⟩;refine gG<|dZ P 0 fun w4 qw s5 z4 => ?_;have og:aQ w4 d 54 (rv .i64 (m.R b)) 82:=aR qw;have gM:=gK s5 P.ty;have⟨nU,nD⟩:=F4 gM lU m32;have b5:=s5.below X X.size (by omega);refine Ln<|aZ aG<|bO<|Ws<|ay<|av aG<|av aF<|aD<|aL<|Wk<|sN<|Ws<|Ws ?_;have K:m.idx v.node=b:=nQ h.t.inv.inj D J;have q:m.T.has v.node=true:=jy D J;have q1:=hRb b D a (by omega);have q2:=kP N (.inl hkd);refine jS [0,3,6,9,1,2,4,5,7,8,10,11] [0,4,0,0,0,4,0,4,0,0,0,3] [(11,1,[1]),(11,5,[5]),(11,7,[7])] fun Dl gH nZ => ?_;have⟨tK,Q,S,Y⟩:=mJ gH nU nD og b5;refine aZ (pt f)<|aZ (pt d)<|aZ (pf f 11)<|aZ (pt d)<|Rs (au v.o) (aM Q.aH 0) ?_;refine Rp (au a) (fun _=>fQ)<|Rp (pf d a) (fun _=>jm 6 1)<|Rs (au ((m.R b) a)) (aM S.aH a) ?_;refine Rs (au v.aT) (aM Q.aH 11) ?_;refine Rp (au (((m.R b) a)+v.aT)) (fun _=>fE)<|Rp (pf d a) (fun _=>jm 6 1)<|gG<|iX S a (au (((m.R b) a)+v.aT)) fun w5 uU s7 z5 => ?_;have U:aQ w5 d 54 (rv .i64 (upd (m.R b) a (((m.R b) a)+v.aT))) 82:=uU.to (Fx.xW _ _ _ _);have kr:=gK s7 S.ty;have⟨ru,V⟩:=F4 kr tK Q;have H:=s7.below Y Y.size (by omega);refine Ln<|bO<|ay<|av (pt f)<|Lv (au v.o) (aM V.aH 0)<|Lv (au a) fQ<|av (pt d)<|Lv (pf d a) (jm 6 1)<|Lv (au ((upd (m.R b) a (((m.R b) a)+v.aT)) a)) (aM U.aH a) ?_;by_cases A:140737488355328<((upd (m.R b) a (((m.R b) a)+v.aT)) a)
  ·refine Lv aG (nu A)<|aD<|aO<|ay<|av (.nilFunc)<|av (au 6)<|aD<|Wr<|sR<|aJ (.tuple #[.nilFunc,au 6]) ?_;have k:jr m v=6:=(by unfold jr; rw[b_ (by rw[q]; decide)]; exact d_ (by rw[K,M]; simpa [upd] using A));exact⟨⟨.nilFunc,0,#[],by rw[k],rfl,fun I=>L_ (k.symm.trans I) (by first|decide|omega|assumption)⟩,H⟩
  refine Lv aF (ny A)<|aD<|aL<|Wk<|sN<|ay<|Lv (.func (.func 156) #[] #[(pt d),(pt l),(pt f)]) (Fx.mG (us := []) (vs := [(pt d),(pt l),(pt f)]) rfl rfl rfl)<|av (.func (.func 156) #[] #[(pt d),(pt l),(pt f)])<|av (au 0)<|aD<|Wr<|aJ (.tuple #[.func (.func 156) #[] #[(pt d),(pt l),(pt f)],au 0]) ?_;have em:tY m v=BS m v.node (upd (m.R b) a (m.R b a+v.aT)):=by unfold tY; rw[K,M]
  rw[em];have k:jr m v=0:=by unfold jr; rw[b_ (by rw[q]; decide)]; exact b_ (by rw[K,M]; simpa [upd] using A)
  exact⟨⟨_,156,#[(pt d),(pt l),(pt f)],by rw[k],rfl,fun _=>⟨rfl,⟨_,_,Tryd.func156,rfl,rfl⟩,fun w2 C=>(Qy m lp B w2 ((h.up H).up C) v N q _ _ _ _ (U.bY (Sb C) (t_ U.lt)) (ru.bY (Sb C) (t_ ru.lt)) (V.bY (Sb C) (t_ V.lt))).mono fun _ _ L=>⟨L.1,L.2.1,L.2.2.mono fun _ q => .inl q⟩⟩⟩,H⟩
 refine Rd (v := .tuple #[.agg (aA 54 (rv .i64 (fun _=>0))),.bool false]) (by rfl) (by rfl) (wI _) (fun G j=>Fx.Er (z := .agg (aA 54 (rv .i64 (fun _=>0)))) rfl rfl rfl (F.up j) Tryd.underlying88 Tryd.underlying22 (by kernel_rfl) jg) ?_;refine aZ (.tuple #[.agg (aA 54 (rv .i64 (fun _=>0))),.bool false])<|aZ (.agg (aA 54 (rv .i64 (fun _=>0))))<|aZ aF<|Dc<|qC 54 (rv .i64 (fun _=>0)) fun g4 w6 ad oh s8 z6 => ?_;have Z:=bE s8.old y;have Q7:=jc ad y.size;have⟨abO,amG,abP,abQ,abR,abS,abT⟩:=Me ad E.lt m18.lt F.lt m20.lt m21.lt s.lt u.lt;have Qi:=oh.lt;refine Ln ⟨s8.old,?_⟩;refine gG<|dZ oh 0 fun w7 uz s9 z7 => ?_;have vI:aQ w7 g4 54 (rv .i64 (fun _=>0)) 82:=aR uz;have b9:=s9.below Z Z.size (by omega);refine Ln<|aZ aF<|bO<|Ws<|ay<|av aF<|av aG<|aD<|aO<|ay<|av (.nilFunc)<|av (au 9)<|aD<|Wr<|sR<|aJ (.tuple #[.nilFunc,au 9]) ?_;have k:jr m v=9:=by unfold jr; exact d_ (yh jg)
 exact⟨⟨.nilFunc,0,#[],by rw[k],rfl,fun I=>L_ (k.symm.trans I) (by first|decide|omega|assumption)⟩,b9⟩
theorem XR(m:dM)(lp B:Nat)(w:World)(h:kQ w B lp m)(v:EvM)(Q:bM v=true)(hkd:v.kind=5) :
 Calls Tryd.prog 149 #[(pt lp),.agg (aA 14 (bH v))] w fun e w'=>Q9 w B lp m (CP m v) (jX m v) e w':=by
 have hC:=h.c;have hT:=h.t;have hP:=h.p;have hR:=h.r;have hG:=h.g;have hA:=h.a;have hN:=h.ne;have lC:=h.c.lt;have lT:=h.t.lt;have lP:=h.p.lt;have lR:=h.r.lt;have lG:=h.g.lt;have lA:=h.a.lt;obtain⟨a,ha,ho⟩ : ∃ a:Nat,a<6/\v.o=(a:Int)+1:=eG (iG Q);have hra:aK v=a:=by unfold aK; omega
 obtain⟨b,hb,hd⟩:=OE Q hkd;have N:(v.dst-1).toNat=b:=by omega
 refine Kent Tryd.func149 47 ?_;refine ay<|xg (pt lp) fun y w1 aa S s1 z1 => ?_;have⟨m2,m4,m5,m6,m7,V⟩:=rX s1.old hC hP hR hG hA (Below.refl w.heap.size w);have sO:=gL aa;have⟨nC,zB,xI,CQ,AP⟩:=Aw aa hC.lt hP.lt hR.lt hG.lt hA.lt;have uo:=S.lt;refine pQ fun f w2 ab m8 s2 z2 => ?_;have⟨m9,m11,m12,m13,m14,m15,b2⟩:=jw s2.old m2 m4 m5 m6 m7 S V;have qN:=jc ab V.size;have⟨KU,BX,Fg,zX,BZ,zK⟩:=JO ab m2.lt m4.lt m5.lt m6.lt m7.lt S.lt;have zL:=m8.lt;refine av (.nilFunc)<|av (au 0)<|aD<|Ws ?_;refine jS [4,0,1,2,3,5,6,7,8,9,10,11,12] [1,0,0,1,0,1,1,0,0,0,2,3,0] [(11,0,[0]),(11,3,[3]),(11,5,[5]),(11,6,[6]),(11,10,[10]),(12,10,[10]),(12,11,[11])] fun qE dU iC => ?_;have⟨A,m18,I,m20,m21,C,D,F⟩:=lK dU m9 m11 m12 m13 m14 m15 m8 b2;refine aZ (pf f 9)<|Rd (v:=(pt lp)) (by rfl) (by rfl) (wI _) (fun J k=>bF (x:=fun _=>(pt lp)) rfl rfl (by kernel_rfl) (C.aH.below k (by have:=C.lt; omega)) (i:=0) (by omega) (by omega) rfl) ?_;refine aZ (pt lp)<|aZ (pf lp 20)<|Rd (v := .map (some m.rb)) (by rfl) (by rfl) (wI _) (fun J k=>bF (x:=vg m) rfl rfl (by kernel_rfl) (A.aH.below k (by have:=A.lt; omega)) (i:=20) (by omega) (by omega) rfl) ?_;refine Rd (v:=aC v.node) (by rfl) (by rfl) (wI _) (fun J k=>bF (x:=bH v) rfl rfl (by kernel_rfl) (D.aH.below k (by have:=D.lt; omega)) (i:=9) (by omega) (by omega) rfl) ?_
 rcases Fx.qY m.T.x m.T.n v.node with ⟨d,P,M⟩|jg
 ·refine Rd (v := .tuple #[.agg (aA 54 (rv .i64 (m.R d))),.bool true]) (by rfl) (by rfl) (wI _) (fun J k=>Fx.Es (z := .agg (aA 54 (rv .i64 (fun _=>0)))) rfl rfl rfl (I.up k) Tryd.underlying88 Tryd.underlying22 (by kernel_rfl) P M rfl) ?_;refine aZ (.tuple #[.agg (aA 54 (rv .i64 (m.R d))),.bool true])<|aZ (.agg (aA 54 (rv .i64 (m.R d))))<|aZ aG<|Dc<|qC 54 (rv .i64 (fun _=>0)) fun l w3 ac U s4 z3 => ?_;have⟨mZ,lU,m32,W⟩:=mJ s4.old A C D F;have Bz:=jc ac F.size;have⟨M5,M6,UL,UM,UN,abM,abN⟩:=Me ac A.lt m18.lt I.lt m20.lt m21.lt C.lt D.lt;have IK:=U.lt;refine Ln ⟨s4.old,?_⟩;refine gG<|dZ U 0 fun w4 qw s5 z4 => ?_;have og:aQ w4 l 54 (rv .i64 (m.R d)) 82:=aR qw;have gM:=gK s5 U.ty;have⟨qG,nU,nD⟩:=Df gM mZ lU m32;have b5:=s5.below W W.size (by omega);refine Ln<|aZ aG<|bO<|Ws<|Wb<|ay<|av aG<|av aF<|av aF<|aD<|aL<|Ws ?_;have ex:m.idx v.node=d:=nQ h.t.inv.inj P M;have s:m.T.has v.node=true:=jy P M;refine jS [1,0,4,5,2,3,6,7,8,9] [4,0,4,0,0,0,0,4,0,0] [] fun Dl gH nZ => ?_;have⟨nE,tK,E,uw,X⟩:=qD gH qG nU nD og b5;refine aZ (pf f 10)<|Rs (pt lp) (aM tK.aH 0) ?_;refine aZ (pt lp)<|aZ (pt lp)<|Rs (au v.dst) (aM E.aH 10) ?_;refine Rp (au b) (fun _=>fQ)<|Rp (pf lp b) (fun _=>jm 6 1) ?_;by_cases q:(m.inn b)=true
  ·refine Rs aG (aM nE.aH b ((E9 (by omega)).trans (K_ Value.bool q))) ?_;refine aZ aF<|aZ aF<|bO<|aL<|Wk<|bT<|sN<|ay<|Lv (.agg (aA 54 (rv .i64 (m.R d)))) (fJ uw.aH 0)<|av (pt f)<|Lv (au v.o) (aM E.aH 0)<|av (pf f 10)<|Lv (au v.dst) (aM E.aH 10)<|av (pf f 11)<|Lv (au v.aT) (aM E.aH 11)<|dL (abJ (m.R d) v.o v.dst v.aT _ (by omega) (by omega)) _ rfl ?_;intro w5 hb1;have⟨sU,xC,ru,Y⟩:=mJ hb1 tK E uw X;refine av (.tuple #[.agg (aA 54 (rv .i64 ((cB (m.R d) v.o v.dst v.aT).1))),au ((cB (m.R d) v.o v.dst v.aT).2)])<|av (.agg (aA 54 (rv .i64 ((cB (m.R d) v.o v.dst v.aT).1))))<|av (au ((cB (m.R d) v.o v.dst v.aT).2))<|dZ ru 0 fun w6 uW s8 z5 => ?_;have oh:aQ w6 l 54 (rv .i64 ((cB (m.R d) v.o v.dst v.aT).1)) 82:=aR uW;have kr:=gK s8 ru.ty;have⟨sV,uX⟩:=F4 kr sU xC;have K:=s8.below Y Y.size (by omega);refine av (au ((cB (m.R d) v.o v.dst v.aT).2))<|aD<|Ws<|ay<|av (au ((cB (m.R d) v.o v.dst v.aT).2)) ?_;by_cases L:((cB (m.R d) v.o v.dst v.aT).2)=0
   ·refine Lv aF (jH L)<|aD<|aL<|Wk<|sN<|ay<|Lv (.func (.func 165) #[] #[(pt l),(pt y),(pt f)]) (Fx.mG (us := []) (vs := [(pt l),(pt y),(pt f)]) rfl rfl rfl)<|av (.func (.func 165) #[] #[(pt l),(pt y),(pt f)])<|av (au 0)<|aD<|Wr<|aJ (.tuple #[.func (.func 165) #[] #[(pt l),(pt y),(pt f)],au 0]) ?_;have G:rE m v=cB (m.R d) v.o v.dst v.aT:=(by unfold rE; rw[ex]);show Q9 w B lp m (BS m v.node (rE m v).1) _ _ _;rw[G];have j:jX m v=0:=(by unfold jX; rw[b_ (by rw[s]; decide),b_ (by rw[N,q]; decide),G]; exact L);exact⟨⟨_,165,#[(pt l),(pt y),(pt f)],by rw[j],rfl,fun _=>⟨rfl,⟨_,_,Tryd.func165,rfl,rfl⟩,fun w2 H=>(UJ m lp B w2 ((h.up K).up H) v Q s _ _ _ _ (oh.bY (Sb H) (t_ oh.lt)) (sV.bY (Sb H) (t_ sV.lt)) (uX.bY (Sb H) (t_ uX.lt))).mono fun _ _ O=>⟨O.1,O.2.1,O.2.2.mono fun _ s => .inl s⟩⟩⟩,K⟩
   refine Lv aG (mX L)<|aD<|aO<|ay<|av (au ((cB (m.R d) v.o v.dst v.aT).2))<|av (.nilFunc)<|av (au ((cB (m.R d) v.o v.dst v.aT).2))<|aD<|Wr<|sR<|aJ (.tuple #[.nilFunc,au ((cB (m.R d) v.o v.dst v.aT).2)]) ?_;have G:rE m v=cB (m.R d) v.o v.dst v.aT:=(by unfold rE; rw[ex]);have j:jX m v=(cB (m.R d) v.o v.dst v.aT).2:=(by unfold jX; rw[b_ (by rw[s]; decide),b_ (by rw[N,q]; decide),G]);exact⟨⟨.nilFunc,0,#[],by rw[j],rfl,fun u=>L_ (j.symm.trans u) (by first|decide|omega|assumption)⟩,K⟩
  rw[S_]at q;refine Rs aF (aM nE.aH b ((E9 (by omega)).trans (K_ Value.bool q))) ?_;refine aZ aG<|aZ aG<|bO<|aO<|ay<|av (.nilFunc)<|av (au 10)<|aD<|Wr<|bI<|sR<|aJ (.tuple #[.nilFunc,au 10]) ?_;have j:jX m v=10:=by unfold jX; rw[b_ (by rw[s]; decide)]; exact d_ (by rw[N]; exact q)
  exact⟨⟨.nilFunc,0,#[],by rw[j],rfl,fun u=>L_ (j.symm.trans u) (by first|decide|omega|assumption)⟩,X⟩
 refine Rd (v := .tuple #[.agg (aA 54 (rv .i64 (fun _=>0))),.bool false]) (by rfl) (by rfl) (wI _) (fun J k=>Fx.Er (z := .agg (aA 54 (rv .i64 (fun _=>0)))) rfl rfl rfl (I.up k) Tryd.underlying88 Tryd.underlying22 (by kernel_rfl) jg) ?_;refine aZ (.tuple #[.agg (aA 54 (rv .i64 (fun _=>0))),.bool false])<|aZ (.agg (aA 54 (rv .i64 (fun _=>0))))<|aZ aF<|Dc<|qC 54 (rv .i64 (fun _=>0)) fun g4 w7 ad uz s9 z6 => ?_;have Z:=bE s9.old F;have Q7:=jc ad F.size;have⟨abU,amH,abV,amI,abW,abX,abY⟩:=Me ad A.lt m18.lt I.lt m20.lt m21.lt C.lt D.lt;have Qi:=uz.lt;refine Ln ⟨s9.old,?_⟩;refine gG<|dZ uz 0 fun w8 sZ s10 z7 => ?_;have uY:aQ w8 g4 54 (rv .i64 (fun _=>0)) 82:=aR sZ;have b10:=s10.below Z Z.size (by omega);refine Ln<|aZ aF<|bO<|Ws<|Wb<|ay<|av aF<|av aG<|av aG<|aD<|aO<|ay<|av (.nilFunc)<|av (au 9)<|aD<|Wr<|bI<|sR<|aJ (.tuple #[.nilFunc,au 9]) ?_;have j:jX m v=9:=by unfold jX; exact d_ (yh jg)
 exact⟨⟨.nilFunc,0,#[],by rw[j],rfl,fun u=>L_ (j.symm.trans u) (by first|decide|omega|assumption)⟩,b10⟩
theorem XT(m:dM)(lp B:Nat)(w:World)(h:kQ w B lp m)(v:EvM)(I:bM v=true)(b:Nat)(F:b<6)(G:v.dst=(b:Int)+1) :
 Calls Tryd.prog 150 #[(pt lp),.agg (aA 14 (bH v))] w fun e w'=>Q9 w B lp m (Hf m v) (0) e w':=by
 have x:=h.c;have R:=h.t;have z:=h.p;have A:=h.r;have y:=h.g;have u:=h.a;have Q:=h.ne;have T:=h.c.lt;have X:=h.t.lt;have V:=h.p.lt;have W:=h.r.lt;have U:=h.g.lt;have S:=h.a.lt;refine Kent Tryd.func150 7 ?_;refine ay<|xg (pt lp) fun d w1 q k O z1 => ?_;have⟨J,K,L,M,N,n⟩:=rX O.old x z A y u (Below.refl w.heap.size w);have Y:=gL q;have⟨aa,ab,ac,ad,ae⟩:=Aw q x.lt z.lt A.lt y.lt u.lt;have al:=k.lt;refine pQ fun f D s l P z2 => ?_;have⟨C,o⟩:=eU P.old k n;have Z:=jc s n.size;have⟨ak,af,ag,ah,ai,aj⟩:=JO s J.lt K.lt L.lt M.lt N.lt k.lt;have am:=l.lt;refine av (.nilFunc)<|av (au 0)<|aD<|ay<|Lv (.func (.func 166) #[] #[(pt d),(pt f)]) (Fx.mG (us := []) (vs := [(pt d),(pt f)]) rfl rfl rfl)<|av (.func (.func 166) #[] #[(pt d),(pt f)])<|av (au 0)<|aD<|Wr<|aJ (.tuple #[.func (.func 166) #[] #[(pt d),(pt f)],au 0]) ?_;have E:(0:Int)=0:=rfl;exact⟨⟨_,166,#[(pt d),(pt f)],by rw[E],rfl,fun _=>⟨rfl,⟨_,_,Tryd.func166,rfl,rfl⟩,fun D i=>(UH m lp B D ((h.up o).up i) v I b F G _ _ (C.bY (Sb i) (t_ C.lt)) (l.bY (Sb i) (t_ l.lt))).mono fun _ _ j=>⟨j.1,j.2.1,j.2.2.mono fun _ H => .inl H⟩⟩⟩,o⟩
theorem UO(m:dM)(lp B:Nat)(w:World)(h:kQ w B lp m)(v:EvM)(F:bM v=true) :
 Calls Tryd.prog 151 #[(pt lp),.agg (aA 14 (bH v))] w fun e w'=>Q9 w B lp m (BU m v) (0) e w':=by
 have u:=h.c;have O:=h.t;have y:=h.p;have z:=h.r;have x:=h.g;have s:=h.a;have N:=h.ne;have Q:=h.c.lt;have U:=h.t.lt;have S:=h.p.lt;have T:=h.r.lt;have R:=h.g.lt;have P:=h.a.lt;refine Kent Tryd.func151 7 ?_;refine ay<|xg (pt lp) fun b w1 o j L z1 => ?_;have⟨G,H,I,J,K,l⟩:=rX L.old u y z x s (Below.refl w.heap.size w);have V:=gL o;have⟨X,Y,Z,aa,ab⟩:=Aw o u.lt y.lt z.lt x.lt s.lt;have ai:=j.lt;refine pQ fun d C q k M z2 => ?_;have⟨A,n⟩:=eU M.old j l;have W:=jc q l.size;have⟨ah,ac,ad,ae,af,ag⟩:=JO q G.lt H.lt I.lt J.lt K.lt j.lt;have aj:=k.lt;refine av (.nilFunc)<|av (au 0)<|aD<|ay<|Lv (.func (.func 167) #[] #[(pt b),(pt d)]) (Fx.mG (us := []) (vs := [(pt b),(pt d)]) rfl rfl rfl)<|av (.func (.func 167) #[] #[(pt b),(pt d)])<|av (au 0)<|aD<|Wr<|aJ (.tuple #[.func (.func 167) #[] #[(pt b),(pt d)],au 0]) ?_;have D:(0:Int)=0:=rfl;exact⟨⟨_,167,#[(pt b),(pt d)],by rw[D],rfl,fun _=>⟨rfl,⟨_,_,Tryd.func167,rfl,rfl⟩,fun C f=>(Qx m lp B C ((h.up n).up f) v F _ _ (A.bY (Sb f) (t_ A.lt)) (k.bY (Sb f) (t_ k.lt))).mono fun _ _ i=>⟨i.1,i.2.1,i.2.2.mono fun _ E => .inl E⟩⟩⟩,n⟩
section
open Rt
set_option maxRecDepth 10000
theorem amJ(o q:Nat)(w:World)(a:1<=o/\o<=6)(c:1<=q/\q<1099511627776) :
 Calls Tryd.prog 152 #[au (o:Int),aC (q:Int)] w fun e w'=>e = .returned (aC (1099511627776*(o:Int)+(q:Int)))/\w'=w:=by
 refine Kent Tryd.func152 24 ?_;refine ay<|av (aC 0)<|aD<|Ws<|ay<|av (au o)<|Lv aF Gn<|av aF<|av (au o)<|Lv aF wZ<|av aF<|av aF<|av (aC q)<|Lv aF Gn<|av aF<|av aF<|av (aC q)<|Lv aF Gp<|av aF<|aD<|aL<|Wk<|sN<|ay<|av (au o)<|Lv (aC o) (dA rfl rfl (by kernel_rfl) Tryd.underlying22 (jN (by omega) rfl))<|Lv (aC (1099511627776*(o:Int))) (Fx.JK (b:=40) rfl rfl rfl (by decide) (jN (by omega) (by omega)))<|av (aC q)<|Lv (aC (1099511627776*(o:Int)+(q:Int))) (Fx.aaG rfl rfl rfl (by omega) (by omega))<|av (aC (1099511627776*(o:Int)+(q:Int)))<|aD<|Wr<|aJ (aC (1099511627776*(o:Int)+(q:Int))) ?_;exact⟨rfl,rfl⟩
end
end Go.Proofs.YtahbiajdgealnaaDoor
namespace Go.Proofs.YtahbiajdgealnaaDoor
open Go.RowKit Go
set_option linter.unusedVariables false
namespace Rt
theorem Ca : ∀(n m:Nat) (f:Nat->Nat),(∀ i,i<m->f i<n)->(∀ i j,i<m->j<m->f i=f j->i=j)->m<=n
 | 0,m,f,h1,_=>by
   rcases Nat.eq_zero_or_pos m with h|h
   ·omega
   ·have:=h1 0 h; omega
 | n+1,m,f,h1,h2=>by
   rcases Nat.eq_zero_or_pos m with h|h
   ·omega
   by_cases d : ∃ a,a<m/\f a=n
   ·obtain⟨a,b,e⟩:=d;have:=Ca n (m-1) (fun j=>f (if j=a then m-1 else j)) (fun j o=>by
     have g:=h1 (if j=a then m-1 else j) (by split <;> omega)
     have k:f (if j=a then m-1 else j)≠n:=fun c=>by
      have:=h2 _ a (by split <;> omega) b (c.trans e.symm)
      split at this <;> omega
     show f _<n;omega) (fun i j l p c=>by
     have:=h2 _ _ (by split <;> omega) (by split <;> omega) c
     split at this <;> split at this <;> omega)
    omega
   ·have:=Ca n m f (fun i b=>by
     have:=h1 i b;have:f i≠n:=fun e=>d ⟨i,b,e⟩;omega) h2
    omega
section
variable {T U:dK} {id pa k:Int} {i:Nat}
theorem dK.D9(h:T.err id pa=0):T.add id pa=T.put id pa:=d_ h
theorem dK.abZ(h : ¬ T.err id pa=0):T.add id pa=T:=b_ h
theorem dK.zC(hi:i<T.n):T.has (T.x i)=true:=jy hi rfl
theorem dK.KV(h:T.ok)(hi:i<T.n):T.par (T.x i)=T.p i:=DN h.inj hi rfl
theorem dK.step(h:T.ok)(a:T.has k=true):T.path k=k::T.path (T.par k):=by
 have b:jf T.x T.p T.n 3 (T.par k):=h.stop k a;show(if dO T.x T.n k=true then k::ji T.x T.p T.n 3 (T.par k)else [])=_;rw[d_ (show dO T.x T.n k=true from a),<- (IC b (show 3<=4 by omega)).1]; rfl
theorem dK.acd(h:T.ok)(hi:i<T.n):T.path (T.x i)=T.x i::T.path (T.p i):=by rw[dK.step h (dK.zC hi),dK.KV h hi]
theorem dK.yI:(T.path k).length<=4:=yj
theorem dK.ace(h:T.ok):T.path 0 = []:=Bo.aej h 4
theorem uE.zero(T:dK):uE dK.zero T:=⟨fun _ h=>(nomatch h),fun _ h=>(nomatch h)⟩
theorem uE.path(b:T.ok)(a:U.ok)(h:uE U T) : ∀(d:Nat) (k:Int),(k=0\/U.has k=true)->ji U.x U.p U.n d k=ji T.x T.p T.n d k
 | 0,_,_=>rfl
 | d+1,k,hk=>by
   rcases hk with rfl|hk
   ·rw[kE (Bo.WK a),kE (Bo.WK b)]
   ·unfold ji;have c:dO U.x U.n k=true:=hk;have e:dO T.x T.n k=true:=h.has k hk;have f:gZ U.x U.p U.n k=gZ T.x T.p T.n k:=h.par k hk;rw[d_ c,d_ e,<- f,uE.path b a h d];exact Bo.up a hk
theorem uE.lt(s:U.ok)(h:uE U T)(hi:i<T.n)(m:U.has (T.x i)=false):U.n<T.n:=by
 have p : ∀ j,∃ q,j<U.n->q<T.n/\T.x q=U.x j:=fun j=>by
  by_cases g:j<U.n
  ·obtain⟨q,c,d⟩:=gQ (h.has _ (dK.zC g));exact⟨q,fun _=>⟨c,d⟩⟩
  ·exact⟨0,fun h=>L_ h g⟩
 obtain⟨f,k⟩:=Classical.axiomOfChoice p;have:=Ca T.n (U.n+1) (fun j=>if j=U.n then i else f j) (fun j g=>by
  show(if j=U.n then i else f j)<T.n;split
  ·exact hi
  ·exact(k j (by omega)).1) (fun a b t u e=>by
  have o : ∀ j,j<U.n->f j≠i:=fun j g e=>by
   have c:=(k j g).2;rw[e]at c;rw[c,dK.zC g]at m; cases m
  have e:(if a=U.n then i else f a)=(if b=U.n then i else f b):=e;by_cases c:a=U.n
  ·by_cases d:b=U.n
   ·omega
   ·rw[d_ c,b_ d]at e; exact L_ e.symm (o b (by omega))
  ·by_cases d:b=U.n
   ·rw[b_ c,d_ d]at e; exact L_ e (o a (by omega))
   ·rw[b_ c,b_ d]at e;have l:=(k a (by omega)).2;have r:=(k b (by omega)).2;rw[e]at l;exact s.inj a b (by omega) (by omega) (l.symm.trans r))
 omega
theorem uE.add(d:T.ok)(g:U.ok)(h:uE U T)(hi:i<T.n)(j:T.p i=0\/U.has (T.p i)=true) :
 uE (U.add (T.x i) (T.p i)) T/\(U.add (T.x i) (T.p i)).has (T.x i)=true /\ ∀ k,U.has k=true->(U.add (T.x i) (T.p i)).has k=true:=by
 cases hh:U.has (T.x i)with
 | true =>
   have e:U.add (T.x i) (T.p i)=U:=by
    refine dK.abZ fun m => ?_;have:=(Eu m).2.1;rw[show dO U.x U.n (T.x i)=U.has (T.x i)from rfl,hh]at this; cases this
   rw[e]; exact⟨h,hh,fun _ h=>h⟩
 | false =>
   have s:=(d.pos i hi).1;have q:=uE.lt g h hi hh;have r:=d.small;have l:U.err (T.x i) (T.p i)=0:=by
    unfold dK.err qF;rw[b_ (by omega),b_ (by rw[show dO U.x U.n (T.x i)=U.has (T.x i)from rfl,hh]; decide),b_,b_]
    ·rintro (b|b)
     ·omega
     ·have f:=uE.path d g h 4 (T.p i) j;rw[f]at b;have c:=dK.acd d hi;have o:(T.path (T.x i)).length<=4:=dK.yI;rw[c,List.length_cons]at o;have b:4<=(T.path (T.p i)).length:=b;omega
    ·rintro ⟨b,f⟩
     rcases j with c|c
     ·exact b c
     ·rw[show dO U.x U.n (T.p i)=U.has (T.p i)from rfl,c]at f; cases f
   rw[dK.D9 l];refine⟨⟨fun k a => ?_,fun k a => ?_⟩,?_,fun k a => ?_⟩
   ·rw[dK.jo,Bool.or_eq_true]at a
    rcases a with a|a
    ·exact h.has k a
    ·rw[<- h_ a]; exact dK.zC hi
   ·rw[dK.jo,Bool.or_eq_true]at a;rw[dK.sK];split
    ·rename_i e; subst e; exact(dK.KV d hi).symm
    ·rename_i e
     rcases a with a|a
     ·exact h.par k a
     ·exact L_ (h_ a) e
   ·rw[dK.jo,f_ rfl,Bool.or_true]
   ·rw[dK.jo,a,Bool.true_or]
structure KW(T U:dK)(r k:Nat):Prop where
 sub:uE U T
 fst : ∀ j,j<r->j<T.n->U.has (T.x j)=true
 nxt:k<=r->r<T.n->U.has (T.x r)=true
theorem KW.start(T:dK) : ∀ {r:Nat},r=0->KW T dK.zero r T.n:=fun e=>⟨uE.zero T,fun j h=>by omega,fun a b=>by omega⟩
theorem KW.add{r k:Nat}(f:T.ok)(g:U.ok)(h:KW T U r k)(m:0<k)(o:k<=T.n)(l:T.p (k-1)=0\/U.has (T.p (k-1))=true):KW T (U.add (T.x (k-1)) (T.p (k-1))) r (k-1):=by
 obtain⟨c,d,b⟩:=uE.add f g h.sub (show k-1<T.n by omega) l;refine⟨c,fun j i a=>b _ (h.fst j i a),fun q a => ?_⟩;by_cases e:k<=r
 ·exact b _ (h.nxt e a)
 obtain rfl:r=k-1:=by omega
 exact d
theorem KW.skip{r k:Nat}(b:T.ok)(h:KW T U r k)(f:0<k)(g:k<=T.n)(d : ¬ T.p (k-1)=0)(a:U.has (T.p (k-1))=false):KW T U r (k-1):=by
 refine⟨h.sub,h.fst,fun j c => ?_⟩;by_cases e:k<=r
 ·exact h.nxt e c
 obtain rfl:r=k-1:=by omega
 rcases b.par (k-1) (by omega)with h1|⟨i,hi,h1⟩
 ·exact L_ h1 d
 rw[<- h1,h.fst i hi (by omega)]at a; cases a
theorem KW.next{r:Nat}(h:KW T U r 0):KW T U (r+1) T.n :=
 ⟨h.sub,fun j d a=>by
  by_cases e:j=r
  ·subst e; exact h.nxt (J_ _) a
  ·exact h.fst j (by omega) a,fun b c=>by omega⟩
theorem KW.all{r k:Nat}(h:KW T U r k)(hr:T.n<=r) : ∀ k,T.has k=true->U.has k=true:=fun k b=>by
 obtain⟨j,a,rfl⟩:=gQ b;exact h.fst j (by omega) a
theorem KW.path{r k:Nat}(h:KW T U r k)(hr:T.n<=r)(q:Int):U.path q=T.path q:=h.sub.same (h.all hr) q
theorem KW.list{r k:Nat}(h:KW T U r k)(hr:T.n<=r){l m:List Int}(a:l.Pairwise (· < ·) /\ ∀ k,k∈l<->T.has k=true)(b:m.Pairwise (· < ·) /\ ∀ k,k∈m<->U.has k=true):m=l :=
 um b.1 a.1 fun k=>(b.2 k).trans (Iff.trans ⟨h.sub.has k,h.all hr k⟩ (a.2 k).symm)
end
def Ra(l:List Int)(v:Int)(n:Nat)(b:Bool):Prop:=b=true <-> ∃ j,j<n/\j<l.length/\l.getD j 0=v
theorem Ra.zero(l:List Int)(v:Int):Ra l v 0 false:=⟨fun h=>(nomatch h),fun⟨j,h,_⟩=>L_ h (u_ _)⟩
theorem Ra.keep{l:List Int}{v:Int}{n:Nat}(h:Ra l v n true):Ra l v (n+1) true:=⟨fun _=>by obtain⟨j,b,a⟩:=h.1 rfl; exact⟨j,by omega,a⟩,fun _=>rfl⟩
theorem Ra.yes{l:List Int}{v:Int}{n:Nat}(a:n<l.length)(e:l.getD n 0=v):Ra l v (n+1) true:=⟨fun _=>⟨n,by omega,a,e⟩,fun _=>rfl⟩
theorem Ra.no{l:List Int}{v:Int}{n:Nat}(h:Ra l v n false)(e : ¬ l.getD n 0=v):Ra l v (n+1) false:=⟨fun h=>(nomatch h),fun⟨j,d,c,a⟩=>by
 by_cases b:j=n
 ·subst b; exact L_ a e
 ·exact h.2 ⟨j,by omega,c,a⟩⟩
theorem Ra.mem{l:List Int}{v:Int}{n:Nat}{b:Bool}(h:Ra l v n b)(i:l.length<=n):b=true<->v∈l:=by
 constructor
 ·intro f;obtain⟨j,_,c,d⟩:=h.1 f;exact xw c d
 intro g;obtain⟨j,a,e⟩:=List.getElem_of_mem g;refine h.2 ⟨j,by omega,a,?_⟩;rw[r_,o_ a]; exact e
end Rt
end Go.Proofs.YtahbiajdgealnaaDoor
namespace Go.Proofs.YtahbiajdgealnaaDoor
open Go.RowKit Go
set_option linter.unusedVariables false
namespace Rt
def XU(x:Nat->Int)(v:Int)(j aq:Nat):Prop:=(aq=0 /\ ∀ q,q<j->x q≠v)\/(0<aq/\aq<=j/\x (aq-1)=v)
section
variable {x:Nat->Int} {v:Int} {j aq:Nat}
theorem XU.zero:XU x v 0 0 := .inl ⟨rfl,fun _ h=>L_ h (u_ _)⟩
theorem XU.yes(e:x j=v):XU x v (j+1) (j+1) := .inr ⟨by omega,by omega,e⟩
theorem XU.no(h:XU x v j aq)(e : ¬ x j=v):XU x v (j+1) aq:=by
 rcases h with ⟨a,b⟩|⟨a,b,h3⟩
 ·refine .inl ⟨a,fun q d => ?_⟩;by_cases c:q=j
  ·subst c; exact e
  exact b q (by omega)
 exact .inr ⟨a,by omega,h3⟩
end
section
variable {x p:Nat->Int} {n:Nat}
theorem qO : ∀ {d:Nat} {v:Int},jf x p n d v -> ∀ k,k<(ji x p n d v).length->dO x n ((ji x p n d v).getD k 0)=true /\
 (k+1<(ji x p n d v).length->(ji x p n d v).getD (k+1) 0=gZ x p n ((ji x p n d v).getD k 0))/\(k+1=(ji x p n d v).length->dO x n (gZ x p n ((ji x p n d v).getD k 0))=false)
 | 0,v,h,k,hk=>L_ hk (u_ _)
 | d+1,v,h,k,hk=>by
   cases hv:dO x n v with
   | false=>rw[kE hv]at hk; exact L_ hk (u_ _)
   | true =>
     have e:ji x p n (d+1) v=v::ji x p n d (gZ x p n v):=(by show(if _ then _ else _)=_; rw[d_ hv]);have c:jf x p n d (gZ x p n v):=h hv;have i := @qO d (gZ x p n v) c;have g:0<(ji x p n d (gZ x p n v)).length->(ji x p n d (gZ x p n v)).getD 0 0=gZ x p n v:=fun a=>by
      cases d with
      | zero=>exact L_ a (u_ _)
      | succ d =>
        unfold ji at a ⊢;split at a
        ·rename_i hq; rw[d_ hq]; rfl
        ·exact L_ a (u_ _)
     rw[e]at hk ⊢;rw[List.length_cons]at hk ⊢
     cases k with
     | zero =>
       rw[List.getD_cons_zero,List.getD_cons_succ];refine⟨hv,fun b=>g (by omega),fun b => ?_⟩
       cases hq:dO x n (gZ x p n v)with
       | false=>rfl
       | true =>
         obtain⟨j,_,_,f⟩:=Gs c hq;rw[f,List.length_cons]at b; omega
     | succ k =>
       rw[List.getD_cons_succ,List.getD_cons_succ];have:=i k (by omega);exact⟨this.1,fun b=>this.2.1 (by omega),fun b=>this.2.2 (by omega)⟩
end
section
variable {T:dK} {id pa k v:Int} {i j aq:Nat} {pl:List Int}
theorem XU.get(h:XU T.x v T.n aq)(d:T.has v=true):0<aq/\aq-1<T.n/\T.x (aq-1)=v:=by
 rcases h with ⟨a,b⟩|⟨a,b,h3⟩
 ·obtain⟨q,c,e⟩:=gQ d;exact L_ e (b q c)
 exact⟨a,by omega,h3⟩
theorem dK.M7(h:T.ok)(e:pl=T.path v){q:Nat}(a:q<pl.length):T.has (pl.getD q 0)=true:=by
 subst e; exact(qO (h.stop v) q a).1
theorem dK.XV(h:T.ok)(e:pl=T.path v){q:Nat}(b:q+1<pl.length)(ha:aq-1<T.n)(hx:T.x (aq-1)=pl.getD q 0):T.p (aq-1)=pl.getD (q+1) 0:=by
 subst e;have:=(qO (h.stop v) q (Nat.lt_of_succ_lt b)).2.1 b;have a:=dK.KV h ha;rw[hx]at a;exact a.symm.trans this.symm
theorem dK.XW(h:T.ok)(e:pl=T.path v){q:Nat}(c:q+1=pl.length)(ha:aq-1<T.n)(hx:T.x (aq-1)=pl.getD q 0):T.p (aq-1)=0:=by
 subst e;have a:=(qO (h.stop v) q (Nat.lt_of_succ_le (Nat.le_of_eq c))).2.2 c;have b:=dK.KV h ha;rw[hx]at b;rw[show gZ T.x T.p T.n ((ji T.x T.p T.n 4 v).getD q 0)=T.p (aq-1)from b]at a
 rcases h.par _ ha with h4|⟨i,hi,h4⟩
 ·exact h4
 rw[<- h4,jy (by omega) rfl]at a; cases a
theorem dK.acf(d : ¬ id=0)(e:pa=0\/T.has pa=true):T.err id pa=if T.has id=true then 14 else if 32<=T.n\/4<=(T.path pa).length then 6 else 0:=by
 show qF T.x T.p T.n id pa=_;unfold qF;rw[b_ d];have c : ¬ (¬ pa=0/\dO T.x T.n pa=false):=by
  rintro ⟨b,a⟩
  rcases e with h3|h3
  ·exact b h3
  ·rw[show dO T.x T.n pa=T.has pa from rfl,h3]at a; cases a
 rw[b_ c]; rfl
end
def Zm(v1 v2:Value):Prop := ∀ g,v1.ownBlock=some g->v2.ownBlock≠some g
section
variable {w w':World} {v v2:Value} {B s n g m c:Nat} {E:TypeId} {x:Nat->Value}
theorem Zm.symm(h:Zm v v2):Zm v2 v:=fun g a b=>h g b a
theorem Zm.nil:Zm (.slice none 0 0) v:=fun g h=>nomatch h
theorem Zm.app(h:Zm v v2)(b:Fx.Own w B E s v n x)(d:v2.ownBlock=some g\/g=w.heap.size):Zm v (bK g m c):=fun q a e=>by
 have e:some g=some q:=e;obtain rfl:=B_ e
 rcases d with h1|h1
 ·exact h _ a h1
 ·have:=(b.ge a).2; omega
end
end Rt
end Go.Proofs.YtahbiajdgealnaaDoor
namespace Go.Proofs.YtahbiajdgealnaaDoor
open Go.RowKit Go
set_option linter.unusedVariables false
namespace Rt
def FW(n:Nat):Nat->List Nat
 | 0 => []
 | j+1=>FW n j ++ [n-1-j]
theorem OG(n:Nat) : ∀ j,(FW n j).length=j
 | 0=>rfl
 | j+1=>by unfold FW; rw[D_,OG n j]; rfl
def LQ(T:dK)(l:List Int)(a:List Nat):dK:=a.foldl (fun U x=>U.add (l.getD x 0) (T.par (l.getD x 0))) dK.zero
theorem Fh(T:dK)(l:List Int)(a:List Nat)(x:Nat):LQ T l (a ++ [x])=(LQ T l a).add (l.getD x 0) (T.par (l.getD x 0)):=by unfold LQ; rw[List.foldl_append]; rfl
def kU(l ll:List Int)(U:dK):Nat->dK
 | 0=>U
 | i+1=>if ll.getD i 0∈l then kU l ll U i else(kU l ll U i).add (ll.getD i 0) 0
section
variable {T U:dK} {l ll:List Int} {id pa k v:Int} {i j n:Nat}
theorem has_lt(t:U.ok)(h : ∀ k,U.has k=true->T.has k=true)(hx:T.has v=true)(o:U.has v=false):U.n<T.n:=by
 obtain⟨i,u,rfl⟩:=gQ hx;have r : ∀ j,∃ q,j<U.n->q<T.n/\T.x q=U.x j:=fun j=>by
  by_cases g:j<U.n
  ·obtain⟨q,c,d⟩:=gQ (h _ (dK.zC g));exact⟨q,fun _=>⟨c,d⟩⟩
  ·exact⟨0,fun h=>L_ h g⟩
 obtain⟨f,l⟩:=Classical.axiomOfChoice r;have:=Ca T.n (U.n+1) (fun j=>if j=U.n then i else f j) (fun j g=>by
  show(if j=U.n then i else f j)<T.n;split
  ·exact u
  ·exact(l j (by omega)).1) (fun a b w y e=>by
  have p : ∀ j,j<U.n->f j≠i:=fun j g e=>by
   have c:=(l j g).2;rw[e]at c;rw[c,dK.zC g]at o; cases o
  have e:(if a=U.n then i else f a)=(if b=U.n then i else f b):=e;by_cases c:a=U.n
  ·by_cases d:b=U.n
   ·omega
   ·rw[d_ c,b_ d]at e; exact L_ e.symm (p b (by omega))
  ·by_cases d:b=U.n
   ·rw[b_ c,d_ d]at e; exact L_ e (p a (by omega))
   ·rw[b_ c,b_ d]at e;have m:=(l a (by omega)).2;have s:=(l b (by omega)).2;rw[e]at m;exact t.inj a b (by omega) (by omega) (m.symm.trans s))
 omega
theorem UQ(p:U.ok)(h : ∀ k,U.has k=true->T.has k=true):U.n<=T.n:=by
 have l : ∀ j,∃ q,j<U.n->q<T.n/\T.x q=U.x j:=fun j=>by
  by_cases i:j<U.n
  ·obtain⟨q,m,o⟩:=gQ (h _ (dK.zC i));exact⟨q,fun _=>⟨m,o⟩⟩
  ·exact⟨0,fun h=>L_ h i⟩
 obtain⟨f,c⟩:=Classical.axiomOfChoice l;exact Ca T.n U.n f (fun q r=>(c q r).1) fun a b d g e=>p.inj a b d g (by rw[<- (c a d).2,<- (c b g).2,e])
structure BwI(T U:dK)(l:List Int)(j:Nat):Prop where
 ok:U.ok
 sub:uE U T
 has : ∀ x,l.length-j<=x->x<l.length->U.has (l.getD x 0)=true
 only : ∀ k,U.has k=true->k∈l
theorem UR(a:T.ok)(hi:i<T.n):0<=T.x i/\T.x i<=18446744073709551615:=by have:=a.pos i hi; omega
theorem XY(U:dK)(id pa k:Int)(h:(U.add id pa).has k=true):U.has k=true\/k=id:=by
 unfold dK.add at h;split at h
 ·rw[dK.jo,Bool.or_eq_true]at h
  rcases h with h|h
  ·exact .inl h
  exact .inr (h_ h).symm
 exact .inl h
theorem UU(a:T.ok)(e:l=T.path pa) : ∀ j,j<=l.length->BwI T (LQ T l (FW l.length j)) l j
 | 0,_=>⟨Bo.zero _ _,uE.zero T,fun x g c=>by omega,fun k h=>nomatch h⟩
 | j+1,hj=>by
   have d:=UU a e j (by omega);have m:l.length-1-j<l.length:=(by omega);have t:T.has (l.getD (l.length-1-j) 0)=true:=dK.M7 a e m;obtain⟨i,f,b⟩:=gQ t;have n:T.par (l.getD (l.length-1-j) 0)=T.p i:=(by rw[<- b]; exact dK.KV a f);show BwI T (LQ T l (FW l.length j ++ [l.length-1-j])) l (j+1);rw[Fh,n,<- b];have s:T.p i=0\/(LQ T l (FW l.length j)).has (T.p i)=true:=by
    by_cases r:l.length-1-j+1=l.length
    ·exact .inl (dK.XW (aq:=i+1) a e r f b)
    ·have c:=dK.XV (aq:=i+1) a e (show l.length-1-j+1<l.length by omega) f b;have c:T.p i=l.getD (l.length-1-j+1) 0:=c;right;rw[c];exact d.has _ (by omega) (by omega)
   obtain⟨u,v,w⟩:=uE.add a d.ok d.sub f s;refine⟨dK.II d.ok (UR a f),u,fun x g c => ?_,fun k q => ?_⟩
   ·by_cases o:x=l.length-1-j
    ·rw[o,<- b]; exact v
    ·exact w _ (d.has x (by omega) c)
   ·rcases XY _ _ _ _ q with g|rfl
    ·exact d.only k g
    ·rw[b];rw[r_,o_ m]; exact P_ m
structure RtI(T U:dK)(l ll:List Int)(i:Nat):Prop where
 ok:U.ok
 sub : ∀ k,U.has k=true->T.has k=true
 par : ∀ k,k∈l->U.has k=true/\U.par k=T.par k
 has : ∀ q,q<i->q<ll.length->U.has (ll.getD q 0)=true
 only : ∀ k,U.has k=true->k∈l \/ ∃ q,q<i/\q<ll.length/\ll.getD q 0=k
theorem acg(d:ll.Pairwise (· < ·)){a b:Nat}(ha:a<ll.length)(c:b<ll.length)(e:ll.getD a 0=ll.getD b 0):a=b:=by
 rw[r_,r_,o_ ha,o_ c]at e;have e:ll[a]=ll[b]:=e
 rcases Nat.lt_trichotomy a b with h1|h1|h1
 ·have:=List.pairwise_iff_getElem.1 d a b ha c h1; omega
 ·exact h1
 have:=List.pairwise_iff_getElem.1 d b a c ha h1; omega
theorem UW(d:T.ok)(g:ll.Pairwise (· < ·) /\ ∀ k,k∈ll<->T.has k=true)(n:RtI T U l ll 0) : ∀ i,i<=ll.length->RtI T (kU l ll U i) l ll i
 | 0,_=>n
 | i+1,hi=>by
   have b:=UW d g n i (by omega);unfold kU;have s:ll.getD i 0∈ll:=(by rw[r_,o_ (by omega)]; exact P_ _);have f:=(g.2 _).1 s;by_cases c:ll.getD i 0∈l
   ·rw[d_ c];refine⟨b.ok,b.sub,b.par,fun q v h => ?_,fun k a => ?_⟩
    ·by_cases e:q=i
     ·rw[e]; exact(b.par _ c).1
     ·exact b.has q (by omega) h
    ·rcases b.only k a with h1|⟨q,h1,h2,h3⟩
     ·exact .inl h1
     ·exact .inr ⟨q,by omega,h2,h3⟩
   ·rw[b_ c];obtain⟨z,r,m⟩:=gQ f;have o:=UR d r;rw[m]at o;have u:=d.pos z r;rw[m]at u;have p:(kU l ll U i).has (ll.getD i 0)=false:=by
     cases hh:(kU l ll U i).has (ll.getD i 0)with
     | false=>rfl
     | true =>
       rcases b.only _ hh with h1|⟨q,h1,h2,h3⟩
       ·exact L_ h1 c
       ·have:=acg g.1 h2 (by omega) h3; omega
    have w:=has_lt b.ok b.sub f p;have x:=d.small;have j:(kU l ll U i).err (ll.getD i 0) 0=0:=by
     rw[dK.acf (by omega) (.inl rfl),b_ (by rw[p]; decide),b_];rw[dK.ace b.ok];rintro (h1|h1)
     ·omega
     ·simp at h1
    rw[dK.D9 j];have t : ∀ k,k∈l -> ¬ ll.getD i 0=k:=fun k a e=>c (e ▸ a);refine⟨by have:=dK.II (pa:=0) b.ok o; rwa [dK.D9 j]at this,fun k a => ?_,fun k a => ?_,fun q v h => ?_,fun k a => ?_⟩
    ·rw[dK.jo,Bool.or_eq_true]at a
     rcases a with a|a
     ·exact b.sub k a
     ·rw[<- h_ a]; exact f
    ·rw[dK.jo,dK.sK,b_ (t k a),(b.par k a).1,Bool.true_or];exact⟨rfl,(b.par k a).2⟩
    ·rw[dK.jo];by_cases e:q=i
     ·rw[e,f_ rfl,Bool.or_true]
     ·rw[b.has q (by omega) h,Bool.true_or]
    ·rw[dK.jo,Bool.or_eq_true]at a
     rcases a with a|a
     ·rcases b.only k a with h1|⟨q,h1,h2,h3⟩
      ·exact .inl h1
      ·exact .inr ⟨q,by omega,h2,h3⟩
     ·exact .inr ⟨i,by omega,by omega,h_ a⟩
theorem Hg(c : ∀ k,U.has k=T.has k) : ∀(d:Nat) (k:Int),(∀ q,q∈ji T.x T.p T.n d k->U.par q=T.par q)->ji U.x U.p U.n d k=ji T.x T.p T.n d k
 | 0,_,_=>rfl
 | d+1,k,h=>by
   have a:dO U.x U.n k=dO T.x T.n k:=c k
   cases hk:dO T.x T.n k with
   | false=>rw[kE hk,kE (a.trans hk)]
   | true =>
     have b:ji T.x T.p T.n (d+1) k=k::ji T.x T.p T.n d (gZ T.x T.p T.n k):=(by show(if _ then _ else _)=_; rw[d_ hk]);have e:ji U.x U.p U.n (d+1) k=k::ji U.x U.p U.n d (gZ U.x U.p U.n k):=(by show(if _ then _ else _)=_; rw[d_ (a.trans hk)]);rw[b]at h;have f:gZ U.x U.p U.n k=gZ T.x T.p T.n k:=h k (List.mem_cons_self ..);rw[b,e,f,Hg c d _ fun q g=>h q (List.mem_cons_of_mem _ g)]
theorem XZ(i:T.ok)(e:l=T.path pa)(m:ll.Pairwise (· < ·) /\ ∀ k,k∈ll<->T.has k=true):(kU l ll (LQ T l (FW l.length l.length)) ll.length).err id pa=T.err id pa:=by
 have d:=UU i e l.length (z_ _);have t : ∀ k,k∈l -> ∃ x,x<l.length/\l.getD x 0=k:=fun k a=>by
  obtain⟨x,h,r⟩:=List.getElem_of_mem a;exact⟨x,h,by rw[r_,o_ h]; exact r⟩
 have s:RtI T (LQ T l (FW l.length l.length)) l ll 0:=⟨d.ok,d.sub.has,fun k a=>by
  obtain⟨x,h,rfl⟩:=t k a;have:=d.has x (by omega) h;exact⟨this,d.sub.par _ this⟩,fun q b=>by omega,fun k a => .inl (d.only k a)⟩
 have c:=UW i m s ll.length (z_ _);generalize kU l ll (LQ T l (FW l.length l.length)) ll.length=V at c;have g : ∀ k,V.has k=T.has k:=fun k=>by
  cases f:T.has k with
  | false =>
    cases j:V.has k with
    | false=>rfl
    | true=>rw[c.sub k j]at f; cases f
  | true =>
    obtain⟨q,b,o⟩:=List.getElem_of_mem ((m.2 k).2 f);have:=c.has q b b;rw[r_,o_ b]at this;rw[<- o]; exact this
 have u:V.n=T.n:=by
  have f:=UQ c.ok c.sub;have j:=UQ i (fun k a=>by rw[g]; exact a : ∀ k,T.has k=true->V.has k=true);omega
 have v:V.path pa=T.path pa:=Hg g 4 pa fun q b=>(c.par q (by rw[e]; exact b)).2;show qF V.x V.p V.n id pa=qF T.x T.p T.n id pa;unfold qF;have w:ji V.x V.p V.n 4 pa=ji T.x T.p T.n 4 pa:=v;rw[show dO V.x V.n id=dO T.x T.n id from g id,show dO V.x V.n pa=dO T.x T.n pa from g pa,w,u]
end
end Rt
end Go.Proofs.YtahbiajdgealnaaDoor
namespace Go.Proofs.YtahbiajdgealnaaDoor
open Go.RowKit Go
set_option linter.unusedVariables false
namespace Fx
abbrev xO:=Exit->(Nat->Value)->List Deferred->World->Prop
def UY(n:Nat)(Q:xO):Exit->Act->World->Prop:=fun e a w => ∃ f,Ag a n f/\Q e f a.defers w
def W0(ro:Option Nat)(m:Nat)(P:Program)(n:Nat)(c:Code)(Q:xO)(f:Nat->Value)(ds:List Deferred)(w:World):Prop := ∀ a,Ag a n f->a.defers=ds->c.wpIn (FR ro) m P (UY n Q) a w
def UZ(ro:Option Nat)(m:Nat)(P:Program)(n:Nat)(y:Code)(Q:xO):xO:=fun e f ds w=>match e with | .normal=>W0 ro m P n y Q f ds w|e=>Q e f ds w
def Bd(id:Nat)(Q:xO):xO:=fun e f ds w=>match e with | .exit id'=>if id'=id then Q .normal f ds w else Q (.exit id') f ds w|e=>Q e f ds w
def M8(I:(Nat->Value)->World->Prop)(b:(Nat->Value)->World->Nat)(k:Nat)(ds:List Deferred)(Q:xO):xO:=fun e f a w=>match e with | .normal=>a=ds/\I f w/\b f w<k|e=>Q e f a w
section
variable {ro:Option Nat} {m:Nat} {ds:List Deferred} {P:Program} {n:Nat} {Q:xO} {f:Nat->Value} {w:World}
theorem W0.seq{x y:Code}(h:W0 ro m P n x (UZ ro m P n y Q) f ds w):W0 ro m P n (.seq x y) Q f ds w:=fun a i j =>
 wpIn_seq (wpIn_mono (h a i j) fun e d w' b=>by
  obtain⟨g,c,b⟩:=b
  cases e <;> first|exact b d c rfl|exact⟨g,c,b⟩)
theorem W0.skip(h:Q .normal f ds w):W0 ro m P n .skip Q f ds w:=fun _ a b=>wpIn_skip ⟨f,a,b ▸ h⟩
theorem W0.ret(h:Q .ret f ds w):W0 ro m P n .ret Q f ds w:=fun _ a b=>wpIn_ret ⟨f,a,b ▸ h⟩
theorem W0.exit{id:Nat}(h:Q (.exit id) f ds w):W0 ro m P n (.exit id) Q f ds w:=fun _ a b=>wpIn_exit ⟨f,a,b ▸ h⟩
theorem W0.block{id:Nat}{c:Code}(h:W0 ro m P n c (Bd id Q) f ds w):W0 ro m P n (.block id c) Q f ds w:=fun a i j =>
 wpIn_block (wpIn_mono (h a i j) fun e k w' b=>by
  obtain⟨d,g,b⟩:=b
  cases e <;> first
   | exact⟨d,g,b⟩
   | (simp only[Bd]at b; simp only[Exit.inBlock]; split at b <;> rename_i hid <;> simp only[hid,if_true,if_false] <;> exact⟨d,g,b⟩))
theorem W0.cond{c:Operand}{x y:Code}{b:Bool}(h:ev f c = .bool b)(j:b=true->W0 ro m P n x Q f ds w)(i:b=false->W0 ro m P n y Q f ds w):W0 ro m P n (.cond c x y) Q f ds w:=fun a d g =>
 wpIn_cond_split (t:=b) (by rw[d.ev]; exact h) (fun e=>j e a d g) (fun e=>i e a d g)
theorem W0.loop{c:Code}(I:(Nat->Value)->World->Prop)(k:(Nat->Value)->World->Nat)(r:I f w)(hr : ∀ f w,I f w->W0 ro m P n c (M8 I k (k f w) ds Q) f ds w):W0 ro m P n (.loop c) Q f ds w:=fun a s h =>
 wpIn_loop (fun a w => ∃ f,Ag a n f/\a.defers=ds/\I f w) (fun a w=>k (fun i=>a.tmps.getD i undef) w) ⟨f,s,h,r⟩ (fun a w g=>by
  obtain⟨f,l,h,g⟩:=g;have e:(fun i=>a.tmps.getD i undef)=f:=funext l.get;refine wpIn_mono (hr f w g a l h)<|fun p o w' b => ?_;obtain⟨d,j,b⟩:=b
  cases p <;> first
   | exact⟨d,j,b⟩
   | (have q:(fun i=>o.tmps.getD i undef)=d:=funext j.get
      exact⟨⟨d,j,b.1,b.2.1⟩,by rw[e,q]; exact b.2.2⟩))
theorem W0.list{id:Nat}{ops:List Oper}(h:L P n ops.toArray (fun e f w=>Q e f ds w) ops f w)(k:ops.all jP=true:=by rfl):W0 ro m P n (.region id ops.toArray false) Q f ds w:=fun a i j =>
 Gr i h k fun e l w' ⟨b,c,d,g⟩=>⟨b,c,by rw[d,j]; exact g⟩
theorem qA{y:Code}(h:W0 ro m P n y Q f ds w):UZ ro m P n y Q .normal f ds w:=h
theorem afJ{id:Nat}{y:Code}(h:Q (.exit id) f ds w):UZ ro m P n y Q (.exit id) f ds w:=h
theorem KX{id:Nat}(h:Q .normal f ds w):Bd id Q .normal f ds w:=h
theorem afK{id:Nat}(h:Q .normal f ds w):Bd id Q (.exit id) f ds w:=by simp only[Bd,if_true]; exact h
theorem amM{I:(Nat->Value)->World->Prop}{a:(Nat->Value)->World->Nat}{k id:Nat}(h:Q (.exit id) f ds w):M8 I a k ds Q (.exit id) f ds w:=h
theorem afL{I:(Nat->Value)->World->Prop}{a:(Nat->Value)->World->Nat}{k:Nat}(h:I f w)(b:a f w<k):M8 I a k ds Q .normal f ds w:=⟨rfl,h,b⟩
def Zn(P:Program)(m:Nat)(b:Func)(R:Ending->World->Prop):xO:=fun e f ds w => ∀ a,Ag a b.ntmps f->a.defers=ds->bodyPostM (FR none) m P b R e a w
theorem ach{g:FuncId}{b:Func}{c:Code}{args:Array Value}{R:Ending->World->Prop}(m:Nat)(k:P.funcs[g]? = some b)(j:b.body=some c)(f:b.ntmps=n)(ha:Nat.ble args.size n=true)(h:W0 none m P n c (Zn P m b R) (start args) [] w):Calls P g args w R:=by
 have q:args.size<=n:=Nat.le_of_ble_eq_true ha;refine(callsIn_wide (n:=m)).1 (callsIn_of_wp_marks (F:=FR none) k j trivial ?_ rfl);refine wpIn_mono (h _ ⟨?_,?_⟩ rfl) fun e a w' ⟨p,l,o⟩=>o a (by rw[f]; exact l) rfl
 ·simp[f]; omega
 intro i;simp only[start,Array.getD_eq_getD_getElem?,Array.getElem?_append,Array.getElem?_replicate];by_cases d:i<args.size
 ·simp[d]
 rw[b_ d];split
 ·rw[Array.getElem?_eq_none (by omega)]; rfl
 rw[Array.getElem?_eq_none (by omega)]
theorem leaveD{b:Func}{R:Ending->World->Prop}{D:Nat}{v:Value}(c:w.heap[D]? = some (.deferred (some [])))(h:(Al b f).run P (w.putObj D (.deferred none)) = .ok v (w.putObj D (.deferred none)))(d:R (.returned v) (w.putObj D (.deferred none))) :
 Zn P m b R .ret f [{ target := .collected D,args := #[] }] w:=fun a e g=>leave1 e g c h d
variable {ops:List Oper} {cs:List Nat} {S:World->World->Prop}
theorem R.afM(T:lV n ops=true)(hsel:Region.noSelect ops.toArray=true)(aa:ops.all jP=true)(hS : ∀ w,S w w)(hT : ∀ a b c,S a b->S b c->S a c){fT:List (Nat × Nat × List Nat)} : ∀(k:Nat) (u:List Nat) (p:Array Bool) (a:Act) (f:Nat->Value) (w:World),u.length=k->p.size=ops.length->JG ops.toArray .any p ->
 (∀ i,i∈u<->i<ops.length/\p.getD i false=false)->u.Nodup->(u.Pairwise fun i j=>pY ops cs fT i j=true)->Ag a n f->a.defers=ds->R P n ops cs S (fun e f w=>Q e f ds w) u f w->wpAnyIn (FR ro) m P .any ops.toArray (UY n Q) k p a w:=by
 intro k
 induction k with
 | zero =>
   intro u p a f w F ac J x G H A L h;have:u = []:=List.eq_nil_of_length_eq_zero F;subst this;refine⟨?_,f,A,by rw[L]; exact h⟩;rw[List.eq_nil_iff_forall_not_mem];intro j E;obtain⟨z,s,_,_⟩:=fG E;exact L_ ((x j).2 ⟨s,z⟩) (by simp)
 | succ k ih =>
   intro u p a f w F ac J x G H A L h;refine⟨fun hr => ?_,fun j E => ?_⟩
   ·cases u with
    | nil=>simp at F
    | cons r ajc =>
      exfalso;obtain⟨z,s⟩:=(x r).1 (List.mem_cons_self ..);have:r∈Region.ready .any ops.toArray p:=by
       refine mem_ready.2 ⟨getD_in (by omega) s,opAt ops r,by unfold opAt; rw[List.getElem?_toArray,r_,o_ z]; rfl,fun e M C => ?_⟩;have B:dF (opAt ops r) e.on=true:=by
        unfold dF; rw[Array.any_eq_true']; exact⟨e,M,by rw[C,Nat.beq_refl]; rfl⟩
       have hlt:=(fu T z).2.2.2 e.on B
       cases hle:p.getD e.on false with
       | true=>rfl
       | false =>
         have g:=(x e.on).2 ⟨by omega,hle⟩
         rcases List.mem_cons.1 g with e1|e1
         ·omega
         ·have o:=(List.pairwise_cons.1 H).1 _ e1;unfold pY at o;rw[B]at o; simp at o
      rw[hr]at this; simp at this
   ·obtain⟨z,s,W,X⟩:=fG E;have hjm:=(x j).2 ⟨s,z⟩;obtain⟨t,y,rfl⟩:=List.append_of_mem hjm;have C:=bubble (P:=P) (cs:=cs) (S:=S) (Q:=fun e f w=>Q e f ds w) T hsel hS hT s (l:=y) t (fun i N=>by
     obtain⟨h5,Y⟩:=(x i).1 (List.mem_append_left _ N);have O:i≠j:=fun e=>by
      subst e;exact(List.nodup_append.1 G).2.2 i N i (List.mem_cons_self ..) rfl
     have o:pY ops cs fT i j=true:=(List.pairwise_append.1 H).2.2 i N j (List.mem_cons_self ..);unfold pY at o;rw[R_,Bool.or_eq_true]at o;have Z5:dF (opAt ops j) i=false:=by
      cases hq:dF (opAt ops j) i with
      | false=>rfl
      | true=>have:=X i hq; rw[Y]at this; cases this
     refine⟨h5,O,Z5,by simpa using o.1,?_⟩
     rcases o.2 with o|o
     ·rw[R_,Bool.or_eq_true]at o;refine⟨o.1,?_⟩
      rcases o.2 with q|q
      ·rw[Bool.or_eq_true]at q;exact q.elim (fun q => .inl (A_ q)) (fun q => .inr (.inl q))
      ·rw[R_]at q;exact .inr (.inr ⟨A_ q.1,A_ q.2⟩)
     ·exfalso;rw[List.any_eq_true]at o;obtain⟨c,_,Z⟩:=o;rw[R_,R_]at Z;obtain⟨m,g⟩:=iU Z.2
      cases m with
      | zero=>unfold reach at g; simp at g; exact O g.symm
      | succ m =>
        unfold reach at g;rw[Bool.or_eq_true]at g
        rcases g with g|g
        ·simp at g; exact O g.symm
        ·rw[W]at g;simp only at g;rw[Array.any_eq_true']at g;obtain⟨e,M,g⟩:=g;rw[R_]at g;have B:dF (opAt ops j) e.on=true:=by
          unfold dF; rw[Array.any_eq_true']; exact⟨e,M,by rw[g.1,Nat.beq_refl]; rfl⟩
         have:=J.reach _ _ g.2 (X e.on B);rw[Y]at this; cases this) f w h
    have hperm:(t++y).length=k:=(by simp at F ⊢; omega);have hnd':(t++y).Nodup:=by
     refine G.sublist ?_;exact List.Sublist.append_left (List.sublist_cons_self ..) t
    have Z6:(t++y).Pairwise fun i j=>pY ops cs fT i j=true:=H.sublist (List.Sublist.append_left (List.sublist_cons_self ..) t);have hmem' : ∀ i,i∈t++y<->i<ops.length/\(p.setIfInBounds j true).getD i false=false:=fun i=>by
     by_cases e:j=i
     ·subst e;rw[set_self (by omega)];constructor
      ·intro g;exfalso;have D:=List.nodup_append.1 G
       rcases List.mem_append.1 g with q|q
       ·exact D.2.2 j q j (List.mem_cons_self ..) rfl
       ·exact(List.nodup_cons.1 D.2.1).1 q
      ·intro q; cases q.2
     ·rw[jR e,<- x i];simp only[List.mem_append,List.mem_cons];constructor
      ·rintro (q|q)
       ·exact .inl q
       ·exact .inr (.inr q)
      ·rintro (q|q|q)
       ·exact .inl q
       ·exact L_ q.symm e
       ·exact .inr q
    have U : ∀(v:Value) (w':World),R P n ops cs S (fun e f w=>Q e f ds w) (t++y) (put f (opAt ops j).dst v) w'->wpAnyIn (FR ro) m P .any ops.toArray (UY n Q) k (p.setIfInBounds j true) (a.put (opAt ops j).dst v) w':=fun v w' hR =>
     ih (t++y) _ _ _ w' hperm (by simp[ac]) (J.set E) hmem' hnd' Z6 (A.put (by
      cases D:(opAt ops j).dst with
      | none=>rfl
      | some d=>have:=((fu T s).1 d D).2; simpa [inn,Nat.blt_eq] using this) v) (by rw[put_defers]; exact L) hR
    have ab:jP (opAt ops j)=true:=by
     rw[List.all_eq_true]at aa;refine aa _ ?_;unfold opAt;rw[r_,o_ s];exact P_ s
    unfold wpOpIn;rw[W];simp only;rw[A.yf];unfold R at C
    rcases C with ⟨I,V⟩|⟨I,⟨V,v,q3,q4⟩|⟨V,q3⟩⟩
    ·rw[b_ (by rw[I]; decide)]; exact⟨fun _ _=>trivial,U _ _ V⟩
    ·rw[d_ I];refine Out.wpIn (K:=fun v' w'=>v'=v/\w'=w) A ab (.inl ⟨v,w,q3 w (.inr (.inr rfl)),rfl,rfl⟩) ?_;rintro v' w' ⟨rfl,rfl⟩;exact U _ _ q4
    ·rw[d_ I];exact Out.wpIn A ab q3 fun v w' hk=>U v w' hk.2
theorem W0.afN{f:Nat->Value}{w:World}{id:Nat}(l:List Nat)(cs:List Nat)(S:World->World->Prop)(o : ∀ w,S w w)(p : ∀ a b c,S a b->S b c->S a c)(fT:List (Nat × Nat × List Nat))(x:P.follows .mixedOrders=true)(z:lV n ops=true)(B:Region.noSelect ops.toArray=true)(g:En ops l=true)(A:xY ops cs fT l=true)
 (h : ∀ j,Below w.heap.size w j->j.heap.size=w.heap.size->R P n ops cs S (fun e f w=>Q e f ds w) l f j) (y:ops.all jP=true:=by rfl):W0 ro m P n (.region id ops.toArray true) Q f ds w:=fun a q r=>by
 refine wpIn_region_any x ?_;unfold En at g;rw[R_,R_,R_,List.all_eq_true,List.all_eq_true]at g;obtain⟨⟨⟨C,D⟩,p3⟩,p4⟩:=g;have v:=A_ C;have E:l.Nodup:=h_ p3;have:=R.afM (ro:=ro) (m:=m) (ds:=ds) (P:=P) (Q:=Q) (fT:=fT) z B y o p ops.length l (Array.replicate ops.length false) a f { w with drawn:=w.drawn+1 } v (by simp) (JG.start _ _ _) (fun i=>by
  have s : ∀ i,(Array.replicate ops.length false).getD i false=false:=fun i=>getD_replicate_false _ _;constructor
  ·intro d; exact⟨by simpa [Nat.blt_eq] using D i d,s i⟩
  ·intro d;obtain⟨k,t,u⟩:=List.any_eq_true.1 (p4 i (by simpa using d.1));rw[A_ u]; exact t) E (zG A) q r (h { w with drawn:=w.drawn+1 } (Below.refl _ _).drew rfl)
 simpa using this
end
end Fx
namespace Zo
def OH{b:Type}(J:b->World->Prop):Prop := ∀ s W a,J s W->W.grownBy a none->J s a
def aci{d:Type}(F:Fence)(n:Nat)(P:Program)(g:Nat)(lb:Array Value)(j:d->Array Value)(i:World->World->Prop)(S:List d->Prop)(N:Nat)(h:World->Prop):Prop :=
 ∀(l:Nat) (J:List d->World->Prop) (W:World),h W->OH J ->
  (∀ c x b,J c b->c.length<N->YieldAt F (n-1) P l (j x) b fun e a=>e = .returned (.bool true)/\J (c ++ [x]) a/\i b a) ->
  J [] W ->
  CallsIn F n P g (#[.func (.yield l) #[] #[]]++lb) W fun e a=>(∃ v,e = .returned v) /\ ∃ f,S f/\J f a
def M9{c:Type}(B:Nat)(I:c->World->Prop):Prop :=
 ∀ s W a b,I s W->W.grownBy a b->(∀ r,b=some r->B<=r /\ ∃ o:Obj,W.heap[r]? = some o/\o.isCells=false)->I s a
variable {F:Fence} {n:Nat} {P:Program}
theorem M9.putObj{a:Type}{B:Nat}{I:a->World->Prop}(h:M9 B I){s:a}{W:World}{l:Nat}{o:Obj}(o':Obj)(f:I s W)(b:B<=l)(c:W.heap[l]? = some o)(d:o.isCells=false):I s (W.putObj l o') :=
 h s W _ (some l) f (grownBy_putObj' W l o') (fun r e=>by cases e; exact⟨b,o,c,d⟩)
theorem M9.alloc{a:Type}{B:Nat}{I:a->World->Prop}(h:M9 B I){s:a}{W:World}(o:Obj)(b:I s W):I s (W.alloc o) :=
 h s W _ none b (World.grownBy_alloc W o none) (fun r e=>by cases e)
def KeepsFrom(B:Nat)(W a:World):Prop:=W.heap.size<=a.heap.size /\ ∀ k,B<=k->k<W.heap.size->a.heap[k]? = W.heap[k]?
def afO{a:Type}(B:Nat)(b:World->World->Prop)(I:List a->World->Prop)(c:List a)(W:World):Exit->Act->World->Prop
 | .normal,_,W'=>KeepsFrom B W W'/\b W W'/\I c W'
 | _,_,_=>False
theorem DF{α:Type}{g:Operand}{ps:Array Tmp}{assign body:Code}{Q:Exit->Act->World->Prop}{a:Act}{w:World}
 (hro:F.round=none) (h1:1<=n) {gf:Nat} {lb:Array Value} (hg:a.eval g = .func (.func gf) #[] lb) (hFg:F.fn gf) (eg : ∀ args w,(callFunc gf args).run P w = .ok (.enter gf args) w)
 {encs:α->Array Value} {Kp:World->World->Prop} {S:List α->Prop} {N:Nat} {Ip:World->Prop} (hseq:aci F (n-1) P gf lb encs Kp S N Ip)
 (hIp:Ip w) (Mg : ∀ W o,w.heap.size<=W.heap.size->Ip W->Ip (W.alloc o))
 (hKt : ∀ {A B C:World},Kp A B->Kp B C->Kp A C) (hKb : ∀(W:World) (l:Nat) (o o':Obj),w.heap.size<=l->W.heap[l]? = some o->o.isCells=false->Kp W (W.putObj l o')) (hps : ∀ x,(encs x).size=ps.size)
 (I:List α->World->Prop) (hI:M9 w.heap.size I) (h0:I [] w) (A₁:α->Act->Prop)
 (hassign : ∀(l:Nat) (x:α) (W:World),assign.wpIn (F.inRound l) (n-1-1) P (Exit.then (fun a' W'=>A₁ x a'/\W'=W) (fun _ _ _=>False)) { tmps:=(ps.zip (encs x)).foldl (fun t (p,v)=>t.setIfInBounds p v) a.tmps,defers := [] } W)
 (hbody : ∀(l:Nat) (pre:List α) (x:α) (W:World) (a':Act),A₁ x a'->I pre W->pre.length<N->w.heap.size<=W.heap.size->body.wpIn (F.inRound l) (n-1-1) P (afO w.heap.size Kp I (pre ++ [x]) W) a' W)
 (hdone : ∀(D:Nat) (xs:List α) (W:World),w.heap.size<=D->S xs->I xs W->W.heap[D]? = some (.deferred (some []))->Q .normal { a with defers := { target := .collected D,args := #[] }::a.defers } W) :
 (Code.rangeFunc g ps assign body).wpIn F n P Q a w:=by
 refine wpIn_rangeFunc ?_;intro fn hfn;rw[hro];obtain⟨rec,hrec⟩ : ∃ rec:LoopState->Option Code->Loop,rec=fun st pe => { state:=st,pending:=pe,fn,tmps:=a.tmps,params:=ps,assign,body,defers:=w.heap.size }:=⟨_,rfl⟩;obtain⟨W1,hW1⟩ : ∃ W1,(w.alloc (.deferred (some []))).alloc (.loop (rec .ready none))=W1:=⟨_,rfl⟩;have hL1:W1.heap[w.heap.size+1]? = some (.loop (rec .ready none)):=by
  rw[<- hW1]; have:=World.alloc_heap_new (w.alloc (.deferred (some []))) (.loop (rec .ready none)); rwa [World.size_alloc]at this
 have hK1:W1.heap[w.heap.size]? = some (.deferred (some [])):=by
  rw[<- hW1]; exact(Below.heap_alloc _ _ _ (by simp)).trans (World.alloc_heap_new w _)
 have hI1:I [] W1:=by rw[<- hW1]; exact hI.alloc _ (hI.alloc _ h0)
 have hp1:Ip W1:=by rw[<- hW1]; exact Mg _ _ (by simp) (Mg _ _ (z_ _) hIp)
 refine⟨w.heap.size+1,[{ target := .collected w.heap.size,args := #[] }],W1,{ target := .fn (.func gf) lb,args := #[.func (.yield (w.heap.size+1)) #[] #[]] },W1,gf,
  #[.func (.yield (w.heap.size+1)) #[] #[]]++lb,W1,?_,?_,?_,?_,fun _=>h1,?_⟩
 ·rw[<- hW1,hrec]; exact run_enterLoop_outer _ _ _ _ _
 ·simp only[resolve,hg];simp[go_sem]
 ·intro f' hf'; simp[Target.leads]at hf'; subst hf'; exact hFg
 ·simp[invoke,go_sem,eg]
 refine(hseq (w.heap.size+1)
  (fun pre W=>I pre W/\W.heap[w.heap.size+1]? = some (.loop (rec .ready none))/\W.heap[w.heap.size]? = some (.deferred (some [])))
  W1 hp1
  (fun s A B hs hg'=>⟨hI s A B none hs.1 hg' (fun r e=>nomatch e),(hg'.block _ (Array.getElem?_eq_some_iff.1 hs.2.1).1 (fun e=>nomatch e)).trans hs.2.1,(hg'.block _ (Array.getElem?_eq_some_iff.1 hs.2.2).1 (fun e=>nomatch e)).trans hs.2.2⟩)
  ?_ ⟨hI1,hL1,hK1⟩).mono ?_
 ·-- one round
  rintro pre x W ⟨hi,hl,hk⟩ hlen;have hlt:w.heap.size+1<W.heap.size:=(Array.getElem?_eq_some_iff.1 hl).1;have hy:=run_yield (P:=P) (args:=encs x) hl (by rw[hrec]; exact hps x);rw[hrec]at hy;refine⟨fn,_,assign,body,hy,roundIn_of_wpIn hfn (wpIn_mono (hassign _ x W) ?_)⟩;rintro e1 a1 w1 hq1
  cases e1 with
  | exit id=>exact hq1.elim
  | goto t=>exact hq1.elim
  | ret=>exact hq1.elim
  | panic ch=>exact hq1.elim
  | outgrown=>exact hq1.elim
  | normal =>
  obtain⟨hA1,ew⟩:=hq1;rw[ew];refine⟨_,run_beginRound hl (by rw[hrec]),?_⟩;have hl2:(W.putObj (w.heap.size+1) (.loop { rec .ready none with state := .busy })).heap[w.heap.size+1]? = some (.loop { rec .ready none with state := .busy }):=World.putObj_heap_same hlt;have hk2:(W.putObj (w.heap.size+1) (.loop { rec .ready none with state := .busy })).heap[w.heap.size]? = some (.deferred (some [])):=(World.putObj_heap_other (by omega)).trans hk;have hw2:Kp W (W.putObj (w.heap.size+1) (.loop { rec .ready none with state := .busy })):=hKb _ _ _ _ (by omega) hl rfl;refine wpIn_mono (hbody _ pre x _ a1 hA1 (hI.putObj _ hi (by omega) hl rfl) hlen (by simp; omega)) ?_;rintro e a3 W3 hp
  cases e with
  | normal =>
    obtain⟨hk3,hkp3,hi3⟩:=hp;have hl3:=(hk3.2 _ (by omega) (Array.getElem?_eq_some_iff.1 hl2).1).trans hl2;have amN:=(hk3.2 _ (by omega) (Array.getElem?_eq_some_iff.1 hk2).1).trans hk2;have hr:=run_endRound (P:=P) none hl3;rw[hrec]at hr hl3;refine⟨_,_,hr,rfl,⟨hI.putObj _ hi3 (by omega) hl3 rfl,?_,(World.putObj_heap_other (by omega)).trans amN⟩,hKt (hKt hw2 hkp3) (hKb _ _ _ _ (by omega) hl3 rfl)⟩;rw[hrec]; exact World.putObj_heap_same (Array.getElem?_eq_some_iff.1 hl3).1
  | ret=>exact hp.elim
  | exit id=>exact hp.elim
  | goto t=>exact hp.elim
  | panic ch=>exact hp.elim
  | outgrown=>exact hp.elim
 rintro e W2 ⟨⟨v,rfl⟩,xs,hS,hi,hl,hk⟩;exact⟨none,_,by have:=run_endLoop (P:=P) hl (by rw[hrec]; simp); rw[hrec]at this; exact this,hdone _ xs _ (z_ _) hS (hI.putObj _ hi (by omega) hl rfl) ((World.putObj_heap_other (by omega)).trans hk)⟩
end Zo
namespace Fx
theorem KY{a:Act}{n p q:Nat}{u v:Value}{f:Nat->Value}(h:Ag a n f)(c:p<n)(g:q<n):Ag { tmps:=(#[p,q].zip #[u,v]).foldl (fun t (p,v)=>t.setIfInBounds p v) a.tmps,defers := [] } n (put (put f (some p) u) (some q) v):=by
 have b:=(h.put (d:=some p) (by simpa [inn,Nat.blt_eq] using c) u).put (d:=some q) (by simpa [inn,Nat.blt_eq] using g) v;have e:(#[p,q].zip #[u,v]).foldl (fun t (p,v)=>t.setIfInBounds p v) a.tmps=((a.put (some p) u).put (some q) v).tmps:=by simp[Array.zip,Act.put]
 rw[e]; exact⟨b.size,b.get⟩
theorem W0.acj{P:Program}{n m:Nat}{Q:xO}{f:Nat->Value}{ds:List Deferred}{w:World}{c:Type}{g:Operand}{p q:Tmp}{E G:Code}{gf:Nat}{lb:Array Value}(h1:1<=m)(hg:ev f g = .func (.func gf) #[] lb)(J : ∀ z w,(callFunc gf z).run P w = .ok (.enter gf z) w)
 {eu ev2:c->Value} {d:World->World->Prop} {S:List c->Prop} {N:Nat} {s:World->Prop} (hseq:Zo.aci (FR none) (m-1) P gf lb (fun x => #[eu x,ev2 x]) d S N s)
 (R:s w) (T : ∀ W o,w.heap.size<=W.heap.size->s W->s (W.alloc o)) (V : ∀ {A B C:World},d A B->d B C->d A C) (U : ∀(W:World) (l:Nat) (o o':Obj),w.heap.size<=l->W.heap[l]? = some o->o.isCells=false->d W (W.putObj l o')) (hp:p<n) (hq:q<n)
 (I:List c->World->Prop) (O:Zo.M9 w.heap.size I) (L:I [] w) (A:c->(Nat->Value)->Prop)
 (X : ∀(l:Nat) (x:c) (W:World),W0 (some l) (m-1-1) P n E (fun e b H h=>e = .normal/\H = []/\A x b/\h=W) (put (put f (some p) (eu x)) (some q) (ev2 x)) [] W)
 (Y : ∀(l:Nat) (r:List c) (x:c) (W:World) (b:Nat->Value),A x b->I r W->r.length<N->w.heap.size<=W.heap.size->W0 (some l) (m-1-1) P n G (fun e K H h=>e = .normal/\Zo.KeepsFrom w.heap.size W h/\d W h/\I (r ++ [x]) h) b [] W)
 (aa : ∀(D:Nat) (u:List c) (W:World),w.heap.size<=D->S u->I u W->W.heap[D]? = some (.deferred (some []))->Q .normal f ({ target := .collected D,args := #[] }::ds) W):W0 none m P n (.rangeFunc g #[p,q] E G) Q f ds w:=fun a t Z=>by
 refine Zo.DF (F:=FR none) rfl h1 (by rw[t.ev]; exact hg) trivial J hseq R T V U (fun _=>rfl) I O L (fun x i => ∃ b,Ag i n b/\i.defers = []/\A x b) ?_ ?_ ?_
 ·intro l x W;refine wpIn_mono (X l x W _ (KY t hp hq) rfl) ?_;rintro e i w' ⟨b,y,rfl,j,k,rfl⟩;exact⟨⟨b,y,j,k⟩,rfl⟩
 ·rintro l r x W i ⟨b,y,j,k⟩ hi hl hs;refine wpIn_mono (Y l r x W b k hi hl hs i y j) ?_;rintro e a'' w' ⟨K,aus,rfl,v⟩;exact v
 ·intro D u W j k v M;refine⟨f,⟨t.size,t.get⟩,?_⟩;show Q .normal f (_::a.defers) W;rw[Z]; exact aa D u W j k v M
end Fx
end Go.Proofs.YtahbiajdgealnaaDoor
namespace Go.Proofs.YtahbiajdgealnaaDoor
open Go.RowKit Rt
open Fx (fI fq fP bF gX gW dA dY gP jE eZ jF gy jv jG Lv sN Ln Ws Qv Wl Rp Wc Qs Wr Sb Lk Wk rC rV sR Rs Rn Rd Rk Wb Wx Wo FQ Wt rT Qn F3 Bl Af Ar DI Ei rM gK Av mV wI uT wX xX Aq DL Au rv aA aQ bR aN ev bZ Stp dJ aR flat dD Mp fA aU iR iQ bJ down iI jM iT nY bP bL cells_one jl bS wQ unseen jN iK bX dH bI bT cK cO gU iB qo gu)
set_option maxRecDepth 20000
namespace Rt
structure OI(sb:Nat)(v:Value)(W W':World):Prop where
 size:W.heap.size<=W'.heap.size
 b:W'.heap[sb]? = W.heap[sb]?
 g : ∀ g,v.ownBlock=some g->W'.heap[g]? = W.heap[g]?
theorem OI.trans{a:Nat}{v:Value}{A B C:World}(h:OI a v A B)(k:OI a v B C):OI a v A C:=⟨m_ h.size k.size,k.b.trans h.b,fun g c=>(k.g g c).trans (h.g g c)⟩
theorem OI.put{a B:Nat}{v:Value}(e:a<B)(c : ∀ g,v.ownBlock=some g->g<B)(W:World)(l:Nat)(o o':Obj)(d:B<=l):OI a v W (W.putObj l o'):=⟨by simp,World.putObj_heap_other (by omega),fun g b=>World.putObj_heap_other (by have:=c g b; omega)⟩
theorem OI.Bv{a b:Nat}{v:Value}{W c:World}(h:Stp b W c)(h1:a<W.heap.size)(f:a≠b)(e : ∀ g,v.ownBlock=some g->g<W.heap.size/\g≠b):OI a v W c:=⟨h.size,h.block a h1 f,fun g d=>h.block g (e g d).1 (e g d).2⟩
theorem acn{q n c s:Nat}{a:Option Addr}{x:Nat->Value}{W d:World}(l:nY W a n s x)(r:0<s)(k:OI q (.slice a n c) W d):nY d a n s x:=fun h=>by
 obtain⟨b,p,e,m⟩:=l h;refine⟨b,p,e,fun i o => ?_⟩;have f:=m i o;have j:=k.g b (by rw[e]; rfl);unfold World.cell? at f ⊢;rw[j]; exact f
def BwP(b:Nat)(a:Option Addr)(n c:Nat)(l:List Int)(W:World):Prop:=aQ W b 1 (fun _ => .slice a n c) 53/\nY W a n 1 (yV l)
theorem BwP.alloc{f n c:Nat}{a:Option Addr}{l:List Int}{W:World}(h:BwP f a n c l W)(o:Obj):BwP f a n c l (W.alloc o) :=
 ⟨(Below.heap_alloc W o f h.1.lt).trans h.1,fun g=>by
   obtain⟨b,p,e,k⟩:=h.2 g;refine⟨b,p,e,fun i m => ?_⟩;have d:=k i m;have j:=Below.heap_alloc W o b (block_lt_of_cell d);unfold World.cell? at d ⊢;rw[j]; exact d⟩
theorem U0{h f B:Nat}{c:World}{F:List Nat->dK}(h1:h<c.heap.size)(j:f<c.heap.size):Zo.M9 c.heap.size (fun(n:List Nat) W=>rR W B h f (F n)/\Stp f c W):=fun s W i o a b m=>by
 have g : ∀ k,k<c.heap.size->i.heap[k]? = W.heap[k]? := fun k d=>b.block k (n_ d a.2.size) fun e=>by
  have:=(m k e.symm).1; omega
 exact⟨rR.keep a.1 (g h h1) (g f j),⟨b.os.trans a.2.os,b.tape.trans a.2.tape,b.output.trans a.2.output,m_ a.2.size b.size,fun k d l=>(g k d).trans (a.2.block k d l)⟩⟩
theorem X0{w:World}{B E s n b m:Nat}{v:Value}{x:Nat->Value}{k:Nat->Int}{y:Nat->Value}(a:Fx.Own w B E s v n x)(d:Mp w b m k y){g:Nat}(c:v.ownBlock=some g):g<w.heap.size/\g≠b:=⟨(a.ge c).2,fun e=>d.qW (by rw[<- e]; exact a.ty c)⟩
theorem aco{T:dK}{k:Int}(h : ∀ i,i<T.n->T.x i≠k):T.par k=0:=by
 have : ∀ n,(∀ i,i<n->T.x i≠k)->gZ T.x T.p n k=0:=fun n=>by
  induction n with
  | zero=>exact fun _=>rfl
  | succ n ih=>exact fun h=>by unfold gZ; rw[b_ (h n (by omega))]; exact ih fun i a=>h i (by omega)
 exact this _ h
structure JB(J:List Nat->World->Prop)(pre:List Nat)(w:World):Prop where
 ab:Zo.OH J
 j:J pre w
end Rt
theorem amP(a:Option Addr)(n c:Nat)(w:World) :
 Calls Tryd.prog 168 #[.slice a (n) (c)] w fun e w' => ∃ d,e = .returned (.func (.func 179) #[] #[(pt d)])/\w.heap.size<=d/\aQ w' d 1 (fun _ => .slice a n c) 53/\Below w.heap.size w w':=by
 refine Kent Tryd.func168 4 ?_;refine ay<|xg (.slice a (n) (c)) fun b l h f j m => ?_;have g:=bE j.old (Below.refl w.heap.size w);have i:=gL h;have k:=f.lt;refine av (.nilFunc)<|aD<|ay<|Lv (.func (.func 179) #[] #[(pt b)]) (Fx.mG (us := []) (vs := [(pt b)]) rfl rfl rfl)<|av (.func (.func 179) #[] #[(pt b)])<|aD<|Wr<|aJ (.func (.func 179) #[] #[(pt b)]) ?_;exact⟨b,rfl,i,f,g⟩
theorem afP(J:List Nat->World->Prop)(h d c:Nat)(a:Option Addr)(l:List Int)(w:World)(o:aQ w d 1 (fun _ => .slice a (l.length) (c)) 53)(I:nY w a l.length 1 (yV l))(n:JB J [] w)(U:l.length<=1000)
 (L : ∀ r x m,J r m->r.length<l.length->Go.YieldAt (Fx.FR none) 1 Tryd.prog h #[au (x:Nat),aC (l.getD x 0)] m fun e y=>e = .returned (.bool true)/\J (r ++ [x]) y/\OI d (.slice a l.length c) m y) :
  Calls Tryd.prog 179 #[.func (.yield h) #[] #[],(pt d)] w fun e w'=>(∃ v,e = .returned v) /\ ∃ F,F=FW l.length l.length/\J F w':=by
 have V:=o.lt;have n:JB J (FW l.length (l.length-l.length)) w:=by rw[Nat.sub_self]; exact n
 refine Kent Tryd.func179 19 ?_;refine ay<|Lv (.slice a (l.length) (c)) (aM o.aH 0)<|av (au l.length)<|Lv (au ((l.length:Int)-1)) fQ<|av (au ((l.length:Int)-1))<|aD<|Wb<|Wo (fun f u => ∃ k:Nat,k<=l.length/\f 0 = .func (.yield h) #[] #[]/\f 1=(pt d)/\f 3=au ((k:Int)-1)/\aQ u d 1 (fun _ => .slice a (l.length) (c)) 53/\nY u a l.length 1 (yV l)/\JB J (FW l.length (l.length-k)) u) (fun f _=>(intOf (f 3)+1).toNat) ⟨l.length,(z_ _),(by rfl),(by rfl),Fx.ic,o,I,n⟩ ?_;rintro S X ⟨k,T,A,B,g,D,E,p⟩;refine Ws<|ay<|aY g ?_;by_cases z:0<=((k:Int)-1)
 ·refine Lv aG (ko z)<|aD<|aO<|Wk<|sN<|Ws<|Wb<|Ws<|Fx.W.YU 2<|Fx.Ly.v (.func (.yield h) #[] #[]) (fI rfl A) ?_;refine Fx.Ly.v (au ((k:Int)-1)) (fI rfl g) ?_;refine Fx.Ly.v (.slice a (l.length) (c)) (bF (x:=fun _ => .slice a (l.length) (c)) rfl B (by kernel_rfl) D.aH (i:=0) (by omega) (by omega) rfl) ?_;refine Fx.Ly.v (au ((k:Int)-1)) (fI rfl g) ?_;obtain⟨G,Q,H,M⟩:=E (by omega);refine Fx.Ly.v (pf G (k+Q-1)) (dY rfl (rfl.trans (K_ (fun q=>Value.slice q (l.length) (c)) H)) rfl Tryd.underlying53 (s:=1) (by kernel_rfl) (by omega) (by omega) (by omega)) ?_;refine Fx.Ly.v (aC (l.getD (k-1) 0)) (bF (x:=yV l) rfl rfl (by kernel_rfl) M (i:=k-1) (by omega) (by omega) rfl) ?_;refine Fx.Ly.yield (l:=h) (args := [au ((k:Int)-1),aC (l.getD (k-1) 0)]) rfl rfl rfl (Fx.args2 rfl rfl) rfl (by have:=L (FW l.length (l.length-k)) (k-1) _ p.j (by rw[OG]; omega); rw[show((k-1:Nat):Int)=(k:Int)-1 by omega]at this; exact this) ?_;rintro R t ⟨rfl,K,C⟩;refine⟨.bool true,rfl,?_⟩;have N:aQ t d 1 (fun _ => .slice a (l.length) (c)) 53:=C.b.trans D;have O:nY t a l.length 1 (yV l):=acn E (by decide) C;have P:JB J (FW l.length (l.length-(k-1))) t:=⟨p.ab,by rw[show l.length-(k-1)=(l.length-k)+1 by omega]; unfold FW; rw[show l.length-1-(l.length-k)=k-1 by omega]; exact K⟩;refine Fx.Ly.v (.bool false) (Fx.Rm rfl rfl) ?_;refine Fx.Ly.nil ?_;refine sN<|aL<|Wk<|bT<|sN<|Wl<|aY g<|Lv (au ((k:Int)-2)) fQ<|av (au ((k:Int)-2))<|Ln<|iB ⟨k-1,(by omega),A,B,Fx.ic,N,O,P⟩ ?_;show(intOf (au ((k:Int)-2))+1).toNat<_;simp only[g,intOf]; omega
 refine Lv aF (jT z) (aD (aL (Wx (cK (gU (cO (⟨.tuple #[],iI Tryd.results179,?_⟩)))))));exact⟨⟨_,rfl⟩,_,rfl,by have:=p.j; rw[show l.length-k=l.length by omega]at this; exact this⟩
theorem acp(b c:Nat)(a:Option Addr)(l:List Int)(i:l.length<=1000) :
 Zo.aci (Fx.FR none) 2 Tryd.prog 179 #[(pt b)] (fun x:Nat => #[au (x:Int),aC (l.getD x 0)]) (OI b (.slice a l.length c)) (fun k=>k=FW l.length l.length) l.length (BwP b a l.length c l) :=
 fun j J W ⟨h,e⟩ g f d=>callsIn_wide.2 (afP J j b c a l W h e ⟨g,d⟩ i f)
namespace Rt
theorem OJ{l:List Int}{T:dK}(b:T.ok)(h : ∀ k,k∈l->T.has k=true)(x:Nat):0<=l.getD x 0/\l.getD x 0<=18446744073709551615:=by
 by_cases a:x<l.length
 ·have d:l.getD x 0∈l:=by rw[r_,o_ a]; exact P_ a
  obtain⟨i,c,e⟩:=gQ (h _ d);rw[<- e]; exact UR b c
 rw[r_,List.getElem?_eq_none (by omega)]; decide
theorem OL{l:List Int}{T:dK}{pa:Int}(a:T.ok)(e:l=T.path pa)(x:Nat):0<=l.getD x 0/\l.getD x 0<=18446744073709551615:=OJ a (fun k d=>by
 obtain⟨i,b,c⟩:=List.getElem_of_mem d;have:=dK.M7 a e b;rw[r_,o_ b]at this;rw[<- c]; exact this) x
theorem X3{l:List Int}{T:dK}(a:T.ok)(h : ∀ k,k∈l<->T.has k=true)(x:Nat):0<=l.getD x 0/\l.getD x 0<=18446744073709551615:=OJ a (fun k b=>(h k).1 b) x
end Rt
theorem acr(m:dM)(lp B:Nat)(w:World)(h:kQ w B lp m)(id pa:Int)(hid:0<=id/\id<=18446744073709551615) :
 Calls Tryd.prog 153 #[(pt lp),aC id,aC pa] w fun e w'=>e = .returned (au (m.T.err id pa))/\Below w.heap.size w w':=by
 have hC:=h.c;have hT:=h.t;have hP:=h.p;have hR:=h.r;have hG:=h.g;have hA:=h.a;have hN:=h.ne;have lC:=h.c.lt;have lT:=h.t.lt;have lP:=h.p.lt;have lR:=h.r.lt;have lG:=h.g.lt;have lA:=h.a.lt;refine Fx.ach 3 Tryd.func153 rfl (n:=55) rfl (by rfl) ?_;refine Fx.W0.seq<|Fx.W0.list<|xg (pt lp) fun g1 w1 mR m1 s1 z1 => ?_;have⟨m2,m3,m4,m5,m6,m7,b1⟩:=jw s1.old hC hT hP hR hG hA (Below.refl w.heap.size w);have sO:=gL mR;have⟨nC,zB,xI,CQ,AP⟩:=Aw mR hC.lt hP.lt hR.lt hG.lt hA.lt;have uo:=m1.lt;refine av (au 0)<|Ln<|Fx.qA<|Fx.W0.seq<|Fx.W0.list<|lS (Za _) ?_;rintro e9 w2 ⟨v,j,u,hg1,m8,hb1⟩;refine⟨_,u,?_⟩;clear u;have nem.aqN:m.mb≠j:=t_ (n_ m3.lt hg1);have⟨m9,m10,m11,m12,m13,m14,m15,b2⟩:=lK hb1 m2 m3 m4 m5 m6 m7 m1 b1;have m16:rR w2 (w.heap.size) v j dK.zero:=m8.weak b1.size;clear m8 hg1;refine qC 1 (fun _ => .pointer none) fun L w3 yZ m17 s3 z2 => ?_;have⟨m18,m19,m24,mZ,b3⟩:=qD s3.old m9 m10 m15 m16 b2;have qN:=jc yZ b2.size;have⟨acs,amQ,amR,amS,amT,amU⟩:=JO yZ m9.lt m11.lt m12.lt m13.lt m14.lt m15.lt;have zL:=m17.lt;refine iX m17 0 (pt v) fun w4 nT s4 z3 => ?_;have oM:aQ w4 L 1 (fun _=>(pt v)) 85:=dH nT;have gM:=gK s4 m17.ty;have⟨oN,oZ,og,qG⟩:=JN gM m18 m19 m24 mZ;have b4:=s4.below b3 b3.size (by omega);refine Ln<|Fx.qA<|Fx.W0.seq<|Fx.W0.list<|Lv (pt lp) (aM og.aH 0)<|av (pt lp)<|av (pf lp 18)<|Lv (pt m.tp) (aM oN.aH 18)<|av (aC pa)<|lS (IJ pa oZ) ?_;rintro e9 w5 ⟨F,G,u,pV,hb2⟩;refine⟨_,u,?_⟩;clear u;have⟨nE,rY,rQ,b5⟩:=mJ hb2 og qG oM b4;obtain⟨l,J⟩ : ∃ q,q=dK.path m.T pa:=⟨_,rfl⟩;rw[<- J]at pV ⊢;have hl4:l.length<=4:=by rw[J]; exact dK.yI
 refine av (.slice F (l.length) (G))<|Ln<|Fx.qA<|Fx.W0.seq<|Fx.W0.seq<|Fx.W0.list<|av (.slice F (l.length) (G))<|lS (amP F l.length G _) ?_;rintro e9 w6 ⟨sb1,u,hg2,pz,hb3⟩;refine⟨_,u,?_⟩;clear u;have⟨uV,E,wD,sS,U⟩:=qD hb3 nE rY rQ pV b5;refine Ln<|Fx.qA<|Fx.W0.block ?_;have afQ:g1≠j:=E.map.ne uV.ty;have aut:=uV.lt;have afR:L≠j:=E.map.ne wD.ty;have auu:=wD.lt;have Zp:sb1≠j:=E.map.ne pz.ty;have afS:=pz.lt;have hgm:=E.gm;have ltm:=E.lt;have ltt:=E.blk.lt;have K : ∀ g,(.slice F (l.length) (G):Value).ownBlock=some g->g<w6.heap.size/\g≠j:=fun g y=>X0 sS E.map y;refine Fx.W0.acj (gf:=179) (lb := #[(pt sb1)]) (eu:=fun x:Nat=>au (x:Int)) (ev2:=fun x=>aC (l.getD x 0)) (by decide) rfl (fun args w=>jQ Tryd.func179 (by kernel_rfl) rfl args w) (acp sb1 G F l (by omega)) ⟨pz,Fx.aaH sS⟩ (fun W o _ hi=>hi.alloc o) (fun h k=>h.trans k) (fun W l o o' J _ _=>OI.put afS (fun g y=>(K g y).1) W l o o' J) (by decide) (by decide) (fun xs W=>rR W (w.heap.size) v j (LQ m.T l xs)/\Stp j w6 W) (U0 ltt ltm) ⟨E,mV _ _⟩ (fun x f=>f 3=(pt g1)/\f 7=(pt L)/\f 10=aC (l.getD x 0)) ?_ ?_ ?_
 ·intro ly x W;exact Fx.W0.list (Lv (aC (l.getD x 0)) (fq rfl rfl) (Ln ⟨rfl,rfl,⟨rfl,rfl,rfl⟩,rfl⟩))
 ·rintro ly pre x W f9 ⟨q3,q7,q10⟩ ⟨hT2,s⟩ hpl hWs;have H:Below w.heap.size w W:=s.below U U.size hgm;have C:=h.up H;have hPW:=C.p;have M:=C.c;have N:=C.t;have Q:=uV.bY s afQ;have afT:=Q.lt;have R:=wD.bY s afR;have afU:=R.lt;have lWm:j<W.heap.size:=n_ ltm s.size;have lWt:w6.heap.size<=W.heap.size:=s.size;have lCW:=M.lt;have lPW:=hPW.lt;have lTW:=N.lt;have lh0:=h.t.lt;have lh1:=h.p.lt;refine Fx.W0.block ?_;refine Fx.W0.afN [1,6,0,2,3,4,5,7,8] [4,0,4,0,0,4,0,4,3] Fx.Mk wI Fx.Mk.trans (fT := [(8,0,[0]),(8,2,[7,5,4,3,2]),(8,5,[7,5]),(8,7,[7])]) (by kernel_rfl) (by kernel_rfl) (by kernel_rfl) (by kernel_rfl) (by kernel_rfl) fun qE dU iC => ?_;have s7:Stp W.heap.size W qE:=Sb dU;have⟨sj,sU,xC,ru,uW,oh⟩:=rX dU M hPW N Q R hT2;have b7:=(mV j W).then s7 (.inr (mV j W).size);refine bU q10<|bU q10<|Rs (pt v) (aM uW.aH 0 (ha:=q7)) ?_;refine Rs (pt lp) (aM ru.aH 0 (ha:=q3)) ?_;refine aZ (pt lp)<|aZ (pf lp 19)<|Rs (.map (some m.pb)) (aM sj.aH 19) ?_
  rcases Fx.qY m.T.x m.T.n (l.getD x 0)with ⟨U1,CS,CU⟩|jg
  ·refine Rs (aC (m.T.p U1)) (Fx.Ay (z:=aC 0) rfl rfl rfl sU Tryd.underlying87 Tryd.underlying22 (by rfl) CS CU rfl) ?_;refine gG<|dL (Kg (l.getD x 0) (m.T.p U1) oh (OL h.t.inv J x)) _ rfl ?_;rintro w7 ⟨tL,s8⟩;have O:=oh.Cw s8;have m64:=sj.dQ O;have yY:=sU.dQ O (by omega);have wE:=xC.dQ O (by omega);have wR:=ru.dQ O;have wK:=uW.dQ O;have V:=b7.then s8 (.inl rfl);refine Ln<|Rn<|Fx.KX ?_;have ep:m.T.par (l.getD x 0)=m.T.p U1:=DN C.t.inv.inj CS CU;refine⟨rfl,⟨V.size,fun q hq hq2=>V.block q hq2 (by omega)⟩,OI.Bv V (by omega) Zp (fun g y=>⟨n_ (K g y).1 lWt,(K g y).2⟩),?_,s.then V (.inl rfl)⟩;rw[Fh,ep]; exact tL
  refine Rs (aC 0) (Fx.NQ (z:=aC 0) rfl rfl rfl sU Tryd.underlying87 Tryd.underlying22 (by rfl) jg) ?_;refine gG<|dL (Kg (l.getD x 0) 0 oh (OL h.t.inv J x)) _ rfl ?_;rintro w8 ⟨sV,s9⟩;have P:=oh.Cw s9;have uX:=sj.dQ P;have uz:=sU.dQ P (by omega);have vI:=xC.dQ P (by omega);have tN:=ru.dQ P;have Ah:=uW.dQ P;have X:=b7.then s9 (.inl rfl);refine Ln<|Rn<|Fx.KX ?_;have ep:m.T.par (l.getD x 0)=0:=aco jg;refine⟨rfl,⟨X.size,fun q hq hq2=>X.block q hq2 (by omega)⟩,OI.Bv X (by omega) Zp (fun g y=>⟨n_ (K g y).1 lWt,(K g y).2⟩),?_,s.then X (.inl rfl)⟩;rw[Fh,ep]; exact sV
 rintro D xs W hD rfl ⟨hT2,s⟩ hK;have H:Below w.heap.size w W:=s.below U U.size hgm;have C:=h.up H;have hPW:=C.p;have M:=C.c;have N:=C.t;have Q:=uV.bY s afQ;have afT:=Q.lt;have R:=wD.bY s afR;have afU:=R.lt;have lWm:j<W.heap.size:=n_ ltm s.size;have lWt:w6.heap.size<=W.heap.size:=s.size;have lCW:=M.lt;have lPW:=hPW.lt;have lTW:=N.lt;have lh0:=h.t.lt;have lh1:=h.p.lt;have lDW:=(Array.getElem?_eq_some_iff.1 hK).1;have oW:=sS.bY s (fun e=>(K _ e).2 rfl);refine Fx.KX<|Fx.qA<|Fx.W0.seq<|Fx.W0.seq<|Fx.W0.list<|Lv (pt lp) (aM Q.aH 0) ?_;refine av (pt lp)<|av (pf lp 18)<|Lv (pt m.tp) (aM M.aH 18)<|lS (aaF N) ?_;rintro e9 w9 ⟨la1,A,d,u,vJ,hq1,auD,hb4⟩;refine⟨_,u,?_⟩;clear u;have s10:=Sb hb4;have⟨sZ,uY,xD⟩:=jh hb4 R hT2 oW;have b10:=(mV j W).then s10 (.inr (mV j W).size);refine av (au d.length)<|av (au 0)<|Ln<|Fx.qA<|Fx.W0.block<|Fx.W0.loop (fun f S => ∃ i:Nat,i<=d.length/\f 1=aC id/\f 2=aC pa/\f 7=(pt L)/\f 8 = .slice F (l.length) (G)/\f 37 = .slice la1 (d.length) (A)/\f 38=au (d.length:Int)/\f 39=au (i:Int)/\aQ S L 1 (fun _=>(pt v)) 85/\rR S (w.heap.size) v j (kU l d (LQ m.T l (FW l.length l.length)) i)/\Fx.Own S W.heap.size 22 1 (.slice la1 (d.length) (A)) d.length (yV d)/\Fx.Own S w4.heap.size 22 1 (.slice F (l.length) (G)) l.length (yV l)/\Stp j W S) (fun f _=>((d.length:Int)-intOf (f 39)).toNat) ⟨0,(by omega),Fx.ic,Fx.ic,(by rfl),(by rfl),(by rfl),Fx.ic,Fx.ic,sZ,uY,vJ,xD,b10⟩ ?_;rintro f1 rO ⟨i,hi,h1,h2,h3,h4,h5,h6,I,yw,wF,zw,yx,b11⟩;refine Fx.W0.seq<|Fx.W0.list ?_;by_cases c40:(i:Int)<(d.length:Int)
 ·refine Lv aG (iL c40 (hx:=I) (hy:=h6)) (Ln (Fx.qA (Fx.W0.seq (Fx.W0.cond (b:=true) rfl (fun _=>Fx.W0.skip (Fx.qA (Fx.W0.seq (Fx.W0.block (Fx.W0.seq (Fx.W0.list ?_)))))) (fun h=>nomatch h)))));obtain⟨GN,Z⟩:=zw.addr (by omega);have zJ:Fx.Own rO W.heap.size 22 1 (bK GN d.length A) d.length (yV d):=zw.fH (K_ (fun q=>Value.slice q d.length A) Z);refine Lv (pf GN i) (dh 1 (hx:=(h5.trans (K_ (fun q=>Value.slice q (d.length) (A)) Z))) (hi:=I))<|Lv (aC (d.getD i 0)) (aM zJ.aH i)<|av (aC (d.getD i 0))<|Ln<|Fx.qA<|Fx.W0.seq<|Fx.W0.list<|aY h4<|av (aC (d.getD i 0))<|dL (ajm l (d.getD i 0) _ _ _ _ yx (by omega)) (ax := #[.slice F (l.length) (G),aC (d.getD i 0)]) _ rfl ?_;intro F7 hb5;have s11:=Sb hb5;have⟨yA,yB,Ai,Ez⟩:=mJ hb5 yw wF yx zJ;have b12:=b11.then s11 (.inr b11.size);by_cases Y:d.getD i 0∈l
  ·skip
   refine Lv aF (Fx.Rm rfl (K_ Value.bool (f_ Y)))<|Ln<|Fx.qA<|Fx.W0.cond (b:=false) rfl (fun h=>nomatch h)<|fun _=>Fx.W0.skip<|Fx.KX<|Fx.qA<|Fx.W0.list<|Lv (au ((i:Int)+1)) (fE (hx:=I))<|av (au ((i:Int)+1))<|Ln ?_;have Dt:Fx.Own F7 W.heap.size 22 1 (.slice la1 (d.length) (A)) d.length (yV d):=Ez.fH (K_ (fun q=>Value.slice q d.length A) Z.symm);have CF:rR F7 (w.heap.size) v j (kU l d (LQ m.T l (FW l.length l.length)) (i+1)):=by unfold kU; rw[d_ Y]; exact yB
   skip
   refine Fx.afL ⟨i+1,(by omega),(h1.trans Fx.ic),(h2.trans Fx.ic),h3,h4,h5,(h6.trans Fx.ic),Fx.ic,yA,CF,Dt,Ai,b12⟩ ?_;show((d.length:Int)-intOf (au ((i:Int)+1))).toNat<_;simp only[I,intOf]; omega
  skip
  refine Lv aG (Fx.ZK rfl (K_ Value.bool (g_ Y))) (Ln (Fx.qA (Fx.W0.cond (b:=true) rfl (fun _=>Fx.W0.list (Lv (pt v) (aM yA.aH 0 (ha:=h3)) ?_)) (fun h=>nomatch h))));refine av (aC (d.getD i 0))<|dL (Kg (d.getD i 0) 0 yB (X3 h.t.inv hq1.2 i)) _ rfl ?_;rintro Cx ⟨CG,s12⟩;have acu:=yB.Cw s12;have Aj:=yA.dQ acu;have FT:=Ai.dQ acu;have EF:=Ez.dQ acu;have b13:=b12.then s12 (.inl rfl);refine Ln<|Fx.KX<|Fx.qA<|Fx.W0.list<|Lv (au ((i:Int)+1)) (fE (hx:=I))<|av (au ((i:Int)+1))<|Ln ?_;have FU:Fx.Own Cx W.heap.size 22 1 (.slice la1 (d.length) (A)) d.length (yV d):=EF.fH (K_ (fun q=>Value.slice q d.length A) Z.symm);have F9:rR Cx (w.heap.size) v j (kU l d (LQ m.T l (FW l.length l.length)) (i+1)):=by unfold kU; rw[b_ Y]; exact CG
  skip
  refine Fx.afL ⟨i+1,(by omega),(h1.trans Fx.ic),(h2.trans Fx.ic),h3,h4,h5,(h6.trans Fx.ic),Fx.ic,Aj,F9,FU,FT,b13⟩ ?_;show((d.length:Int)-intOf (au ((i:Int)+1))).toNat<_;simp only[I,intOf]; omega
 refine Lv aF (iM c40 (hx:=I) (hy:=h6))<|Ln<|Fx.qA<|Fx.W0.seq<|Fx.W0.cond (b:=false) rfl (fun h=>nomatch h)<|fun _=>Fx.W0.exit<|Fx.afJ<|Fx.amM<|Fx.afK<|Fx.qA<|Fx.W0.seq ?_;have hil:i=d.length:=by omega
 refine Fx.W0.list<|Lv (pt v) (aM yw.aH 0 (ha:=h3)) ?_;refine aY h1<|aY h2<|dL (Kg id pa wF hid) _ rfl ?_;rintro F8 ⟨vR,s13⟩;have acv:=wF.Cw s13;have zO:=yw.dQ acv;have uK:=zw.dQ acv;have sD:=yx.dQ acv;have b14:=b11.then s13 (.inl rfl);refine av (au (dK.err (kU l d (LQ m.T l (FW l.length l.length)) i) id pa))<|Ln<|Fx.qA<|Fx.W0.ret ?_;have hKD:=(b14.block D lDW (by omega)).trans hK;have eD:dK.err (kU l d (LQ m.T l (FW l.length l.length)) d.length) id pa=m.T.err id pa:=XZ h.t.inv J hq1;refine Fx.leaveD hKD (rV Tryd.results153 (show Fx.LY Tryd.prog _ _ (.tmp 6) (au (dK.err (kU l d (LQ m.T l (FW l.length l.length)) i) id pa))from rfl)) ⟨by rw[hil,eD],?_⟩;exact(b14.below H H.size hgm).grown (grownBy_putObj' _ D _) (b14.below H H.size hgm).size fun r e=>by cases e; omega
end Go.Proofs.YtahbiajdgealnaaDoor
