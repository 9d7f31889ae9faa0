/-
  What the proof of the law rests on, part 5: walks of functions, and plain laws; each says its conditions itself.
-/
import Derived.Test.YtahbiajdgealnaaGreatDoorRows
import Derived.OrdersIn
import Derived.Test.YtahbiajdgealnaaGreatDoorZA4
set_option maxHeartbeats 1600000
set_option linter.unusedVariables false
set_option linter.unusedSimpArgs false
namespace Go.Proofs.YtahbiajdgealnaaGreatDoor
open Go.RowKit Rt
open Fx (fD eT fI bC gL gK dw dR fZ iL dZ jg fP jh iV Lv sN Ln Ws Qv Wl Rp Wc Qs Wr Sb Lk Wk rC rV sR Rs Rn Rd Rk Wb Wx Wo Dw Wt qQ Qn EI Ao yj yI Ca Dl pG gY yL lZ sO uq vP wB xR Cy Ak rv aA aP bG aQ ev bX Stp dG aU flat dz Mp eX aT gN iF bD down iH jB iA ku bH bJ cells_one iG bT wD unseen jr gM bU dH bK bP bV bW fU gJ oQ gG)
section
namespace Rt
structure Inv0(L:gV)(T:Nat):Prop where
 Bj:L.tn=L.nn
 nn:L.nn<=32
 tid : ∀ i,i<L.nn->L.t i 0=L.id i/\L.t i 1=L.par i
 rise : ∀ i j,i<j->j<L.nn->L.id i<L.id j
 pos : ∀ i,i<L.nn->1<=L.id i
 top : ∀ i,i<L.nn->L.id i<7696581394432
 up : ∀ i,i<L.nn->L.par i=0 \/ ∃ j,j<L.nn/\L.id j=L.par i
 dep : ∀ x,∃ D,D<=4/\bB L.t L.tn (bf L.t L.tn D x)<0
 gn:L.gn<=T
 rn : ∀ i,i<6->L.rn i<=T
 may : ∀ k,k<L.nn->may (L.R k)=true
 g47 : ∀ k,k<L.nn -> ∀ a,a<6->L.R k a<=140737488355328
 kn:EO L.known
theorem X8(a:Int):a<0\/0<=a:=by omega
theorem gX{t:Nat->Nat->Int}{tn:Nat}{x:Int}:0<=bB t tn x <-> ∃ i,i<tn/\t i 0=x:=by
 constructor
 ·intro h
  obtain⟨j,c,_,e⟩:=tX h
  exact⟨j,c,e⟩
 rintro ⟨i,b,e⟩
 rcases jf (fun i=>decide (t i 0=x)) tn with ⟨k,_,a,_⟩|⟨_,h2⟩
 ·unfold bB; rw[a]; omega
 have:=h2 i b; rw[decide_eq_true e]at this; cases this
theorem uh{t:Nat->Nat->Int}{tn:Nat}{x:Int}:bB t tn x<0 <-> ∀ i,i<tn->t i 0≠x:=by
 constructor
 ·intro h i a e
  have:=gX.2 ⟨i,a,e⟩; omega
 intro h
 rcases X8 (bB t tn x)with h1|h1
 ·exact h1
 obtain⟨i,a,e⟩:=gX.1 h1
 exact absurd e (h i a)
theorem uj{t:Nat->Nat->Int}{tn i:Nat}(c : ∀ i j,i<tn->j<tn->t i 0=t j 0->i=j)(hi:i<tn):bB t tn (t i 0)=(i:Int):=by
 obtain⟨j,b,e,a⟩:=tX (gX.2 ⟨i,hi,rfl⟩)
 rw[e,c j i b hi a]
theorem Ej{t:Nat->Nat->Int}{tn:Nat}{x:Int} : ∀ j,bf t tn (j+1) x=bf t tn j (bf t tn 1 x)
 | 0=>rfl
 | j+1=>by
   show t (bB t tn (bf t tn (j+1) x)).toNat 1=t (bB t tn (bf t tn j (bf t tn 1 x))).toNat 1
   rw[Ej j]
section
variable {L:gV} {T:Nat}
theorem Inv0.inj(h:Inv0 L T) : ∀ i j,i<L.nn->j<L.nn->L.id i=L.id j->i=j:=fun i j a b e=>by
 rcases Nat.lt_trichotomy i j with h1|h1|h1
 ·have:=h.rise i j h1 b; omega
 ·exact h1
 ·have:=h.rise j i h1 a; omega
theorem Inv0.aea(h:Inv0 L T) : ∀ i j,i<L.tn->j<L.tn->L.t i 0=L.t j 0->i=j:=fun i j a b e=>by
 rw[h.Bj]at a b
 rw[(h.tid i a).1,(h.tid j b).1]at e
 exact h.inj i j a b e
theorem BM{P Q:Nat->Bool} : ∀ {n:Nat},(∀ i,i<n->P i=Q i)->gF P n=gF Q n
 | 0,_=>rfl
 | n+1,h=>by
   simp only[gF]
   rw[BM (n:=n) fun i a=>h i (by omega),h n (by omega)]
theorem Inv0.node(h:Inv0 L T)(x:Int):L.node x=bB L.t L.tn x:=by
 unfold gV.node bB
 rw[h.Bj]
 exact BM fun i a=>by rw[(h.tid i a).1]
theorem Inv0.w(h:Inv0 L T):VE L T where
 nn:=by have:=h.nn; omega
 gn:=h.gn
 rn:=h.rn
 tn:=h.node
 dx:=fun x=>by obtain⟨D,b,a⟩:=h.dep x; exact⟨D,by omega,a⟩
 may:=h.may
 kn:=h.kn
theorem Inv0.mono{T':Nat}(h:Inv0 L T)(a:T<=T'):Inv0 L T' := { h with gn:=Nat.le_trans h.gn a,rn:=fun i b=>Nat.le_trans (h.rn i b) a }
theorem CV{a:Type}{f:Nat->a}{k i:Nat}{v:a}(h:i<k):bX f k v i=f i:=by unfold bX; rw[if_pos h]
theorem dD{a:Type}{f:Nat->a}{k:Nat}{v:a}:bX f k v k=v:=by unfold bX; rw[if_neg (by omega),if_pos rfl]
theorem CW{a:Type}{f:Nat->a}{k i:Nat}{v:a}(h:k<i):bX f k v i=f (i-1):=by unfold bX; rw[if_neg (by omega),if_neg (by omega)]
theorem dO{k i n:Nat}(b:k<=n)(hi:i<n+1):i=k \/ ∃ j,j<n/\(∀ {α:Type} (f:Nat->α) (v:α),bX f k v i=f j)/\(j<k->i=j)/\(k<=j->i=j+1):=by
 rcases Nat.lt_trichotomy i k with h|h|h
 ·exact .inr ⟨i,by omega,fun f v=>CV h,fun _=>rfl,fun a=>by omega⟩
 ·exact .inl h
 exact .inr ⟨i-1,by omega,fun f v=>CW h,fun a=>by omega,fun _=>by omega⟩
theorem zU{k j n:Nat}(a:j<n) : ∃ i,i<n+1/\i≠k /\ ∀ {α:Type} (f:Nat->α) (v:α),bX f k v i=f j:=by
 by_cases h:j<k
 ·exact⟨j,by omega,by omega,fun f v=>CV h⟩
 exact⟨j+1,by omega,by omega,fun f v=>by rw[CW (by omega)]; rfl⟩
theorem xO(t:Nat->Nat->Int)(k:Nat)(id par:Int)(i:Nat):nI t k id par i=bX t k (fun j=>if j=0 then id else par) i:=rfl
theorem FM{P Q:Nat->Bool} : ∀ {n:Nat},(∀ i,i<n->P i=Q i)->down P n=down Q n
 | 0,_=>rfl
 | n+1,h=>by
   unfold down
   rw[FM (n:=n) fun i a=>h i (by omega),h n (by omega)]
structure nL(t t':Nat->Nat->Int)(tn:Nat)(id par:Int):Prop where
 u : ∀ i j,i<tn->j<tn->t i 0=t j 0->i=j
 u' : ∀ i j,i<tn+1->j<tn+1->t' i 0=t' j 0->i=j
 no : ∀ i,i<tn->t i 0≠id
 old : ∀ i,i<tn -> ∃ j,j<tn+1/\t' j=t i
 new : ∃ j,j<tn+1/\t' j 0=id/\t' j 1=par
 back : ∀ j,j<tn+1->t' j 0=id \/ ∃ i,i<tn/\t' j=t i
variable {t t':Nat->Nat->Int} {tn:Nat} {id par:Int}
theorem nL.find(h:nL t t' tn id par){x:Int}:0<=bB t' (tn+1) x<->(0<=bB t tn x\/x=id):=by
 rw[gX,gX]
 constructor
 ·rintro ⟨j,b,e⟩
  rcases h.back j b with a|⟨i,hi,a⟩
  ·exact .inr (e.symm.trans a)
  exact .inl ⟨i,hi,by rw[<- a]; exact e⟩
 rintro (⟨i,hi,e⟩|e)
 ·obtain⟨j,b,a⟩:=h.old i hi
  exact⟨j,b,by rw[a]; exact e⟩
 obtain⟨j,b,a,_⟩:=h.new
 exact⟨j,b,a.trans e.symm⟩
theorem nL.VF(h:nL t t' tn id par){x:Int}(hx:0<=bB t tn x):t' (bB t' (tn+1) x).toNat 1=t (bB t tn x).toNat 1:=by
 obtain⟨i,b,e⟩:=gX.1 hx
 obtain⟨j,f,a⟩:=h.old i b
 have c:bB t tn x=(i:Int):=by rw[<- e]; exact uj h.u b
 have d:bB t' (tn+1) x=(j:Int):=by
  have:t' j 0=x:=by rw[a]; exact e
  rw[<- this]; exact uj h.u' f
 rw[c,d]
 show t' j 1=t i 1
 rw[a]
theorem nL.iter(h:nL t t' tn id par){x:Int} : ∀ K,(∀ i,i<K->0<=bB t tn (bf t tn i x))->bf t' (tn+1) K x=bf t tn K x
 | 0,_=>rfl
 | K+1,hk=>by
   have a:=nL.iter h K fun i b=>hk i (by omega)
   show t' (bB t' (tn+1) (bf t' (tn+1) K x)).toNat 1=t (bB t tn (bf t tn K x)).toNat 1
   rw[a]; exact h.VF (hk K (by omega))
theorem um{t:Nat->Nat->Int}{tn:Nat}{x:Int} : ∀ D,bB t tn (bf t tn D x)<0 -> ∃ K,K<=D/\bB t tn (bf t tn K x)<0 /\ ∀ i,i<K->0<=bB t tn (bf t tn i x)
 | 0,h=>⟨0,Nat.le_refl _,h,fun _ a=>absurd a (Nat.not_lt_zero _)⟩
 | D+1,h=>by
   by_cases f : ∀ i,i<D+1->0<=bB t tn (bf t tn i x)
   ·exact⟨D+1,Nat.le_refl _,h,f⟩
   ·obtain⟨i,a⟩:=Classical.not_forall.1 f
    obtain⟨a,o⟩:=Classical.not_imp.1 a
    rcases Nat.lt_or_ge i D with h3|h3
    ·-- an earlier end
     have : ∀ n,n<=D->(∃ j,j<=n/\bB t tn (bf t tn j x)<0) -> ∃ K,K<=n/\bB t tn (bf t tn K x)<0 /\ ∀ i,i<K->0<=bB t tn (bf t tn i x):=by
      intro n
      induction n with
      | zero=>rintro _ ⟨j,m,k⟩; obtain rfl:j=0:=by omega
              exact⟨0,Nat.le_refl _,k,fun _ a=>absurd a (Nat.not_lt_zero _)⟩
      | succ n ih =>
        rintro k ⟨j,m,g⟩
        by_cases c : ∃ j,j<=n/\bB t tn (bf t tn j x)<0
        ·obtain⟨K,d,l⟩:=ih (by omega) c; exact⟨K,by omega,l⟩
        ·refine⟨n+1,Nat.le_refl _,?_,fun i a => ?_⟩
         ·by_cases e:j=n+1
          ·rw[<- e]; exact g
          ·exact absurd ⟨j,by omega,g⟩ c
         ·rcases X8 (bB t tn (bf t tn i x))with h7|h7
          ·exact absurd ⟨i,by omega,h7⟩ c
          ·exact h7
     obtain⟨K,d,b⟩:=this i (by omega) ⟨i,Nat.le_refl _,by omega⟩
     exact⟨K,by omega,b⟩
    ·obtain rfl:i=D:=by omega
     obtain⟨K,d,b⟩:=um (t:=t) (tn:=tn) (x:=x) i (by omega)
     exact⟨K,by omega,b⟩
theorem nL.dep(h:nL t t' tn id par)(z:1<=id)(v : ∀ i,i<tn->t i 1=0\/0<=bB t tn (t i 1))(s:par=0\/0<=bB t tn par)(B:bB t tn 0<0)(o : ∀ x,∃ D,D<=4/\bB t tn (bf t tn D x)<0)(p : ¬ BJ t tn par) :
 ∀ x,∃ D,D<=4/\bB t' (tn+1) (bf t' (tn+1) D x)<0:=by
 -- an end of an old path is none of the new tree's nodes
 have A:bB t tn id<0:=uh.2 h.no
 have k : ∀ x K,x≠id->bB t tn (bf t tn K x)<0->(∀ i,i<K->0<=bB t tn (bf t tn i x))->bB t' (tn+1) (bf t' (tn+1) K x)<0:=fun x K c f a=>by
  rw[h.iter K a]
  rcases X8 (bB t' (tn+1) (bf t tn K x))with h1|h1
  ·exact h1
  ·exfalso
   rcases h.find.1 h1 with h2|h2
   ·omega
   ·cases K with
    | zero=>exact c h2
    | succ K =>
      have q:=a K (by omega)
      obtain⟨i,b,e⟩:=gX.1 q
      have d:bf t tn (K+1) x=t i 1:=by
       show t (bB t tn (bf t tn K x)).toNat 1=t i 1
       rw[<- e,uj h.u b]; rfl
      rw[d]at h2 f
      rcases v i b with h4|h4
      ·omega
      ·omega
 intro x
 by_cases c:x=id
 ·subst c
  obtain⟨i,b⟩:=Classical.not_forall.1 p
  obtain⟨y,b⟩:=Classical.not_imp.1 b
  obtain⟨K,f,g,a⟩:=um (t:=t) (tn:=tn) (x:=par) i (by omega)
  refine⟨K+1,by omega,?_⟩
  have l:bf t' (tn+1) 1 x=par:=by
   obtain⟨j,r,m,d⟩:=h.new
   show t' (bB t' (tn+1) x).toNat 1=par
   rw[<- m,uj h.u' r]; exact d
  rw[Ej,l]
  refine k par K ?_ g a
  rintro rfl
  rcases s with h1|h1 <;> omega
 obtain⟨D,w,n⟩:=o x
 obtain⟨K,f,g,a⟩:=um D n
 exact⟨K,by omega,k x K c g a⟩
end
end Rt
end
section
namespace Rt
section
variable {L:gV} {T:Nat} {v:EvM}
theorem VG{t:Nat->Nat->Int}{tn:Nat}{id par:Int}(h:iR t tn id par=0):id≠0/\bB t tn id<0/\(par=0\/0<=bB t tn par)/\tn<32 /\ ¬ BJ t tn par:=by
 unfold iR at h
 split at h; · cases h
 rename_i h1
 split at h; · cases h
 rename_i h2
 split at h; · cases h
 rename_i h3
 split at h; · cases h
 rename_i h4
 refine⟨h1,by omega,?_,?_,fun b=>h4 (.inr b)⟩
 ·rcases X8 (bB t tn par)with h5|h5
  ·by_cases a:par=0
   ·exact .inl a
   exact absurd ⟨a,h5⟩ h3
  exact .inr h5
 rcases Nat.lt_or_ge tn 32 with h5|h5
 ·exact h5
 exact absurd (Or.inl h5) h4
theorem qG(h:dh v=true):1<=v.o/\v.o<=6/\1<=v.seq/\v.seq<1099511627776:=by
 have a:=iy h
 have b:=CG h
 unfold oK at a
 simp only[Bool.and_eq_true,decide_eq_true_eq]at a
 exact⟨a.1,a.2,b.1,b.2⟩
theorem CX(h:dh v=true):jd v.o v.seq=1099511627776*v.o+v.seq:=by
 have:=qG h
 unfold jd; rw[if_pos (by omega)]
theorem pX(h:dh v=true):bA v<6:=by
 have:=qG h; unfold bA; omega
theorem VH{a:Nat}{n:Int}(ha:a<6)(f:0<=n)(h1:n<=1125899906842624):may (upd (fun _=>0) a n)=true:=by
 have e : ∀ p,upd (fun _=>0) a n p=if p=a then n else 0:=fun p=>rfl
 rw[jI]
 refine⟨fun p l => ?_,fun k h => ?_,?_⟩
 ·rw[e]; split <;> omega
 ·have b : ∀ i j,R (upd (fun _=>0) a n) i j=0:=fun i j=>by unfold R; rw[e,if_neg (by omega)]
  refine⟨?_,?_,b k k⟩
  ·unfold L
   simp only[b]
   have g:0<=G (upd (fun _=>0) a n) k:=by unfold G; rw[e]; split <;> omega
   have d:F (upd (fun _=>0) a n) k=0:=by unfold F; rw[e,if_neg (by omega)]
   have c:C (upd (fun _=>0) a n) k=0:=by unfold C; rw[e,if_neg (by omega)]
   omega
  have d:F (upd (fun _=>0) a n) k=0:=by unfold F; rw[e,if_neg (by omega)]
  have c:C (upd (fun _=>0) a n) k=0:=by unfold C; rw[e,if_neg (by omega)]
  omega
 unfold rz G
 simp only[e]
 have:(if 0=a then n else 0)+(if 1=a then n else 0)+(if 2=a then n else 0)+(if 3=a then n else 0)+(if 4=a then n else 0)+(if 5=a then n else 0)=n:=six a ha n
 omega
theorem vH(h:Inv0 L T)(d:dh v=true)(F:v.kind=1)(f:jE L v=0) : ∃ k,k<=L.nn/\1<=jd v.o v.seq/\L.nn<32/\(0<=v.aX/\v.aX<=140737488355328)/\(v.node=0\/0<=bB L.t L.tn v.node) /\ ¬ BJ L.t L.tn v.node /\
 oM L v = { L with nn:=L.nn+1,id:=bX L.id k (jd v.o v.seq),par:=bX L.par k v.node,R:=bX L.R k (upd (fun _=>0) (bA v) v.aX),tn:=L.tn+1,t:=nI L.t k (jd v.o v.seq) v.node } /\
 (∀ i j,i<j->j<L.nn+1->bX L.id k (jd v.o v.seq) i<bX L.id k (jd v.o v.seq) j)/\(∀ i,i<L.nn+1->nI L.t k (jd v.o v.seq) v.node i 0=bX L.id k (jd v.o v.seq) i/\nI L.t k (jd v.o v.seq) v.node i 1=bX L.par k v.node i) /\
 nL L.t (nI L.t k (jd v.o v.seq) v.node) L.tn (jd v.o v.seq) v.node:=by
 unfold jE at f
 split at f
 ·cases f
 rename_i h47
 obtain⟨K,s,w,M,y⟩:=VG f
 have S:=qG d
 have U:=CX d
 have W:=pX d
 have D:0<=v.aX/\v.aX<=140737488355328:=by
  have Q : ¬ 140737488355328<v.aX:=fun h=>h47 (.inr h)
  unfold dh at d
  simp only[Bool.and_eq_true]at d
  have l:=d.2
  unfold dK at l
  rw[if_pos F]at l
  simp only[Bool.and_eq_true,decide_eq_true_eq]at l
  omega
 generalize hx:jd v.o v.seq=x at *
 have J:1<=x:=by omega
 have A:down (fun i=>decide (x<L.t i 0)) L.tn=qC L.id L.nn x:=by
  unfold qC; rw[h.Bj]; exact FM fun i a=>by rw[(h.tid i a).1]
 have z:oM L v = { L with nn:=L.nn+1,id:=bX L.id (qC L.id L.nn x) x,par:=bX L.par (qC L.id L.nn x) v.node,R:=bX L.R (qC L.id L.nn x) (upd (fun _=>0) (bA v) v.aX),tn:=L.tn+1,t:=nI L.t (qC L.id L.nn x) x v.node }:=by
  unfold oM; rw[hx,A]; rfl
 generalize hkk:qC L.id L.nn x=k at *
 have c:k<=L.nn:=by rw[<- hkk]; exact Fx.xA _ _
 have G : ∀ i,i<L.nn->L.id i≠x:=fun i a e=>uh.1 s i (by rw[h.Bj]; exact a) (by rw[(h.tid i a).1]; exact e)
 have C : ∀ q,k<=q->q<L.nn->x<L.id q:=fun q b g=>by
  have:=Fx.Gt (P:=fun i=>decide (x<L.id i)) (n:=L.nn) (i:=q) (by show qC L.id L.nn x<=q; omega) g
  exact of_decide_eq_true this
 have B : ∀ q,q<k->L.id q<x:=fun q b=>by
  obtain⟨j,rfl⟩ : ∃ j,k=j+1:=⟨k-1,by omega⟩
  have g:=Fx.Gu (P:=fun i=>decide (x<L.id i)) (n:=L.nn) (j:=j) hkk
  have N : ¬ x<L.id j:=of_decide_eq_false g
  have O:=G j (by omega)
  by_cases e:q=j
  ·subst e; omega
  ·have:=h.rise q j (by omega) (by omega); omega
 have H:L.nn<32:=by have:=h.Bj; omega
 have m : ∀ i j,i<j->j<L.nn+1->bX L.id k x i<bX L.id k x j:=fun i j V hj=>by
  rcases dO c (show i<L.nn+1 by omega)with rfl|⟨q,hq,eq,q1,q2⟩
  ·rcases dO c hj with rfl|⟨r,hr,er,r1,r2⟩
   ·omega
   ·rw[dD,er]
    exact C r (by omega) hr
  ·rcases dO c hj with rfl|⟨r,hr,er,r1,r2⟩
   ·rw[dD,eq]
    exact B q (by omega)
   ·rw[eq,er]
    exact h.rise q r (by omega) hr
 have p : ∀ i,i<L.nn+1->nI L.t k x v.node i 0=bX L.id k x i/\nI L.t k x v.node i 1=bX L.par k v.node i:=fun i a=>by
  rw[xO]
  rcases dO c a with rfl|⟨q,hq,eq,_,_⟩
  ·rw[dD,dD,dD]; exact⟨rfl,rfl⟩
  ·rw[eq,eq,eq]; exact h.tid q hq
 have E : ∀ i j,i<L.nn+1->j<L.nn+1->bX L.id k x i=bX L.id k x j->i=j:=fun i j a hj e=>by
  rcases Nat.lt_trichotomy i j with b|b|b
  ·have:=m i j b hj; omega
  ·exact b
  ·have:=m j i b a; omega
 have I:nL L.t (nI L.t k x v.node) L.tn x v.node := {
  u:=h.aea
  u':=fun i j a hj e=>by
   rw[h.Bj]at a hj
   rw[(p i a).1,(p j hj).1]at e
   exact E i j a hj e
  no:=uh.1 s
  old:=fun i a=>by
   obtain⟨j,hj,_,e⟩:=zU (k:=k) a
   exact⟨j,hj,by rw[xO]; exact e L.t _⟩
  new:=⟨k,by have:=h.Bj; omega,by rw[xO,dD]; rfl,by rw[xO,dD]; rfl⟩
  back:=fun j hj=>by
   rw[h.Bj]at hj
   rcases dO c hj with rfl|⟨q,hq,eq,_,_⟩
   ·exact .inl (by rw[xO,dD]; rfl)
   ·exact .inr ⟨q,by rw[h.Bj]; exact hq,by rw[xO]; exact eq L.t _⟩ }
 exact⟨k,c,J,H,D,w,y,z,m,p,I⟩
theorem OH(h:Inv0 L T)(c:dh v=true)(w:v.kind=1)(r:jE L v=0):Inv0 (oM L v) (T+1):=by
 obtain⟨k,a,m,K,s,g,n,p,B,E,F⟩:=vH h c w r
 have I:=qG c
 have J:=CX c
 have C:=pX c
 rw[p]
 generalize hx:jd v.o v.seq=x at *
 have z : ∀ j,j<L.nn -> ∃ i,i<L.nn+1/\bX L.id k x i=L.id j:=fun j hj=>by
  obtain⟨i,hi,_,e⟩:=zU (k:=k) hj
  exact⟨i,hi,e L.id x⟩
 have H:bB L.t L.tn 0<0:=uh.2 fun i hi e=>by
  rw[h.Bj]at hi
  rw[(h.tid i hi).1]at e
  have:=h.pos i hi; omega
 have A:v.node=0 \/ ∃ j,j<L.nn/\L.id j=v.node:=by
  rcases g with e|e
  ·exact .inl e
  ·obtain⟨i,hi,d⟩:=gX.1 e
   rw[h.Bj]at hi
   exact .inr ⟨i,hi,by rw[<- (h.tid i hi).1]; exact d⟩
 exact {
  Bj:=by show L.tn+1=L.nn+1; rw[h.Bj]
  nn:=by show L.nn+1<=32; omega
  tid:=E
  rise:=B
  pos:=fun i hi=>by
   show 1<=bX L.id k x i
   rcases dO a hi with rfl|⟨q,hq,eq,_,_⟩
   ·rw[dD]; exact m
   ·rw[eq]; exact h.pos q hq
  top:=fun i hi=>by
   show bX L.id k x i<_
   rcases dO a hi with rfl|⟨q,hq,eq,_,_⟩
   ·rw[dD]; omega
   ·rw[eq]; exact h.top q hq
  up:=fun i hi=>by
   show bX L.par k v.node i=0 \/ ∃ j,j<L.nn+1/\bX L.id k x j=bX L.par k v.node i
   have l : ∀ y,(y=0 \/ ∃ j,j<L.nn/\L.id j=y)->(y=0 \/ ∃ j,j<L.nn+1/\bX L.id k x j=y):=fun y G=>G.imp id fun⟨j,hj,e⟩=>by
    obtain⟨i,hi,d⟩:=z j hj
    exact⟨i,hi,d.trans e⟩
   rcases dO a hi with rfl|⟨q,hq,eq,_,_⟩
   ·rw[dD]; exact l _ A
   ·rw[eq]; exact l _ (h.up q hq)
  dep:=by
   show ∀ y,∃ D,D<=4/\bB (nI L.t k x v.node) (L.tn+1) (bf (nI L.t k x v.node) (L.tn+1) D y)<0
   refine F.dep m (fun i hi => ?_) g H h.dep n
   have f:=hi
   rw[h.Bj]at f
   rw[(h.tid i f).2]
   rcases h.up i f with e|⟨j,hj,e⟩
   ·exact .inl e
   ·exact .inr (gX.2 ⟨j,by rw[h.Bj]; exact hj,by rw[(h.tid j hj).1]; exact e⟩)
  gn:=Nat.le_succ_of_le h.gn
  rn:=fun i hi=>Nat.le_succ_of_le (h.rn i hi)
  may:=fun i hi=>by
   show may (bX L.R k _ i)=true
   rcases dO a hi with rfl|⟨q,hq,eq,_,_⟩
   ·rw[dD]; exact VH C s.1 (by omega)
   ·rw[eq]; exact h.may q hq
  g47:=fun i hi b u=>by
   show bX L.R k _ i b<=_
   rcases dO a hi with rfl|⟨q,hq,eq,_,_⟩
   ·rw[dD]
    show(if b=bA v then v.aX else 0)<=_
    split <;> omega
   ·rw[eq]; exact h.g47 q hq b u
  kn:=h.kn }
theorem FN{b:gV}{T':Nat}(h:Inv0 L T)(c:b.nn=L.nn)(d:b.id=L.id)(f:b.par=L.par)(g:b.tn=L.tn)(j:b.t=L.t)(m:b.known=L.known)(n:b.gn<=T')(hr : ∀ i,i<6->b.rn i<=T')
 (l : ∀ k,k<L.nn->may (b.R k)=true /\ ∀ a,a<6->b.R k a<=140737488355328):Inv0 b T' where
 Bj:=by rw[c,g]; exact h.Bj
 nn:=by rw[c]; exact h.nn
 tid:=by rw[c,d,f,j]; exact h.tid
 rise:=by rw[c,d]; exact h.rise
 pos:=by rw[c,d]; exact h.pos
 top:=by rw[c,d]; exact h.top
 up:=by rw[c,d,f]; exact h.up
 dep:=by rw[g,j]; exact h.dep
 gn:=n
 rn:=hr
 may:=by rw[c]; exact fun k e=>(l k e).1
 g47:=by rw[c]; exact fun k e=>(l k e).2
 kn:=by rw[m]; exact h.kn
def sH(x:Nat->Int):Prop:=may x=true /\ ∀ a,a<6->x a<=140737488355328
theorem El{f:(Nat->Int)->(Nat->Int) × Int}{idx:Nat->Nat}{R:Nat->Nat->Int}{n:Nat}(g : ∀ x,sH x->(f x).2=0->sH (f x).1)(d : ∀ k,k<n->sH (R k)) : ∀ K k,k<n->sH ((cO f idx R K).1 k)
 | 0,k,hk=>d k hk
 | K+1,k,hk=>by
   have a:=El g d (idx:=idx) K
   unfold cO
   by_cases e:(cO f idx R K).2=0
   ·rw[if_pos e]
    by_cases b:(f ((cO f idx R K).1 (idx K))).2=0
    ·rw[if_pos b]
     show sH (if k=idx K then _ else _)
     by_cases c:k=idx K
     ·rw[if_pos c]; exact g _ (by rw[<- c]; exact a k hk) b
     ·rw[if_neg c]; exact a k hk
    ·rw[if_neg b]; exact a k hk
   ·rw[if_neg e]; exact a k hk
theorem VI{x:Nat->Int}{i n:Int}(h:sH x)(c:(bE x i n).2=0):sH (bE x i n).1:=by
 obtain⟨a,g,_,_,_,_,_,f,_,_,_,e⟩:=GU c
 exact⟨f,fun b d=>by rw[e,fM _ _ _ _ (by omega)]; exact h.2 b d⟩
theorem VJ{x:Nat->Int}{i n:Int}(h:sH x)(c:(bF x i n).2=0):sH (bF x i n).1:=by
 obtain⟨a,g,_,_,_,_,f,_,_,_,e⟩:=GV c
 exact⟨f,fun b d=>by rw[e,fM _ _ _ _ (by omega)]; exact h.2 b d⟩
theorem VK{x:Nat->Int}{i j n:Int}(h:sH x)(d:(cK x i j n).2=0):sH (cK x i j n).1:=by
 obtain⟨a,b,k,l,_,_,_,_,_,_,g,e⟩:=GR d
 exact⟨g.may,fun c f=>by rw[e,fM _ _ _ _ (by omega)]; exact h.2 c f⟩
theorem R9{x:Nat->Int}{a:Nat}{n:Int}(ha:a<6)(h:sH x)(s:0<=n)(q : ¬ 140737488355328<x a+n):sH (upd x a (x a+n)):=by
 have d:=(jI x).1 h.1
 have e : ∀ p,upd x a (x a+n) p=if p=a then x a+n else x p:=fun p=>rfl
 have t:=d.1 a (by omega)
 have c : ∀ b,b<6->upd x a (x a+n) b<=140737488355328:=fun b l=>by
  rw[e]; split
  ·omega
  ·exact h.2 b l
 refine⟨(jI _).2 ⟨fun p o => ?_,fun k m => ?_,?_⟩,c⟩
 ·have:=d.1 p o
  rw[e]; split <;> omega
 ·obtain⟨r,i,j⟩:=d.2.1 k m
  have f:C (upd x a (x a+n)) k=C x k:=by unfold C; rw[e,if_neg (by omega)]
  have g:F (upd x a (x a+n)) k=F x k:=by unfold F; rw[e,if_neg (by omega)]
  refine⟨?_,?_,?_⟩
  ·rw[RU x a (by omega),f,g,adJ]; split <;> omega
  ·rw[f,g]; exact i
  unfold R; rw[e,if_neg (by omega)]; exact j
 unfold rz G
 have:=c 0 (by omega); have:=c 1 (by omega); have:=c 2 (by omega); have:=c 3 (by omega); have:=c 4 (by omega); have:=c 5 (by omega)
 omega
theorem Inv0.Jp(h:Inv0 L T) : ∀ k,k<L.nn->sH (L.R k):=fun k a=>⟨h.may k a,h.g47 k a⟩
theorem MS(h:Inv0 L T)(a:Nat) : ∀ i,i<6->aJ L.rn a (L.rn a+1) i<=T+1:=fun i b=>by
 unfold aJ
 by_cases e:i=a
 ·subst e; rw[if_pos rfl]; have:=h.rn i b; omega
 ·rw[if_neg e]; have:=h.rn i b; omega
theorem MU{q:Nat}{r:Nat->Int}(h : ∀ k,k<L.nn->sH (L.R k))(hr:sH r) : ∀ k,k<L.nn->sH (aJ L.R q r k):=fun k a=>by
 unfold aJ; split
 ·exact hr
 ·exact h k a
theorem Inv0.MV(h:Inv0 L T){x:Int}(hx : ¬ L.node x<0):(L.node x).toNat<L.nn:=by
 rw[h.node]at hx ⊢
 obtain⟨j,a,e,_⟩:=tX (show 0<=bB L.t L.tn x by omega)
 rw[e]; have:=h.Bj; simp; omega
theorem OI(h:Inv0 L T)(a : ∀ k,k<L.nn->sH ((lK L v).1 k)):Inv0 (kK L v) (T+1):=by
 unfold kK oP
 generalize lK L v=W at a
 exact FN h rfl rfl rfl rfl rfl rfl (Nat.succ_le_succ h.gn) (MS h _) a
theorem OJ(h:Inv0 L T)(a : ∀ k,k<L.nn->sH ((kL L v).1 k)):Inv0 (jF L v) (T+1):=by
 unfold jF oP
 generalize kL L v=W at a
 exact FN h rfl rfl rfl rfl rfl rfl (Nat.le_succ_of_le h.gn) (MS h _) a
theorem Sc(h:Inv0 L T)(f:dh v=true)(a:dM L v=0):Inv0 (iw L v) (T+1):=by
 have q:=lV f
 have o:=pX f
 have e:=h.gn
 have d : ∀ i,i<6->L.rn i<=T+1:=fun i n=>Nat.le_succ_of_le (h.rn i n)
 unfold dM at a
 unfold iw
 by_cases b:v.kind=1
 ·rw[if_pos b]at a ⊢; exact OH h f b a
 by_cases c:v.kind=2
 ·rw[if_neg b,if_pos c]at a ⊢
  unfold vF at a
  split at a; · cases a
  rename_i n1
  split at a; · cases a
  rename_i n2
  have p:=vG f (.inl c)
  exact FN h rfl rfl rfl rfl rfl rfl (Nat.le_succ_of_le e) d (MU h.Jp (R9 o (h.Jp _ (h.MV n1)) (by omega) n2))
 by_cases g:v.kind=3
 ·rw[if_neg b,if_neg c,if_pos g]at a ⊢
  have j : ∀ k,k<L.nn->sH ((lK L v).1 k):=by unfold lK; exact El (fun x=>VI) h.Jp _
  exact OI h j
 by_cases l:v.kind=4
 ·rw[if_neg b,if_neg c,if_neg g,if_pos l]at a ⊢
  have j : ∀ k,k<L.nn->sH ((kL L v).1 k):=by unfold kL; exact El (fun x=>VJ) h.Jp _
  exact OJ h j
 by_cases m:v.kind=5
 ·rw[if_neg b,if_neg c,if_neg g,if_neg l,if_pos m]at a ⊢
  unfold nK at a
  split at a; · cases a
  rename_i n1
  split at a; · cases a
  exact FN h rfl rfl rfl rfl rfl rfl (Nat.le_succ_of_le e) d (MU h.Jp (VK (h.Jp _ (h.MV n1)) a))
 rw[if_neg b,if_neg c,if_neg g,if_neg l,if_neg m]
 split
 ·exact FN h rfl rfl rfl rfl rfl rfl (Nat.le_succ_of_le e) d h.Jp
 exact FN h rfl rfl rfl rfl rfl rfl (Nat.le_succ_of_le e) d h.Jp
theorem zf(h:Inv0 L T):Inv0 (aW L v) (T+1):=by
 unfold aW
 by_cases a:bL L v=0
 ·rw[if_pos a]
  unfold bL at a
  split at a; · cases a
  rename_i h1
  split at a; · cases a
  split at a; · cases a
  rename_i h3
  split at a; · cases a
  have b:dh v=true:=by simpa using h1
  have c:eO L.known v=true:=by simpa using h3
  have g:=Sc h b a
  have k:=pX b
  have m:=CG b
  refine { g with kn:=fun i j => ?_ }
  have e:(FL (iw L v) v).known=aJ L.known (bA v) (L.known (bA v)+1):=by unfold FL; simp only[om]
  rw[e]
  unfold eO at c
  simp only[Bool.and_eq_true,decide_eq_true_eq]at c
  have d:=h.kn
  unfold aJ
  split
  ·have f:=c.1.2
   have l:v.seq=L.known (bA v)+1:=f
   have:=d (bA v) k
   omega
  exact d i j
 rw[if_neg a]; exact h.mono (Nat.le_succ T)
end
end Rt
end
section
namespace Rt
def G6(t:Nat->Nat->Int)(tn:Nat)(x y:Int):Nat->Int
 | 0=>0
 | k+1=>G6 t tn x y k+if bf t tn k x=y then 1 else 0
def Bl(t:Nat->Nat->Int)(tn:Nat)(x y:Int):Int:=G6 t tn x y (dn t tn x)
def oo(t:Nat->Nat->Int)(tn:Nat)(g:Nat->Int)(y:Int):Int:=if g 4=0 then g 3*Bl t tn (g 2) y else 0
def nk(t:Nat->Nat->Int)(tn:Nat)(g:Nat->Nat->Int)(y:Int):Nat->Int
 | 0=>0
 | q+1=>nk t tn g y q+oo t tn (g q) y
structure zh(L:gV):Prop where
 us : ∀ k,k<L.nn->mK (L.R k)=nk L.t L.tn L.g (L.id k) L.gn
 gb : ∀ q,q<L.gn->0<=bB L.t L.tn (L.g q 2)/\1<=L.g q 0/\L.g q 0<=6/\0<=L.g q 3/\L.g q 3<=1125899906842624
structure sI(v:EvM):Prop where
 aX:v.aX<=65536
 req:v.req<=256
structure OL(L:gV)(T:Nat):Prop where
 kt : ∀ i,i<6->L.known i<=T
 rb : ∀ k,k<L.nn -> ∀ a,a<54->L.R k a<=2097152*T
 rq : ∀ i,i<6 -> ∀ j,j<L.rn i->L.rq i j<=256
structure Inv(L:gV)(T:Nat):Prop extends Inv0 L T where
 s:zh L
 b:OL L T
section
variable {L:gV} {T:Nat} {v:EvM}
theorem G7{P:Nat->Bool} : ∀ {n i:Nat},i<lead P n->P i=true
 | 0,i,h=>absurd h (Nat.not_lt_zero _)
 | n+1,i,h=>by
   unfold lead at h
   by_cases e:lead P n=n/\P n=true
   ·rw[if_pos e]at h
    by_cases a:i=n
    ·rw[a]; exact e.2
    ·exact G7 (n:=n) (by omega)
   ·rw[if_neg e]at h; exact G7 h
theorem zV{t:Nat->Nat->Int}{tn i:Nat}{x:Int}(h:i<dn t tn x):0<=bB t tn (bf t tn i x):=of_decide_eq_true (G7 (P:=fun i=>decide (0<=bB t tn (bf t tn i x))) h)
theorem xP{t t':Nat->Nat->Int}{tn b:Nat}{g a:Nat->Nat->Int}{y c:Int} : ∀ n,(∀ q,q<n->oo t' b (a q) c=oo t tn (g q) y)->nk t' b a c n=nk t tn g y n
 | 0,_=>rfl
 | n+1,h=>by unfold nk; rw[xP n fun q d=>h q (by omega),h n (by omega)]
theorem FP{t:Nat->Nat->Int}{tn:Nat}{g:Nat->Nat->Int}{y:Int} : ∀ n,(∀ q,q<n->oo t tn (g q) y=0)->nk t tn g y n=0
 | 0,_=>rfl
 | n+1,h=>by unfold nk; rw[FP n fun q a=>h q (by omega),h n (by omega)]; rfl
theorem Jq{t:Nat->Nat->Int}{tn k:Nat}{g:Nat->Nat->Int}{x:Nat->Int}{y:Int} : ∀ n,k<n->nk t tn (aJ g k x) y n=nk t tn g y n-oo t tn (g k) y+oo t tn x y
 | 0,h=>absurd h (Nat.not_lt_zero _)
 | n+1,h=>by
   unfold nk
   by_cases e:k=n
   ·subst e
    rw[xP (t:=t) (tn:=tn) (g:=g) (y:=y) k fun q a=>by unfold aJ; rw[if_neg (by omega)]]
    unfold aJ; rw[if_pos rfl]; omega
   ·rw[Jq n (by omega)]
    have:aJ g k x n=g n:=if_neg (fun h=>e h.symm)
    rw[this]; omega
theorem Jr{t:Nat->Nat->Int}{tn k:Nat}{g:Nat->Nat->Int}{x:Nat->Int}{y:Int} : ∀ n,k<=n->nk t tn (bX g k x) y (n+1)=nk t tn g y n+oo t tn x y
 | 0,h=>by
   obtain rfl:k=0:=by omega
   show(0:Int)+oo t tn (bX g 0 x 0) y=0+_
   rw[dD]
 | n+1,h=>by
   by_cases e:k=n+1
   ·subst e
    show nk t tn (bX g (n+1) x) y (n+1)+oo t tn (bX g (n+1) x (n+1)) y=_
    rw[dD,xP (t:=t) (tn:=tn) (g:=g) (y:=y) (n+1) fun q a=>by rw[CV a]]
   ·show nk t tn (bX g k x) y (n+1)+oo t tn (bX g k x (n+1)) y=nk t tn g y n+oo t tn (g n) y+_
    rw[Jr n (by omega),CW (by omega),Nat.add_sub_cancel]; omega
def Sd(idx:Nat->Nat)(k:Nat):Nat->Int
 | 0=>0
 | j+1=>Sd idx k j+if idx j=k then 1 else 0
theorem Bn{f:(Nat->Int)->(Nat->Int) × Int}{idx:Nat->Nat}{R:Nat->Nat->Int}{d:Int}(e : ∀ x,(f x).2=0->mK (f x).1=mK x+d) : ∀ K,(cO f idx R K).2=0 -> ∀ k,mK ((cO f idx R K).1 k)=mK (R k)+d*Sd idx k K
 | 0,_,k=>by show mK (R k)=mK (R k)+d*0; omega
 | K+1,h,k=>by
   unfold cO at h ⊢
   by_cases a:(cO f idx R K).2=0
   ·have g:=Bn e K a k
    rw[if_pos a]at h ⊢
    by_cases b:(f ((cO f idx R K).1 (idx K))).2=0
    ·rw[if_pos b]
     show mK (aJ _ (idx K) _ k)=_
     unfold aJ Sd
     rw[Int.mul_add]
     by_cases c:k=idx K
     ·subst c
      rw[if_pos rfl,if_pos rfl,e _ b,g]; omega
     ·rw[if_neg c,if_neg (fun h=>c h.symm),g]; omega
    ·rw[if_neg b]at h; exact absurd h b
   ·rw[if_neg a]at h; exact absurd h a
theorem Lc{t:Nat->Nat->Int}{tn k:Nat}{x y:Int}{idx:Nat->Nat} : ∀ K,(∀ i,i<K->(idx i=k<->bf t tn i x=y))->Sd idx k K=G6 t tn x y K
 | 0,_=>rfl
 | K+1,h=>by
   unfold Sd G6
   rw[Lc K fun i b=>h i (by omega)]
   by_cases e:idx K=k
   ·rw[if_pos e,if_pos ((h K (by omega)).1 e)]
   ·rw[if_neg e,if_neg (fun a=>e ((h K (by omega)).2 a))]
theorem CY(h:Inv0 L T){x:Int}{i k:Nat}(g:k<L.nn)(hi:i<dn L.t L.tn x):mY L x i=k<->bf L.t L.tn i x=L.id k:=by
 obtain⟨j,f,e,c⟩:=tX (zV hi)
 have b:j<L.nn:=by rw[<- h.Bj]; exact f
 have l:mY L x i=j:=by unfold mY; rw[h.node,e]; rfl
 rw[l]
 have a:L.id j=bf L.t L.tn i x:=by rw[<- (h.tid j b).1]; exact c
 constructor
 ·rintro rfl; exact a.symm
 intro d; exact h.inj j k b g (a.trans d)
theorem Js{x:Nat->Int}{a:Nat}{n:Int}(ha:a<6):mK (upd x a n)=mK x:=by
 have b : ∀ k,C (upd x a n) k=C x k:=fun k=>fM _ _ _ _ (by omega)
 have c : ∀ k,F (upd x a n) k=F x k:=fun k=>fM _ _ _ _ (by omega)
 unfold mK; simp only[b,c]
theorem Sg(h:dh v=true)(b:v.kind=4):1<=v.req:=by
 unfold dh at h
 simp only[Bool.and_eq_true]at h
 have a:=h.2
 unfold dK at a
 rw[if_neg (by omega),if_neg (by omega),if_neg (by omega),if_pos b]at a
 simp only[Bool.and_eq_true,decide_eq_true_eq]at a
 exact a.1.1
theorem aam{n k:Nat}{g:Nat->Nat->Int}{x:Nat->Int}(a:k<=n)(P:(Nat->Int)->Prop)(h : ∀ q,q<n->P (g q))(hx:P x) : ∀ q,q<n+1->P (bX g k x q):=fun q b=>by
 rcases dO a b with rfl|⟨j,hj,e,_,_⟩
 ·rw[dD]; exact hx
 ·rw[e]; exact h j hj
attribute [local irreducible] dn in
theorem Ld(j:Inv0 L T)(h:zh L)(e:dh v=true)(b:v.kind=3)(a:iE L v=0):zh (kK L v):=by
 unfold iE at a
 split at a; · cases a
 split at a; · cases a
 rename_i hp
 have c:=qG e
 have l:=vG e (.inr (.inl b))
 unfold kK oP
 have p:=Bn (f:=fun x=>bE x v.o v.aX) (idx:=mY L v.node) (R:=L.R) (d:=v.aX) (fun x s=>by obtain⟨_,_,_,_,_,_,_,_,_,_,r,_⟩:=GU s; exact r) _ a
 refine⟨fun k b => ?_,fun q n => ?_⟩
 ·show mK ((lK L v).1 k)=nk L.t L.tn (bX L.g (down (fun i=>D9 v (L.g i)) L.gn) (uF v)) (L.id k) (L.gn+1)
  rw[Jr _ (Fx.xA _ _)]
  have:=p k
  rw[show oo L.t L.tn (uF v) (L.id k)=v.aX*Bl L.t L.tn v.node (L.id k)from rfl,<- h.us k b]
  unfold Bl
  rw[<- Lc (idx:=mY L v.node) (k:=k) _ fun i m=>CY j b m]
  exact this
 exact aam (Fx.xA _ _) (fun y=>0<=bB L.t L.tn (y 2)/\1<=y 0/\y 0<=6/\0<=y 3/\y 3<=1125899906842624) h.gb
  ⟨zV (i:=0) (x:=v.node) (by omega),c.1,c.2.1,by show 0<=v.aX; omega,l.2⟩ q n
attribute [local irreducible] dn in
theorem Le(s:Inv0 L T)(h:zh L)(z:dh v=true)(c:v.kind=4)(b:iq L v=0):zh (jF L v):=by
 unfold iq at b
 split at b; · cases b
 split at b; · cases b
 rename_i l
 have F:=Sg z c
 have E:0<=L.grant v.o v.of:=by rcases X8 (L.grant v.o v.of)with h|h; · exact absurd (.inl h) l
                                ·exact h
 have D:L.g (yE L v) 4=0:=by
  by_cases e:L.g (yE L v) 4=0
  ·exact e
  ·exact absurd (.inr e) l
 have n:yE L v<L.gn:=by
  rcases jf (fun i=>decide (L.g i 0=v.o)&&decide (L.g i 1=v.of)) L.gn with ⟨k,c,e,_⟩|⟨e,_⟩
  ·have m:L.grant v.o v.of=(k:Int):=e
   unfold yE; rw[m]; exact c
  ·have m:L.grant v.o v.of = -1:=e
   omega
 unfold jF oP kL
 unfold kL at b
 generalize yE L v=q at *
 have A:=Bn (f:=fun x=>bF x v.o (L.g q 3)) (idx:=mY L (L.g q 2)) (R:=L.R) (d := -(L.g q 3)) (fun x C=>by obtain⟨_,_,_,_,_,_,_,_,_,B,_⟩:=GV C; rw[B]; omega) _ b
 have u:=h.gb q n
 refine⟨fun k c => ?_,fun p l => ?_⟩
 ·show mK ((cO _ _ _ _).1 k)=nk L.t L.tn (aJ L.g q (aJ (L.g q) 4 v.req)) (L.id k) L.gn
  rw[Jq _ n,<- h.us k c,A k]
  have a:oo L.t L.tn (aJ (L.g q) 4 v.req) (L.id k)=0:=by
   unfold oo; rw[if_neg]; show ¬ v.req=0; omega
  have r:oo L.t L.tn (L.g q) (L.id k)=L.g q 3*Bl L.t L.tn (L.g q 2) (L.id k):=if_pos D
  rw[a,r]
  unfold Bl
  rw[<- Lc (idx:=mY L (L.g q 2)) (k:=k) _ fun i w=>CY s c w,Int.neg_mul]
  omega
 show 0<=bB L.t L.tn (aJ L.g q (aJ (L.g q) 4 v.req) p 2)/\1<=aJ L.g q (aJ (L.g q) 4 v.req) p 0/\aJ L.g q (aJ (L.g q) 4 v.req) p 0<=6/\0<=aJ L.g q (aJ (L.g q) 4 v.req) p 3/\aJ L.g q (aJ (L.g q) 4 v.req) p 3<=1125899906842624
 by_cases e:p=q
 ·subst e
  have a : ∀ j,j≠4->aJ L.g p (aJ (L.g p) 4 v.req) p j=L.g p j:=fun j y=>by
   show(if p=p then aJ (L.g p) 4 v.req else L.g p) j=_
   rw[if_pos rfl]; exact if_neg y
  rw[a 2 (by omega),a 0 (by omega),a 3 (by omega)]; exact u
 have a:aJ L.g q (aJ (L.g q) 4 v.req) p=L.g p:=if_neg e
 rw[a]; exact h.gb p l
theorem G8{a:gV}(h:zh L)(j:a.nn=L.nn)(l:a.id=L.id)(c:a.tn=L.tn)(d:a.t=L.t)(e:a.gn=L.gn)(f:a.g=L.g)(m : ∀ k,k<L.nn->mK (a.R k)=mK (L.R k)):zh a:=by
 refine⟨fun k b => ?_,fun q i => ?_⟩
 ·rw[j]at b; rw[l,c,d,e,f,m k b]; exact h.us k b
 rw[e]at i; rw[c,d,f]; exact h.gb q i
theorem Si{q:Nat}{r:Nat->Int}{R:Nat->Nat->Int}(hr:mK r=mK (R q))(k:Nat):mK (aJ R q r k)=mK (R k):=by
 unfold aJ; split
 ·rename_i e; rw[e]; exact hr
 rfl
theorem nL.path{t t':Nat->Nat->Int}{tn:Nat}{id par z y:Int}(h:nL t t' tn id par)(A:1<=id)(r : ∀ i,i<tn->t i 1=0\/0<=bB t tn (t i 1))(p : ∃ D,D<=4/\bB t tn (bf t tn D z)<0)(C:0<=bB t tn z) :
 Bl t' (tn+1) z y=Bl t tn z y/\(y=id->Bl t tn z y=0):=by
 obtain⟨D,w,g⟩:=p
 obtain⟨K,x,c,a⟩:=um D g
 have f:K=dn t tn z:=qF a c g (by omega)
 have d : ∀ i,i<=K->bf t' (tn+1) i z=bf t tn i z:=fun i b=>h.iter i fun j B=>a j (by omega)
 have k:bB t' (tn+1) (bf t' (tn+1) K z)<0:=by
  rw[d K (Nat.le_refl _)]
  rcases X8 (bB t' (tn+1) (bf t tn K z))with h1|h1
  ·exact h1
  ·exfalso
   rcases h.find.1 h1 with h2|h2
   ·omega
   ·cases K with
    | zero=>have:bB t tn z<0:=c; omega
    | succ K =>
      obtain⟨i,b,e⟩:=gX.1 (a K (by omega))
      have l:bf t tn (K+1) z=t i 1:=by
       show t (bB t tn (bf t tn K z)).toNat 1=t i 1
       rw[<- e,uj h.u b]; rfl
      rw[l]at h2 c
      rcases r i b with h4|h4
      ·omega
      ·omega
 have m:K=dn t' (tn+1) z:=qF (fun i b=>by rw[d i (by omega)]; exact h.find.2 (.inl (a i b))) k k (by omega)
 have o : ∀ n,n<=K->G6 t' (tn+1) z y n=G6 t tn z y n:=by
  intro n
  induction n with
  | zero=>intro _; rfl
  | succ n ih=>intro q; unfold G6; rw[ih (by omega),d n (by omega)]
 refine⟨?_,fun s => ?_⟩
 ·unfold Bl; rw[<- f,<- m]; exact o K (Nat.le_refl _)
 subst s
 have : ∀ n,n<=K->G6 t tn z y n=0:=by
  intro n
  induction n with
  | zero=>intro _; rfl
  | succ n ih =>
    intro q; unfold G6
    rw[ih (by omega),if_neg]
    ·rfl
    ·intro e
     have:=a n (by omega)
     rw[e]at this
     have v:=uh.2 h.no
     omega
 unfold Bl; rw[<- f]; exact this K (Nat.le_refl _)
attribute [local irreducible] dn in
theorem Lf(a:Inv0 L T)(h:zh L)(l:dh v=true)(s:v.kind=1)(r:jE L v=0):zh (oM L v):=by
 obtain⟨k,u,A,E,D,B,C,p,F,G,n⟩:=vH a l s r
 have z:=pX l
 rw[p]
 generalize jd v.o v.seq=x at *
 have w : ∀ i,i<L.tn->L.t i 1=0\/0<=bB L.t L.tn (L.t i 1):=fun i c=>by
  have d:=c
  rw[a.Bj]at d
  rw[(a.tid i d).2]
  rcases a.up i d with e|⟨j,hj,e⟩
  ·exact .inl e
  ·exact .inr (gX.2 ⟨j,by rw[a.Bj]; exact hj,by rw[(a.tid j hj).1]; exact e⟩)
 have m : ∀ q,q<L.gn -> ∀ y,Bl (nI L.t k x v.node) (L.tn+1) (L.g q 2) y=Bl L.t L.tn (L.g q 2) y/\(y=x->Bl L.t L.tn (L.g q 2) y=0):=fun q b y=>n.path A w (a.dep _) (h.gb q b).1
 refine⟨fun i c => ?_,fun q b => ?_⟩
 ·show mK (bX L.R k (upd (fun _=>0) (bA v) v.aX) i)=nk (nI L.t k x v.node) (L.tn+1) L.g (bX L.id k x i) L.gn
  rw[xP (t:=L.t) (tn:=L.tn) (g:=L.g) (y:=bX L.id k x i) L.gn fun q b=>by unfold oo; rw[(m q b _).1]]
  rcases dO u c with rfl|⟨j,hj,e,_,_⟩
  ·rw[dD,dD,Js z,FP L.gn fun q b=>by unfold oo; rw[(m q b _).2 rfl,Int.mul_zero]; exact ite_self _]
   rfl
  rw[e,e]; exact h.us j hj
 have f:=h.gb q b
 exact⟨n.find.2 (.inl f.1),f.2⟩
theorem FQ(g:Inv0 L T)(h:zh L)(c:dh v=true)(a:dM L v=0):zh (iw L v):=by
 have m:=lV c
 have l:=pX c
 unfold dM at a
 unfold iw
 by_cases b:v.kind=1
 ·rw[if_pos b]at a ⊢; exact Lf g h c b a
 by_cases d:v.kind=2
 ·rw[if_neg b,if_pos d]at a ⊢
  exact G8 h rfl rfl rfl rfl rfl rfl fun k _=>Si (Js l) k
 by_cases e:v.kind=3
 ·rw[if_neg b,if_neg d,if_pos e]at a ⊢; exact Ld g h c e a
 by_cases f:v.kind=4
 ·rw[if_neg b,if_neg d,if_neg e,if_pos f]at a ⊢; exact Le g h c f a
 by_cases i:v.kind=5
 ·rw[if_neg b,if_neg d,if_neg e,if_neg f,if_pos i]at a ⊢
  unfold nK at a
  split at a; · cases a
  split at a; · cases a
  obtain⟨_,_,_,_,_,_,_,_,_,_,j,_⟩:=GR a
  exact G8 h rfl rfl rfl rfl rfl rfl fun k _=>Si j.u k
 rw[if_neg b,if_neg d,if_neg e,if_neg f,if_neg i]
 split
 ·exact G8 h rfl rfl rfl rfl rfl rfl fun _ _=>rfl
 exact G8 h rfl rfl rfl rfl rfl rfl fun _ _=>rfl
theorem Sj{t:Nat->Nat->Int}{tn D:Nat}{x:Int}(h:bB t tn (bf t tn D x)<0):dn t tn x<=D:=by
 rcases Nat.lt_or_ge D (dn t tn x)with h1|h1
 ·have:=zV h1; omega
 exact h1
theorem Inv0.aeb(h:Inv0 L T)(x:Int):dn L.t L.tn x<=4:=by
 obtain⟨D,b,a⟩:=h.dep x
 have:=Sj a; omega
theorem zW{x:Nat->Int}{p:Nat}{n c:Int}(h : ∀ a,a<54->x a<=c)(d:n<=c) : ∀ a,a<54->upd x p n a<=c:=fun a b=>by
 show(if a=p then n else x a)<=c
 split
 ·exact d
 ·exact h a b
theorem Em{f:(Nat->Int)->(Nat->Int) × Int}{idx:Nat->Nat}{R:Nat->Nat->Int}{n:Nat}{B d:Int}(o:0<=d)(m : ∀ x c,(f x).2=0->(∀ a,a<54->x a<=c) -> ∀ a,a<54->(f x).1 a<=c+d)(j : ∀ k,k<n -> ∀ a,a<54->R k a<=B) : ∀(K:Nat) k,k<n -> ∀ a,a<54->(cO f idx R K).1 k a<=B+d*(K:Int)
 | 0,k,hk,a,ha=>by have h:=j k hk a ha; show R k a<=B+d*0; omega
 | K+1,k,hk,a,ha=>by
   have b:=Em o m j (idx:=idx) K
   have e:d*((K+1:Nat):Int)=d*(K:Int)+d:=by rw[Int.natCast_succ,Int.mul_add,Int.mul_one]
   rw[e]
   unfold cO
   by_cases l:(cO f idx R K).2=0
   ·rw[if_pos l]
    by_cases g:(f ((cO f idx R K).1 (idx K))).2=0
    ·rw[if_pos g]
     show(if k=idx K then _ else _:Nat->Int) a<=_
     by_cases i:k=idx K
     ·rw[if_pos i]
      have:=m _ (B+d*(K:Int)) g (by rw[<- i]; exact b k hk) a ha; omega
     ·rw[if_neg i]; have:=b k hk a ha; omega
    ·rw[if_neg g]; have:=b k hk a ha; show(cO f idx R K).1 k a<=_; omega
   ·rw[if_neg l]; have:=b k hk a ha; omega
theorem Sk{i n c:Int}{x:Nat->Int}(g:n<=65536)(h:(bE x i n).2=0)(hx : ∀ a,a<54->x a<=c) : ∀ a,a<54->(bE x i n).1 a<=c+65536:=by
 obtain⟨a,f,_,_,_,_,_,_,_,_,_,e⟩:=GU h
 rw[e]
 have:=hx (6+a) (by omega)
 exact zW (fun b d=>by have:=hx b d; omega) (by omega)
theorem Sl{i n c:Int}{x:Nat->Int}(h:(bF x i n).2=0)(hx : ∀ a,a<54->x a<=c) : ∀ a,a<54->(bF x i n).1 a<=c+0:=by
 obtain⟨a,g,_,_,_,b,_,_,_,_,e⟩:=GV h
 rw[e,Int.add_zero]
 have d:=hx (6+a) (by omega)
 have f:n<=x (6+a)-x (12+a):=b
 exact zW hx (by omega)
theorem MW(h:OL L T){a:Nat}{r:Int}(hr:r<=256) : ∀ i,i<6 -> ∀ j,j<aJ L.rn a (L.rn a+1) i->aJ L.rq a (aJ (L.rq a) (L.rn a) r) i j<=256:=fun i d j b=>by
 unfold aJ at b ⊢
 by_cases e:i=a
 ·subst e
  rw[if_pos rfl]at b ⊢
  by_cases c:j=L.rn i
  ·rw[if_pos c]; exact hr
  ·rw[if_neg c]; exact h.rq i d j (by omega)
 ·rw[if_neg e]at b ⊢; exact h.rq i d j b
attribute [local irreducible] dn in
theorem OM(A:Inv0 L T)(h:OL L T)(E:sI v)(D:dh v=true)(d:dM L v=0) :
 (∀ k,k<(iw L v).nn -> ∀ a,a<54->(iw L v).R k a<=2097152*((T+1:Nat):Int))/\(∀ i,i<6 -> ∀ j,j<(iw L v).rn i->(iw L v).rq i j<=256):=by
 have m:=lV D
 have ab:=pX D
 have V:(0:Int)<=(T:Int):=Int.natCast_nonneg _
 have X:((T+1:Nat):Int)=(T:Int)+1:=Int.natCast_succ _
 have u : ∀ k,k<L.nn -> ∀ a,a<54->L.R k a<=2097152*((T+1:Nat):Int):=fun k m a l=>by have:=h.rb k m a l; omega
 have G : ∀ q r,(∀ a,a<54->r a<=2097152*((T+1:Nat):Int)) -> ∀ k,k<L.nn -> ∀ a,a<54->aJ L.R q r k a<=2097152*((T+1:Nat):Int):=fun q r O k m a l=>by
  unfold aJ; split
  ·exact O a l
  ·exact u k m a l
 have P:=E.aX
 unfold dM at d
 unfold iw
 by_cases s:v.kind=1
 ·rw[if_pos s]at d ⊢
  obtain⟨k,N,ae,Z,Y,Q,S,I,aa,ac,ad⟩:=vH A D s d
  rw[I]
  refine⟨fun i M a l => ?_,h.rq⟩
  show bX L.R k (upd (fun _=>0) (bA v) v.aX) i a<=_
  rcases dO N M with rfl|⟨j,hj,e,_,_⟩
  ·rw[dD]
   exact zW (c:=2097152*((T+1:Nat):Int)) (fun b _=>by omega) (by omega) a l
  rw[e]; exact u j hj a l
 by_cases z:v.kind=2
 ·rw[if_neg s,if_pos z]at d ⊢
  unfold vF at d
  split at d; · cases d
  rename_i n1
  split at d; · cases d
  have w:=A.MV n1
  have J:=h.rb _ w (bA v) (by omega)
  exact⟨G _ _ (zW (fun b B=>u _ w b B) (by omega)),h.rq⟩
 by_cases C:v.kind=3
 ·rw[if_neg s,if_neg z,if_pos C]at d ⊢
  have y : ∀ k,k<L.nn -> ∀ a,a<54->(lK L v).1 k a<=2097152*((T+1:Nat):Int):=fun k m a l=>by
   have U:=A.aeb v.node
   have:=Em (f:=fun x=>bE x v.o v.aX) (idx:=mY L v.node) (by decide) (fun x c=>Sk P) h.rb (dn L.t L.tn v.node) k m a l
   unfold lK; omega
  unfold kK oP
  generalize lK L v=W at y
  exact⟨y,MW h E.req⟩
 by_cases F:v.kind=4
 ·rw[if_neg s,if_neg z,if_neg C,if_pos F]at d ⊢
  have y : ∀ k,k<L.nn -> ∀ a,a<54->(kL L v).1 k a<=2097152*((T+1:Nat):Int):=fun k m a l=>by
   have:=Em (f:=fun x=>bF x v.o (L.g (yE L v) 3)) (idx:=mY L (L.g (yE L v) 2)) (Int.le_refl 0) (fun x c=>Sl) h.rb (dn L.t L.tn (L.g (yE L v) 2)) k m a l
   unfold kL; omega
  unfold jF oP
  generalize kL L v=W at y
  exact⟨y,MW h E.req⟩
 by_cases H:v.kind=5
 ·rw[if_neg s,if_neg z,if_neg C,if_neg F,if_pos H]at d ⊢
  unfold nK at d
  split at d; · cases d
  rename_i n1
  split at d; · cases d
  have w:=A.MV n1
  obtain⟨a,b,l,B,_,_,_,_,_,_,_,e⟩:=GR d
  have J:=h.rb _ w (18+a*6+b) (by omega)
  have K:=G (L.node v.node).toNat _ (zW (x:=L.R (L.node v.node).toNat) (p:=18+a*6+b) (n:=L.R (L.node v.node).toNat (18+a*6+b)+v.aX) (fun b B=>u _ w b B) (by omega))
  refine⟨?_,h.rq⟩
  show ∀ k,k<L.nn -> ∀ c,c<54->aJ L.R (L.node v.node).toNat (wW L v).1 k c<=_
  unfold wW
  rw[e]; exact K
 rw[if_neg s,if_neg z,if_neg C,if_neg F,if_neg H]
 split
 ·exact⟨u,h.rq⟩
 exact⟨u,h.rq⟩
theorem OL.mono{T':Nat}(h:OL L T)(e:T<=T'):OL L T' where
 kt:=fun i c=>by have:=h.kt i c; omega
 rb:=fun k d a b=>by have:=h.rb k d a b; omega
 rq:=h.rq
theorem FT(j:sI v)(h:Inv L T):Inv (aW L v) (T+1):=by
 refine⟨zf h.toInv0,?_,?_⟩ <;> unfold aW <;> by_cases a:bL L v=0
 ·rw[if_pos a]
  unfold bL at a
  split at a; · cases a
  rename_i d
  split at a; · cases a
  split at a; · cases a
  split at a; · cases a
  have e:dh v=true:=by simpa using d
  have c:=FQ h.toInv0 h.s e a
  exact⟨c.us,c.gb⟩
 ·rw[if_neg a]; exact h.s
 ·rw[if_pos a]
  unfold bL at a
  split at a; · cases a
  rename_i d
  split at a; · cases a
  split at a; · cases a
  split at a; · cases a
  have e:dh v=true:=by simpa using d
  have c:=OM h.toInv0 h.b j e a
  refine⟨fun i g => ?_,c.1,c.2⟩
  have f:(FL (iw L v) v).known=aJ L.known (bA v) (L.known (bA v)+1):=by unfold FL; simp only[om]
  rw[f]
  have d:=h.b.kt i g
  have k:=h.b.kt (bA v) (pX e)
  unfold aJ
  split <;> omega
 rw[if_neg a]; exact h.b.mono (Nat.le_succ T)
theorem Inv.mono{T':Nat}(h:Inv L T)(a:T<=T'):Inv L T':=⟨h.toInv0.mono a,h.s,h.b.mono a⟩
end
end Rt
end
section
namespace Rt
def CZ(e:Nat->EvM):Nat->Value:=flat 14 fun k=>bO (e k)
noncomputable def pz(e:Nat->EvM)(K:Nat->Int)(L:gV):Nat->gV
 | 0=>L
 | j+1=>if(e j).seq<=K (bA (e j))then aW (pz e K L j) (e j)else pz e K L j
def Jt(L M:gV):Prop := ∀ i,i<6->L.known i=M.known i
open Classical in
noncomputable def kM(e:Nat->EvM)(n:Nat)(K:Nat->Int):Nat->gV->gV
 | 0,L=>L
 | f+1,L=>if Jt (pz e K L n) L then pz e K L n else kM e n K f (pz e K L n)
noncomputable def En(e:Nat->EvM)(n:Nat)(K:Nat->Int)(L:gV):gV:=kM e n K (n+1) L
section
variable {e:Nat->EvM} {K:Nat->Int} {L M M':gV} {j n r:Nat}
theorem Sm(h:M=pz e K L j)(b:(e j).seq<=K (bA (e j)))(a:M'=aW M (e j)):M'=pz e K L (j+1):=by unfold pz; rw[if_pos b,<- h,a]
theorem VL(h:M=pz e K L j)(a : ¬ (e j).seq<=K (bA (e j))):M=pz e K L (j+1):=by unfold pz; rw[if_neg a,<- h]
theorem OO(hr:r<=n)(h:M=pz e K L n)(a:Jt M L):kM e n K (n+1-r) L=M:=by
 rw[show n+1-r=(n-r)+1 by omega]; unfold kM; rw[<- h,if_pos a]
theorem Sn(hr:r<=n)(h:M=pz e K L n)(a : ¬ Jt M L):kM e n K (n+1-(r+1)) M=kM e n K (n+1-r) L:=by
 rw[show n+1-r=(n-r)+1 by omega,show n+1-(r+1)=n-r by omega]
 conv=>rhs; unfold kM
 rw[<- h,if_neg a]
theorem FU{m a:jK}:Jt m.core a.core <-> ∀ i,i<6->(rv .u64 m.s.known) i=(rv .u64 a.s.known) i:=by
 unfold Jt rv
 simp only[Value.int.injEq,true_and]; exact Iff.rfl
end
theorem EO.kd{K:Nat->Int}(h:EO K):Fx.Kd (List.replicate 6 (some .u64)) (rv .u64 K):=Fx.Dm fun i a=>Fx.rE (by have:=h i a; omega)
end Rt
attribute [irreducible] Rt.kM
set_option maxRecDepth 20000 in
theorem VN(m:jK)(B p T:Nat)(O:Option Addr)(an E:Nat)(ev:Nat->EvM)(K:Nat->Int)(w:World)(hL:su w B p m)(hI:Inv m.core T)(hA:ku w O an 14 (CZ ev))(hwf : ∀ k,k<an->fC (ev k))(hmay : ∀ k,k<an->dh (ev k)=true)(hsm : ∀ k,k<an->sI (ev k))(han:an<=60)(hT:T<=890000) :
 Calls Tryz.prog 37 #[(pt p),.slice O (an) (E),.agg (aA 6 (rv .u64 K))] w fun e w' => ∃ p' m',e = .returned ((pt p'))/\m'.core=En ev an K m.core/\Inv m'.core (T+3660)/\su w' B p' m'/\Below w.heap.size w w':=by
 refine Kent Tryz.func37 59 ?_
 refine ay<|pK fun H w1 kV g s1 z1 => ?_
 have⟨l,b1⟩:=eG s1.old hL (Below.refl w.heap.size w)
 have tL:=gH kV
 have vR:=g.lt
 refine av (.pointer none)<|aC<|Ws<|ay<|av (au 0)<|aC<|Wb<|Wo (fun f z => ∃ r:Nat,∃ x:Nat,∃ g:jK,∃ N:Nat,r<=an+1/\kM ev an K (an+1-r) g.core=En ev an K m.core/\Inv g.core N/\N<=T+r*60/\f 0=(pt x)/\f 1 = .slice O (an) (E)/\f 5=(pt H)/\f 7=au ((r:Int))/\aP z H 6 (rv .u64 K) 30/\su z B x g/\Below w.heap.size w z) (fun f _=>(an+1-(intOf (f 7)).toNat)) ⟨0,p,m,T,by omega,rfl,hI,by omega,(by rfl),(by rfl),(by rfl),Fx.ic,g,l,b1⟩ ?_
 rintro f1 w2 ⟨r,x,g,N,hr,hc1,S,hT1,h1,h2,h3,h4,m3,m4,b2⟩
 refine Ws<|ay<|aS h4<|aS h2<|av (au an) ?_
 by_cases c13:(r:Int)<=(an:Int)
 ·refine Lv aG (mD c13)<|aC<|aM<|Wk<|sN<|Ws<|Wb<|Ws ?_
  have VO:=m4.c
  refine Wl<|aS h1<|av ((pt x))<|av ((pt x))<|av ((pf x 12))<|Lv (.agg (aA 6 (rv .u64 g.s.known))) (fA VO.aH 12 (fun j V=>jD _ (by omega) (iY _ V (by omega))))<|wC 6 (rv .u64 (fun _=>0)) fun g2 w3 xH m5 s2 z2 => ?_
  have⟨m6,m7,b3⟩:=jk s2.old m3 m4 b2
  have qO:=jc xH b2.size
  have⟨adA,aec⟩:=wM xH m3.lt VO.lt
  have zJ:=m5.lt
  refine fB m5 0 fun w4 m9 s3 z3 => ?_
  have m10:aP w4 g2 6 (rv .u64 g.s.known) 30:=aU m9
  have m11:=m6.bZ s3 (by omega)
  have gI:=gY s3 m5.ty
  have m12:=kR gI m7
  have b4:=s3.below b3 b3.size (by omega)
  refine aC<|Ws<|ay<|av (au 0)<|aC<|Wb<|Wo (fun f z => ∃ j:Nat,∃ u:Nat,∃ l:jK,∃ A:Nat,j<=an/\l.core=pz ev K g.core j/\Inv l.core A/\A<=T+r*60+j/\f 0=(pt u)/\f 1 = .slice O (an) (E)/\f 5=(pt H)/\f 7=au ((r:Int))/\f 8=(pt g2)/\f 9=au ((j:Int))/\aP z H 6 (rv .u64 K) 30/\aP z g2 6 (rv .u64 g.s.known) 30/\su z B u l/\Below w.heap.size w z) (fun f _=>(an-(intOf (f 9)).toNat)) ⟨0,x,g,N,by omega,rfl,S,by omega,h1,h2,h3,(h4.trans Fx.ic),(by rfl),Fx.ic,m11,m10,m12,b4⟩ ?_
  rintro f2 t ⟨j,u,l,A,V,U,D,hT2,I,C,R,h8,h9,y,W,m15,J,G⟩
  refine Ws<|ay<|aS y<|aS C<|av (au an) ?_
  by_cases c24:(j:Int)<(an:Int)
  ·refine Lv aG (gy c24)<|aC<|aM<|Wk<|sN<|Ws<|Wb<|Ws ?_
   obtain⟨a,ha,ho⟩:=eY (iy (hmay j (by omega)))
   have eN:bA (ev j)=a:=by unfold bA; omega
   -- region 8 draws
   refine wh<|dS C<|dS y ?_
   obtain⟨F,L,eq1,Z⟩:=(hA.up G rfl) (by omega)
   have aed:F<t.heap.size:=Z.lt (by omega)
   refine Qv ((pf F (14*j+L))) (fun b d=>cu 14 (hx:=(rfl.trans (congrArg (fun q=>Value.slice q (an) (E)) eq1))))<|aR ((pf F (14*j+L+1)))<|Qv (aD ((ev j).seq)) (fun b d=>aL (Z.dr d) (14*j+1) (Fx.gW (k:=j) (j:=1) (by omega) (by omega) rfl))<|dS C<|dS y<|Qv ((pf F (14*j+L))) (fun b d=>cu 14 (hx:=(rfl.trans (congrArg (fun q=>Value.slice q (an) (E)) eq1))))<|aR ((pf F (14*j+L)))<|Qv (au ((ev j).o)) (fun b d=>aL (Z.dr d) (14*j) (Fx.gW (k:=j) (j:=0) (by omega) (by omega) rfl))<|Qv (au a) (fun b d=>fO)<|Qv ((pf H a)) (fun b d=>je 6 1 (hx:=R))<|Qv (aD (K a)) (fun b d=>aL (W.aH.dr d) a) ?_
   by_cases P:((ev j).seq)<=(K a)
   ·refine Qv aG (fun b d=>mD P)<|Qn ?_
    rintro _ ⟨v,rfl⟩
    obtain⟨BI,qD⟩ : ∃ b,b=World.drewN t v:=⟨_,rfl⟩
    rw[<- qD]
    have s4:Stp t.heap.size t BI:=by rw[qD]; exact Sb (iU t v)
    have⟨m18,m19,m20,m21,b6⟩:=qm s4.old W m15 J Z G
    clear qD
    refine sN<|aM<|Wl<|aS I<|aS C<|aS y<|Lv ((pf F (14*j+L))) (cu 14 (hx:=(rfl.trans (congrArg (fun q=>Value.slice q (an) (E)) eq1))))<|Lv (.agg (aA 14 (bO (ev j)))) (fA m21 (14*j) (fun jq hjq=>Fx.iT (k:=j) (by omega) hjq))<|jM (G5 l B u A (ev j) _ m20 (hwf j (by omega)) D.w (by omega)) ?_
    rintro e9 w6 ⟨M,m3,he,hc3,hL1,hb1⟩
    refine⟨.tuple #[(pt M),au (bL l.core (ev j))],he,?_⟩
    clear he
    have⟨m22,m23,b7⟩:=jk hb1 m18 m19 b6
    refine av (.tuple #[(pt M),au (bL l.core (ev j))])<|av ((pt M))<|av (au (bL l.core (ev j)))<|av ((pt M))<|Ln<|bP<|sN<|Wl<|aS y<|Lv (au ((j:Int)+1)) eZ<|av (au ((j:Int)+1))<|Ln<|gJ ⟨j+1,M,m3,A+1,by omega,(Sm U (by rw[eN]; exact P) hc3),(by rw[hc3]; exact FT (hsm j (by omega)) D),by omega,(by rfl),C,R,(h8.trans Fx.ic),h9,Fx.ic,m22,m23,hL1,b7⟩ ?_
    show(an-(intOf ((au ((j:Int)+1)))).toNat)<_
    simp only[y,intOf]; omega
   refine Qv aF (fun b d=>mV P)<|Qn ?_
   rintro _ ⟨v,rfl⟩
   obtain⟨wq2,vg⟩ : ∃ b,b=World.drewN t v:=⟨_,rfl⟩
   rw[<- vg]
   have s6:Stp t.heap.size t wq2:=by rw[vg]; exact Sb (iU t v)
   have⟨lW,mR,nY,b8⟩:=mF s6.old W m15 J G
   clear vg
   refine sN<|aK<|Wk<|bP<|sN<|Wl<|aS y<|Lv (au ((j:Int)+1)) eZ<|av (au ((j:Int)+1))<|Ln<|gJ ⟨j+1,u,l,A,by omega,(VL U (by rw[eN]; exact P)),D,by omega,I,C,R,(h8.trans Fx.ic),h9,Fx.ic,lW,mR,nY,b8⟩ ?_
   show(an-(intOf ((au ((j:Int)+1)))).toNat)<_
   simp only[y,intOf]; omega
  refine Lv aF (gD c24)<|aC<|aK<|Wx<|bV<|fU<|bW<|sN<|Ws ?_
  have akB:=J.c
  -- region 10 draws
  refine wh<|dS I<|aR ((pt u))<|aR ((pt u))<|aR ((pf u 12))<|Qv (.agg (aA 6 (rv .u64 l.s.known))) (fun b d=>fA (akB.aH.dr d) 12 (fun j V=>jD _ (by omega) (iY _ V (by omega))))<|Qv (.agg (aA 6 (rv .u64 g.s.known))) (fun b d=>fA (m15.aH.dr d) 0 (ha:=h9)) ?_
  by_cases Q : ∀ i,i<6->(rv .u64 l.s.known) i=(rv .u64 g.s.known) i
  ·refine Qv aG (fun b d=>Fx.wH (n:=6) (ks:=List.replicate 6 (some .u64)) (X:=rv .u64 l.s.known) (Y:=rv .u64 g.s.known) 12 true rfl rfl rfl (Fx.EJ Q) (EO.kd D.kn) (EO.kd S.kn) rfl (by kernel_rfl) (by kernel_rfl) (by kernel_rfl) (by kernel_rfl) (by kernel_rfl))<|Qn ?_
   rintro _ ⟨v,rfl⟩
   obtain⟨Oy,Ee⟩ : ∃ b,b=World.drewN t v:=⟨_,rfl⟩
   rw[<- Ee]
   have s7:Stp t.heap.size t Oy:=by rw[Ee]; exact Sb (iU t v)
   have⟨lH,b9⟩:=eG s7.old J G
   clear Ee
   refine sN<|aM<|ay<|aS I<|av ((pt u))<|aC<|Wr<|bK<|sR<|oQ<|bK<|sR<|aI ((pt u)) ?_
   exact⟨u,l,rfl,((OO (n:=an) (r:=r) (by omega) (by rw[show an=j by omega]; exact U) (FU.2 Q)).symm.trans hc1),D.mono (by omega),lH,b9⟩
  refine Qv aF (fun b d=>Fx.wH (n:=6) (ks:=List.replicate 6 (some .u64)) (X:=rv .u64 l.s.known) (Y:=rv .u64 g.s.known) 12 false rfl rfl rfl (Fx.nob Q) (EO.kd D.kn) (EO.kd S.kn) rfl (by kernel_rfl) (by kernel_rfl) (by kernel_rfl) (by kernel_rfl) (by kernel_rfl))<|Qn ?_
  rintro _ ⟨v,rfl⟩
  obtain⟨ZX,Ef⟩ : ∃ b,b=World.drewN t v:=⟨_,rfl⟩
  rw[<- Ef]
  have s8:Stp t.heap.size t ZX:=by rw[Ef]; exact Sb (iU t v)
  have⟨oI,oJ,b10⟩:=jk s8.old W J G
  clear Ef
  refine sN<|aK<|Wk<|bP<|sN<|Wl<|aS h8<|Lv (au ((r:Int)+1)) eZ<|av (au ((r:Int)+1))<|Ln<|gJ ⟨r+1,u,l,A,by omega,(Sn (by omega) (by rw[show an=j by omega]; exact U) (fun h=>Q (FU.1 h))).trans hc1,D,by omega,I,C,R,Fx.ic,oI,oJ,b10⟩ ?_
  show(an+1-(intOf ((au ((r:Int)+1)))).toNat)<_
  simp only[h4,intOf]; omega
 refine Lv aF (mV c13)<|aC<|aK<|Wx<|bV<|fU<|bW<|sN<|ay<|aS h1<|av ((pt x))<|aC<|Wr<|aI ((pt x)) ?_
 exact⟨x,g,rfl,(by rw[<- hc1,show an+1-r=0 by omega]; unfold kM; rfl),S.mono (by omega),m4,b2⟩
end
section
namespace Rt
def zeroE:EvM:=⟨0,0,fun _=>0,0,0,0,0,0,0⟩
def nM(ev:Nat->EvM):Nat->Nat->Int
 | 0,_=>0
 | k+1,i=>nM ev k i+if bA (ev k)=i then 1 else 0
structure KnC(ev:Nat->EvM)(an:Nat)(K:Nat->Int):Prop where
 le : ∀ i,i<6->K i<=nM ev an i
 cl : ∀ k,k<an->(ev k).seq<=K (bA (ev k)) -> ∀ i,i<6->(ev k).deps i<=K i
structure Cz(n an:Nat)(ev:Nat->EvM)(kn:Nat->Nat->Int):Prop where
 rd : ∀ k,k<an->eO (nM ev k) (ev k)=true
 reg : ∀ k,k<an->bA (ev k)<n
 own : ∀ o,o<n->kn o o=nM ev an o
 kc : ∀ o,o<n->KnC ev an (kn o)
section
variable {ev:Nat->EvM} {an n j k i:Nat} {K:Nat->Int} {kn kn':Nat->Nat->Int} {v:EvM} {L:gV}
theorem Sq : ∀ d k i,nM ev k i<=nM ev (k+d) i
 | 0,_,_=>Int.le_refl _
 | d+1,k,i=>by have:=Sq d k i; show _<=nM ev (k+d) i+_; split <;> omega
theorem cnt_mono(h:j<=k):nM ev j i<=nM ev k i:=by have:=Sq (ev:=ev) (k-j) j i; rwa [show j+(k-j)=k by omega]at this
theorem G9(h:j<k):nM ev j (bA (ev j))+1<=nM ev k (bA (ev j)):=by
 have a:nM ev (j+1) (bA (ev j))<=nM ev k (bA (ev j)):=cnt_mono (by omega)
 have b:nM ev (j+1) (bA (ev j))=nM ev j (bA (ev j))+1:=by show _+(if _ then _ else _)=_; rw[if_pos rfl]
 omega
theorem rdy(h:eO K v=true):dh v=true/\v.seq=K (bA v)+1 /\ ∀ i,i<6->v.deps i<=K i:=by
 unfold eO at h
 simp only[Bool.and_eq_true,decide_eq_true_eq]at h
 refine⟨h.1.1,h.1.2,fun i a => ?_⟩
 have:=h.2
 unfold wS at this
 rw[List.all_eq_true]at this
 exact of_decide_eq_true (this i (List.mem_range.2 a))
theorem aao(h1:dh v=true)(a:v.seq=K (bA v)+1)(b : ∀ i,i<6->v.deps i<=K i):eO K v=true:=by
 unfold eO
 simp only[Bool.and_eq_true,decide_eq_true_eq]
 refine⟨⟨h1,a⟩,?_⟩
 unfold wS
 rw[List.all_eq_true]
 intro i c
 exact decide_eq_true (b i (List.mem_range.1 c))
theorem Cz.seq(h:Cz n an ev kn)(a:k<an):(ev k).seq=nM ev k (bA (ev k))+1:=(rdy (h.rd k a)).2.1
theorem Cz.Lg(h:Cz n an ev kn)(a:k<an):(ev k).seq<=nM ev an (bA (ev k)):=by rw[h.seq a]; exact G9 a
theorem Cz.uniq(h:Cz n an ev kn)(c:j<an)(d:k<an)(b:bA (ev j)=bA (ev k))(a:(ev j).seq=(ev k).seq):j=k:=by
 rw[h.seq c,h.seq d]at a
 rcases Nat.lt_trichotomy j k with h1|h1|h1
 ·have:=G9 (ev:=ev) h1; rw[b]at this a; omega
 ·exact h1
 have:=G9 (ev:=ev) h1; rw[<- b]at this a; omega
theorem Cz.step(h:Cz n an ev kn)(c:KnC ev an K)(d:j<an)(hr:eO K (ev j)=true):KnC ev an (aJ K (bA (ev j)) (K (bA (ev j))+1)):=by
 obtain⟨_,l,m⟩:=rdy hr
 have g : ∀ i,K i<=aJ K (bA (ev j)) (K (bA (ev j))+1) i:=fun i=>by unfold aJ; split <;> (try subst_vars) <;> omega
 refine⟨fun i a => ?_,fun k f b i a => ?_⟩
 ·unfold aJ; split
  ·rename_i e; rw[e,<- l]; exact h.Lg d
  exact c.le i a
 by_cases e:(ev k).seq<=K (bA (ev k))
 ·exact Int.le_trans (c.cl k f e i a) (g i)
 unfold aJ at b
 split at b
 ·rename_i e2
  rw[e2]at e
  have:k=j:=h.uniq f d e2 (by omega)
  subst this
  exact Int.le_trans (m i a) (g i)
 exact absurd b e
theorem oq(h:bL L v=0):eO L.known v=true:=by
 unfold bL at h
 split at h; · cases h
 split at h; · cases h
 split at h; · cases h
 rename_i h3
 cases e:eO L.known v with
 | true=>rfl
 | false=>exact absurd e h3
theorem zX(L:gV)(v:EvM):(bL L v=0/\(aW L v).known=aJ L.known (bA v) (L.known (bA v)+1))\/(bL L v≠0/\aW L v=L):=by
 by_cases h:bL L v=0
 ·refine .inl ⟨h,?_⟩
  unfold aW; rw[if_pos h]
  show aJ (iw L v).known _ _=_
  rw[om]
 refine .inr ⟨h,?_⟩
 unfold aW; rw[if_neg h]
def KnO(ev:Nat->EvM)(an o:Nat)(K:Nat->Int):Prop:=KnC ev an K/\K o=nM ev an o
theorem Cz.apply(h:Cz n an ev kn){o:Nat}(a:KnO ev an o L.known)(c:j<an):KnO ev an o (aW L (ev j)).known:=by
 rcases zX L (ev j)with ⟨f,b⟩|⟨_,b⟩
 ·have d:=oq f
  rw[b]
  refine⟨h.step a.1 c d,?_⟩
  unfold aJ
  split
  ·rename_i e
   have:=(rdy d).2.1
   have g:=h.Lg c
   rw[<- e]at this g
   have:=a.2
   omega
  exact a.2
 rw[b]; exact a
theorem Cz.pass(h:Cz n an ev kn){o:Nat}{b:Nat->Int}(a:KnO ev an o L.known) : ∀ j,j<=an->KnO ev an o (pz ev b L j).known
 | 0,_=>a
 | j+1,hj=>by
   unfold pz
   split
   ·exact h.apply (h.pass a j (by omega)) (by omega)
   ·exact h.pass a j (by omega)
theorem Cz.kM(h:Cz n an ev kn){o:Nat}{a:Nat->Int} : ∀ f L,KnO ev an o L.known->KnO ev an o (kM ev an a f L).known
 | 0,L,hL=>by unfold Rt.kM; exact hL
 | f+1,L,hL=>by
   unfold Rt.kM
   split
   ·exact h.pass hL an (Nat.le_refl _)
   ·exact h.kM f _ (h.pass hL an (Nat.le_refl _))
theorem Cz.learn(h:Cz n an ev kn){o:Nat}(g:o<n){b:Nat->Int}(i:L.known=kn o)(c : ∀ q,q≠o->kn' q=kn q)(d:kn' o=(En ev an b L).known):Cz n an ev kn':=by
 have f:KnO ev an o (En ev an b L).known:=h.kM (an+1) L (by rw[i]; exact⟨h.kc o g,h.own o g⟩)
 refine⟨h.rd,h.reg,fun q a => ?_,fun q a => ?_⟩
 ·by_cases e:q=o
  ·subst e; rw[d]; exact f.2
  rw[c q e]; exact h.own q a
 by_cases e:q=o
 ·subst e; rw[d]; exact f.1
 rw[c q e]; exact h.kc q a
theorem He : ∀ k,k<=an -> ∀ i,nM (aJ ev an v) k i=nM ev k i
 | 0,_,_=>rfl
 | k+1,hk,i=>by
   have e:aJ ev an v k=ev k:=by unfold aJ; rw[if_neg (by omega)]
   show nM (aJ ev an v) k i+(if bA (aJ ev an v k)=i then 1 else 0)=nM ev k i+if bA (ev k)=i then 1 else 0
   rw[e,He k (by omega) i]
theorem MX(i:Nat):nM (aJ ev an v) (an+1) i=nM ev an i+if bA v=i then 1 else 0:=by
 show nM (aJ ev an v) an i+(if bA (aJ ev an v an)=i then 1 else 0)=_
 rw[He an (Nat.le_refl _)]
 unfold aJ; rw[if_pos rfl]
theorem Cz.event(h:Cz n an ev kn){o:Nat}(m:o<n)(hr:eO (kn o) v=true)(d:bA v=o)(y:v.deps=kn o)(g : ∀ q,q≠o->kn' q=kn q)(j:kn' o=aJ (kn o) o (kn o o+1)):Cz n (an+1) (aJ ev an v) kn':=by
 obtain⟨u,t,z⟩:=rdy hr
 rw[d]at t
 have s : ∀ k,k<an->aJ ev an v k=ev k:=fun k l=>by unfold aJ; rw[if_neg (by omega)]
 have r:aJ ev an v an=v:=by unfold aJ; rw[if_pos rfl]
 have p:=h.own o m
 refine⟨fun k l => ?_,fun k l => ?_,fun q c => ?_,fun q c=>⟨fun i b => ?_,fun k l a i b => ?_⟩⟩
 ·have e:nM (aJ ev an v) k=nM ev k:=funext fun i=>He k (by omega) i
  rw[e]
  by_cases f:k=an
  ·subst f; rw[r]
   refine aao u (by rw[d,t,p]) fun i b => ?_
   exact Int.le_trans (z i b) ((h.kc o m).le i b)
  rw[s k (by omega)]; exact h.rd k (by omega)
 ·by_cases f:k=an
  ·subst f; rw[r,d]; exact m
  rw[s k (by omega)]; exact h.reg k (by omega)
 ·rw[MX,d]
  by_cases e:q=o
  ·subst e; rw[j,if_pos rfl]; unfold aJ; rw[if_pos rfl,p]
  rw[g q e,if_neg (fun x=>e x.symm),h.own q c,Int.add_zero]
 ·rw[MX,d]
  by_cases e:q=o
  ·subst e; rw[j]; unfold aJ
   split
   ·rename_i ei; subst ei; rw[if_pos rfl,p]; exact Int.le_refl _
   have:=(h.kc q c).le i b; split <;> omega
  rw[g q e]; have:=(h.kc q c).le i b; split <;> omega
 by_cases f:k=an
 ·subst f
  rw[r]at a ⊢
  by_cases e:q=o
  ·subst e; rw[j,y]; unfold aJ; split <;> (try subst_vars) <;> omega
  rw[g q e,d,t]at a
  have:=(h.kc q c).le o
  have w:o<6:=by have:=pX u; omega
  have:=this w
  omega
 rw[s k (by omega)]at a ⊢
 by_cases e:q=o
 ·subst e
  rw[j]at a ⊢
  have A : ∀ i,kn q i<=aJ (kn q) q (kn q q+1) i:=fun i=>by unfold aJ; split <;> (try subst_vars) <;> omega
  refine Int.le_trans ((h.kc q c).cl k (by omega) ?_ i b) (A i)
  unfold aJ at a
  split at a
  ·rename_i e3; have:=h.Lg (k:=k) (by omega); rw[e3]at this ⊢; omega
  exact a
 rw[g q e]at a ⊢; exact(h.kc q c).cl k (by omega) a i b
theorem Cz.zero(n:Nat)(h : ∀ o,o<n->kn o=fun _=>0):Cz n 0 ev kn:=⟨fun _ h=>absurd h (Nat.not_lt_zero _),fun _ h=>absurd h (Nat.not_lt_zero _),fun o a=>by rw[h o a]; rfl,fun o a=>⟨fun i _=>by rw[h o a]; exact Int.le_refl _,fun _ h=>absurd h (Nat.not_lt_zero _)⟩⟩
end
end Rt
end
end Go.Proofs.YtahbiajdgealnaaGreatDoor
namespace Go.Proofs.YtahbiajdgealnaaGreatDoor
open Go.RowKit
namespace Fx
section
variable {S S':Nat->Prop}
theorem jB.trans(w w' c:World)(h:jB S w w')(k:jB S w' c):jB S w c:=⟨k.os.trans h.os,k.tape.trans h.tape,k.output.trans h.output,Nat.le_trans h.size k.size,fun i b a=>(k.block i (Nat.lt_of_lt_of_le b h.size) a).trans (h.block i b a)⟩
theorem jB.mono{w w':World}(h:jB S w w')(a : ∀ k,S k->S' k):jB S' w w':=⟨h.os,h.tape,h.output,h.size,fun i b c=>h.block i b fun d=>c (a i d)⟩
theorem jB.AL{g:Nat}{w w':World}(h:Stp g w w'):jB (fun k=>k=g) w w':=(uq _ w).then h (.inl rfl)
end
end Fx
end Go.Proofs.YtahbiajdgealnaaGreatDoor
namespace Go.Proofs.YtahbiajdgealnaaGreatDoor
open Go.RowKit Rt
open Fx (fD eT fI bC gL gK dw dR fZ iL dZ jg fP jh iV Lv sN Ln Ws Qv Wl Rp Wc Qs Wr Sb Lk Wk rC rV sR Rs Rn Rd Rk Wb Wx Wo Dw Wt qQ Qn EI Ao yj yI Ca Dl pG gY yL lZ sO uq vP wB xR Cy Ak rv aA aP bG aQ ev bX Stp dG aU flat dz Mp eX aT gN iF bD down iH jB iA ku bH bJ cells_one iG bT wD unseen jr gM bU dH bK bP bV bW fU gJ oQ gG)
section
set_option linter.unusedVariables false
set_option maxRecDepth 20000
structure dY where
 inn:Nat->Bool
 left:Nat->Bool
 known:Nat->Int
 own:Nat->Int
 T:dN
 R:Nat->Nat->Int
 gn:Nat
 g:Nat->Nat->Int
 an:Nat
 ao:Nat->Int
 ar:Nat->Int
 tp:Nat
 mb:Nat
 pb:Nat
 rb:Nat
 gb:Nat
 ab:Nat
def uo(m:dY):Nat->Value:=fun p=>if p<6 then .bool (m.inn p)else if p<12 then .bool (m.left (p-6))else if p<18 then .int .u64 (m.known (p-12))else if p=18 then .pointer (some ⟨m.tp,0,none⟩)else if p=19 then .map (some m.pb)else if p=20 then .map (some m.rb)else if p<27 then .int .i64 (m.own (p-21))else if p=27 then .map (some m.gb)else .map (some m.ab)
section
variable {m:dY} {p q:Nat}
theorem Bo(h:p<6):uo m p = .bool (m.inn p):=by unfold uo; rw[if_pos h]
theorem zY(h:p<6)(e:q=p+6):uo m q = .bool (m.left p):=by subst e; unfold uo; rw[if_neg (by omega),if_pos (by omega),Nat.add_sub_cancel]
theorem qc(h:p<6)(e:q=p+12):uo m q = .int .u64 (m.known p):=by subst e; unfold uo; rw[if_neg (by omega),if_neg (by omega),if_pos (by omega),Nat.add_sub_cancel]
theorem Hf(h:p<6)(e:q=p+21):uo m q = .int .i64 (m.own p):=by subst e; unfold uo; rw[if_neg (by omega),if_neg (by omega),if_neg (by omega),if_neg (by omega),if_neg (by omega),if_neg (by omega),if_pos (by omega),Nat.add_sub_cancel]
theorem Sr{i:Nat}(hi:i<6)(b:Bool):dz (uo m) i (.bool b)=uo { m with inn:=aJ m.inn i b }:=by
 funext p
 unfold dz
 by_cases e:p=i
 ·subst e; rw[if_pos rfl,Bo hi]; simp[aJ]
 rw[if_neg e]; unfold uo
 by_cases h:p<6
 ·rw[if_pos h,if_pos h]; simp[aJ,e]
 rw[if_neg h,if_neg h]
theorem Sv{i:Nat}(hi:i<6)(e0:q=i+6)(b:Bool):dz (uo m) q (.bool b)=uo { m with left:=aJ m.left i b }:=by
 subst e0
 funext p
 unfold dz
 by_cases e:p=i+6
 ·subst e; rw[if_pos rfl,zY hi rfl]; simp[aJ]
 rw[if_neg e]; unfold uo
 by_cases h:p<6
 ·rw[if_pos h,if_pos h]
 rw[if_neg h,if_neg h]
 by_cases a:p<12
 ·rw[if_pos a,if_pos a]; simp[aJ,show ¬ p-6=i by omega]
 rw[if_neg a,if_neg a]
theorem OP{i:Nat}(hi:i<6)(e0:q=i+12)(x:Int):dz (uo m) q (.int .u64 x)=uo { m with known:=aJ m.known i x }:=by
 subst e0
 funext p
 unfold dz
 by_cases e:p=i+12
 ·subst e; rw[if_pos rfl,qc hi rfl]; simp[aJ]
 rw[if_neg e]; unfold uo
 by_cases h:p<6
 ·rw[if_pos h,if_pos h]
 rw[if_neg h,if_neg h]
 by_cases a:p<12
 ·rw[if_pos a,if_pos a]
 rw[if_neg a,if_neg a]
 by_cases b:p<18
 ·rw[if_pos b,if_pos b]; simp[aJ,show ¬ p-12=i by omega]
 rw[if_neg b,if_neg b]
theorem VP{i:Nat}(hi:i<6)(e0:q=i+21)(x:Int):dz (uo m) q (.int .i64 x)=uo { m with own:=aJ m.own i x }:=by
 subst e0
 funext p
 unfold dz
 by_cases e:p=i+21
 ·subst e; rw[if_pos rfl,Hf hi rfl]; simp[aJ]
 rw[if_neg e]; unfold uo
 by_cases h:p<6
 ·rw[if_pos h,if_pos h]
 rw[if_neg h,if_neg h]
 by_cases a:p<12
 ·rw[if_pos a,if_pos a]
 rw[if_neg a,if_neg a]
 by_cases b:p<18
 ·rw[if_pos b,if_pos b]
 rw[if_neg b,if_neg b]
 by_cases c:p=18
 ·rw[if_pos c,if_pos c]
 rw[if_neg c,if_neg c]
 by_cases d:p=19
 ·rw[if_pos d,if_pos d]
 rw[if_neg d,if_neg d]
 by_cases f:p=20
 ·rw[if_pos f,if_pos f]
 rw[if_neg f,if_neg f]
 by_cases g:p<27
 ·rw[if_pos g,if_pos g]; simp[aJ,show ¬ p-21=i by omega]
 rw[if_neg g,if_neg g]
end
def vI(R:Nat->Nat->Int):Nat->Value:=fun i => .agg (aA 54 (rv .i64 (R i)))
def Cn(T:dN):Nat->Value:=fun j => .int .u64 (T.p j)
def sJ(g:Nat->Nat->Int):Nat->Value:=fun i => .agg (aA 5 (iM (g i)))
def Co:Nat->Value:=fun _ => .bool true
structure QlN(m:dY):Prop where
 mp:m.mb≠m.pb
 mr:m.mb≠m.rb
 mg:m.mb≠m.gb
 ma:m.mb≠m.ab
 pr:m.pb≠m.rb
 pg:m.pb≠m.gb
 pa:m.pb≠m.ab
 rg:m.rb≠m.gb
 ra:m.rb≠m.ab
 ga:m.gb≠m.ab
structure jV(w:World)(B lp:Nat)(m:dY):Prop where
 c:aP w lp 29 (uo m) 106
 t:qz w B m.tp m.mb m.T
 p:Mp w m.pb m.T.n m.T.x (Cn m.T)
 r:Mp w m.rb m.T.n m.T.x (vI m.R)
 g:gN w m.gb m.gn (fun i=>m.g i 0) (fun i=>m.g i 1) (sJ m.g)
 a:gN w m.ab m.an m.ao m.ar Co
 ne:QlN m
 lB:B<=lp
 pB:B<=m.pb
 rB:B<=m.rb
 gB:B<=m.gb
 aB:B<=m.ab
def Eo(m:dY)(lp:Nat)(k:Nat):Prop:=k=lp\/k=m.mb\/k=m.pb\/k=m.rb\/k=m.gb\/k=m.ab
section
variable {w w':World} {B lp:Nat} {m:dY}
theorem jV.up(h:jV w B lp m)(b:Below w.heap.size w w'):jV w' B lp m := { h with c:=h.c.bZ (Sb b) (Nat.ne_of_lt h.c.lt),t:=h.t.up b,p:=h.p.up b,r:=h.r.up b,g:=h.g.up b,a:=h.a.up b }
instance:Rt.Tr w w' (jV w B lp m) (jV w' B lp m):=⟨fun b h=>h.up b⟩
theorem jV.jG{d:List TypeId}(h:jV w B lp m)(b:iG d w w')(e:(d.contains 106 || d.contains 135)=false):jV w' B lp m:=by
 rw[Bool.or_eq_false_iff]at e
 exact { h with c:=h.c.jG b e.1,t:=h.t.jG b e.2,p:=h.p.jG b trivial,r:=h.r.jG b trivial,g:=h.g.jG b trivial,a:=h.a.jG b trivial }
instance {a:List TypeId}:Rt.Tc a w w' (jV w B lp m) (jV w' B lp m) (!(a.contains 106 || a.contains 135)):=⟨fun b h e=>h.jG b (by simpa using e)⟩
theorem qz.keep{b a:Nat}{T:dN}(h:qz w B b a T)(c:w'.heap[b]? = w.heap[b]?)(d:w'.heap[a]? = w.heap[a]?):qz w' B b a T:=⟨c.trans h.blk,h.map.keep d,h.inv,h.gt,h.gm⟩
theorem jV.keep(h:jV w B lp m)(b : ∀ k,k=lp\/k=m.tp\/k=m.mb\/k=m.pb\/k=m.rb\/k=m.gb\/k=m.ab->w'.heap[k]? = w.heap[k]?):jV w' B lp m := { h with
 c:=(b _ (.inl rfl)).trans h.c,t:=qz.keep h.t (b _ (.inr (.inl rfl))) (b _ (.inr (.inr (.inl rfl)))),p:=h.p.keep (b _ (.inr (.inr (.inr (.inl rfl))))),r:=h.r.keep (b _ (.inr (.inr (.inr (.inr (.inl rfl)))))),
 g:=h.g.keep (b _ (.inr (.inr (.inr (.inr (.inr (.inl rfl))))))),a:=h.a.keep (b _ (.inr (.inr (.inr (.inr (.inr (.inr rfl))))))) }
theorem jV.chg{S:Nat->Prop}(h:jV w B lp m)(f:jB S w w')(d : ∀ k,k=m.tp\/Eo m lp k -> ¬ S k):jV w' B lp m:=by
 have b : ∀ k,k<w.heap.size -> ¬ S k->w'.heap[k]? = w.heap[k]? := f.block
 refine h.keep fun k e => ?_
 rcases e with rfl|rfl|rfl|rfl|rfl|rfl|rfl
 ·exact b _ h.c.lt (d _ (.inr (.inl rfl)))
 ·exact b _ h.t.blk.lt (d _ (.inl rfl))
 ·exact b _ h.t.lt (d _ (.inr (.inr (.inl rfl))))
 ·exact b _ h.p.lt (d _ (.inr (.inr (.inr (.inl rfl)))))
 ·exact b _ h.r.lt (d _ (.inr (.inr (.inr (.inr (.inl rfl))))))
 ·exact b _ h.g.lt (d _ (.inr (.inr (.inr (.inr (.inr (.inl rfl)))))))
 exact b _ h.a.lt (d _ (.inr (.inr (.inr (.inr (.inr (.inr rfl)))))))
theorem jV.weak{b:Nat}(h:jV w B lp m)(a:b<=B):jV w b lp m := { h with t:=h.t.weak a,lB:=Nat.le_trans a h.lB,pB:=Nat.le_trans a h.pB,rB:=Nat.le_trans a h.rB,gB:=Nat.le_trans a h.gB,aB:=Nat.le_trans a h.aB }
theorem jV.lt(h:jV w B lp m):lp<w.heap.size:=h.c.lt
theorem jV.ltS(h:jV w B lp m){k:Nat}(b:Eo m lp k):B<=k/\k<w.heap.size:=by
 rcases b with rfl|rfl|rfl|rfl|rfl|rfl
 ·exact⟨h.lB,h.c.lt⟩
 ·exact⟨h.t.gm,h.t.lt⟩
 ·exact⟨h.pB,h.p.lt⟩
 ·exact⟨h.rB,h.r.lt⟩
 ·exact⟨h.gB,h.g.lt⟩
 exact⟨h.aB,h.a.lt⟩
end
namespace Rt
def zZ(x:Nat->Int):Nat->Int->Nat
 | 0,_=>0
 | n+1,k=>if x n=k then n else zZ x n k
theorem kY{x:Nat->Int}{j:Nat}{k:Int} : ∀ {n:Nat},(∀ a b,a<n->b<n->x a=x b->a=b)->j<n->x j=k->zZ x n k=j
 | 0,_,h,_=>absurd h (Nat.not_lt_zero _)
 | n+1,hi,hj,e=>by
   unfold zZ
   by_cases c:x n=k
   ·rw[if_pos c]; exact hi n j (by omega) hj (c.trans e.symm)
   ·rw[if_neg c]
    refine kY (fun a b d f=>hi a b (by omega) (by omega)) ?_ e
    rcases Nat.lt_or_ge j n with h|h
    ·exact h
    ·obtain rfl:j=n:=by omega
     exact absurd e c
end Rt
def dY.idx(m:dY)(k:Int):Nat:=zZ m.T.x m.T.n k
def Sw(m:dY)(lp a:Nat)(k:Nat):Prop:=Eo m lp k\/a<=k
structure Sy(w:World)(B lp:Nat)(m m':dY)(b0:Nat)(fv:Value)(fi:Nat)(cap:Array Value):Prop where
 e:fv = .func (.func fi) #[] cap
 f : ∃ fn c, Tryz.prog.funcs[fi]? = some fn ∧ (fn.name == "runtime.NumGoroutine") = false ∧ fn.body = some c
 s : ∀ w2,Below w.heap.size w w2->Calls Tryz.prog fi cap w2 fun e w3=>e = .returned (.tuple #[])/\jV w3 B lp m'/\jB (Sw m lp b0) w2 w3
def Ph(w:World)(B lp:Nat)(m f:dY)(b:Int)(e:Ending)(w':World):Prop :=
 (∃ a d c,e = .returned (.tuple #[a,.int .i64 b])/\a.oneCell'=true/\(b=0->Sy w' B lp m f w.heap.size a d c))/\Below w.heap.size w w'
theorem jV.Hg{w w':World}{B lp g n d:Nat}{m:dY}{x:Nat->Value}{T:TypeId}(h:jV w B lp m)(b:aP w g n x T)(f:T≠106)(i:jB (Sw m lp d) w w')(j:g<d):aP w' g n x T:=b.chg i fun e=>by
 rcases e with (rfl|rfl|rfl|rfl|rfl|rfl)|e
 ·exact f (Fx.Ty.only h.c.ty b.ty)
 ·exact h.t.map.qw b.ty
 ·exact h.p.qw b.ty
 ·exact h.r.qw b.ty
 ·exact h.g.qw b.ty
 ·exact h.a.qw b.ty
 ·omega
theorem Fx.MZ{P:Program}{f:Nat->Value}{w:World}{o:Oper}{g:Nat}{t:Operand}{b:List Operand}{args:List Value}{d:Array TypeId}{cap all:Array Value}(l:o.op = .call { callee := .value t,args:=b.toArray,argTypes:=d })(m:ev f t = .func (.func g) #[] cap)(hx:b.map (ev f)=args)(j:args.toArray++cap=all)
 (k : ∃ a c, P.funcs[g]? = some a ∧ (a.name == "runtime.NumGoroutine") = false ∧ a.body = some c) : (execOp (ev f) o).run P w = .ok (.enter g all) w := by
 obtain⟨a,c,e,h,i⟩:=k
 exact Fx.E8 l m hx (by rw[<- j]; simp) e h i
namespace Fx
theorem It.dJ{w w':World}{r b n g:Nat}{S:Nat->Bool}(h:It w r b n S)(a:NT g w w')(c:b≠g)(d:r≠g):It w' r b n S:=h.keep (a.s.block b h.O9 c) (a.s.block r h.lt d)
theorem zn.dJ{w w':World}{r b i g:Nat}(h:zn w r b i)(a:NT g w w')(c:b≠g)(d:r≠g):zn w' r b i:=h.keep (a.s.block b h.O9 c) (a.s.block r h.lt d)
end Fx
end
end Go.Proofs.YtahbiajdgealnaaGreatDoor
namespace Go.Proofs.YtahbiajdgealnaaGreatDoor.Fx
open Go.RowKit
section
variable {P:Program} {n0:Nat} {Q:Post} {f:Nat->Value} {w:World} {ops:Array Oper} {rest:List Oper} {o:Oper}
theorem Lh{T E:TypeId}{x:Operand}{b off n s:Nat}(d:o.op = .slice T x none none none)(hx:ev f x = .pointer (some ⟨b,off,none⟩))(c:P.underlying T=some (.array n E))(e:(P.info? E).map (·.size)=some s) :
 Runs P f o w (.slice (some ⟨b,off,none⟩) n n):=by
 obtain⟨i,a,g⟩:=Option.map_eq_some_iff.1 e
 unfold Runs execOp
 simp only[d,hx,Option.map_none]
 by_cases h:n=0
 ·subst h; simp[Instr.sliceAt,Instr.sureAddr,underlying,c,Instr.sliceBounds,sizeOf,typeInfo,a]
 simp[Instr.sliceAt,Instr.sureAddr,underlying,c,Instr.sliceBounds,sizeOf,typeInfo,a,Addr.add,g]
end
end Go.Proofs.YtahbiajdgealnaaGreatDoor.Fx
namespace Go.Proofs.YtahbiajdgealnaaGreatDoor
open Go.RowKit Rt
open Fx (fD eT fI bC gL gK dw dR fZ iL dZ jg fP jh iV Lv sN Ln Ws Qv Wl Rp Wc Qs Wr Sb Lk Wk rC rV sR Rs Rn Rd Rk Wb Wx Wo Dw Wt qQ Qn EI Ao yj yI Ca Dl pG gY yL lZ sO uq vP wB xR Cy Ak rv aA aP bG aQ ev bX Stp dG aU flat dz Mp eX aT gN iF bD down iH jB iA ku bH bJ cells_one iG bT wD unseen jr gM bU dH bK bP bV bW fU gJ oQ gG)
namespace Rt
def jS(v:EvM)(l:Int):Bool:=decide (l<=v.aX)&&decide (v.aX<=1125899906842624)
def pY(v:EvM):EvM:=⟨v.o,v.seq,v.deps,v.kind,0,v.dst,0,v.req,v.of⟩
def wX(v:EvM):Bool:=decide (0<v.req)
def Li(v:EvM):EvM:=⟨v.o,v.seq,v.deps,v.kind,v.node,v.dst,v.aX,0,v.of⟩
def aaq(v:EvM):EvM:=⟨v.o,v.seq,v.deps,v.kind,v.node,v.dst,v.aX,0,0⟩
def toB(v:EvM):Bool:=oK v.dst && !decide (v.dst=v.o)
def Ju(v:EvM):EvM:=⟨v.o,v.seq,v.deps,v.kind,v.node,0,v.aX,v.req,v.of⟩
end Rt
def Rt.Cq(v:EvM):Bool:=decide (0<v.req)&&(decide (0<v.of) && !decide (v.of=v.req))
theorem Aa(n:Int)(w:World) :
 Calls Tryz.prog 88 #[au n] w fun e w'=>e = .returned (.bool (oK n))/\w'=w:=by
 refine Kent Tryz.func88 9 ?_
 refine ay<|av aF<|aC<|ay<|av (au n) ?_
 by_cases a:1<=n
 ·refine Lv aG (jv a)<|av aG<|av (au n) ?_
  by_cases b:n<=6
  ·refine Lv aG (mD b)<|av aG<|av aG<|aC<|Wr<|aI aG ?_
   exact⟨gP (by simp only[oK]; first|(symm; simp; omega)|(symm; simp; done)),rfl⟩
  refine Lv aF (mV b)<|av aF<|av aF<|aC<|Wr<|aI aF ?_
  exact⟨gP (by simp only[oK]; first|(symm; simp; omega)|(symm; simp; done)),rfl⟩
 refine Lv aF (ji a)<|av aF<|cB<|cB<|av aF<|av aF<|aC<|Wr<|aI aF ?_
 exact⟨gP (by simp only[oK]; first|(symm; simp; omega)|(symm; simp; done)),rfl⟩
theorem Hl(l:Int)(v:EvM)(g:Nat)(w:World)(a:aP w g 14 (bO v) 160) :
 Calls Tryz.prog 114 #[(pt g),au l] w fun e w'=>e = .returned (.bool (jS v l))/\aP w' g 14 (bO (pY v)) 160/\Stp g w w':=by
 have P:=a.lt
 refine Kent Tryz.func114 30 ?_
 refine ay<|av aF<|aC<|ay<|av ((pt g))<|av ((pt g))<|av ((pt g))<|av ((pf g 11))<|Lv (au v.aX) (aL a.aH 11)<|av (au l) ?_
 by_cases c:l<=v.aX
 ·refine Lv aG (jv c)<|av aG<|av ((pt g))<|av ((pt g))<|av ((pt g))<|av ((pf g 11))<|Lv (au v.aX) (aL a.aH 11) ?_
  by_cases d:v.aX<=1125899906842624
  ·refine Lv aG (mD d)<|av aG<|av aG<|aC<|ay<|av ((pt g))<|av ((pt g))<|av ((pt g))<|av ((pt g))<|av ((pf g 9))<|iQ a 9 (aD 0) fun J p D Q => ?_
   have t:aP J g 14 (bO (⟨v.o,v.seq,v.deps,v.kind,0,v.dst,v.aX,v.req,v.of⟩:EvM)) 160:=p.congr (fun j b=>by rcases j with _|_|_|_|_|_|_|_|_|_|_|_|_|_|j <;> first|rfl|omega)
   have f:=(lZ g w).then D (by omega)
   refine av ((pt g))<|av ((pt g))<|av ((pf g 11))<|iQ t 11 (au 0) fun K u E R => ?_
   have x:aP K g 14 (bO (⟨v.o,v.seq,v.deps,v.kind,0,v.dst,0,v.req,v.of⟩:EvM)) 160:=u.congr (fun j b=>by rcases j with _|_|_|_|_|_|_|_|_|_|_|_|_|_|j <;> first|rfl|omega)
   have h:=f.then E (by omega)
   refine aC<|ay<|av aG<|av aG<|aC<|Wr<|aI aG ?_
   exact⟨gP (by simp only[jS]; first|(symm; simp; omega)|(symm; simp; done)),x,h⟩
  refine Lv aF (mV d)<|av aF<|av aF<|aC<|ay<|av ((pt g))<|av ((pt g))<|av ((pt g))<|av ((pt g))<|av ((pf g 9))<|iQ a 9 (aD 0) fun L y F S => ?_
  have z:aP L g 14 (bO (⟨v.o,v.seq,v.deps,v.kind,0,v.dst,v.aX,v.req,v.of⟩:EvM)) 160:=y.congr (fun j b=>by rcases j with _|_|_|_|_|_|_|_|_|_|_|_|_|_|j <;> first|rfl|omega)
  have i:=(lZ g w).then F (by omega)
  refine av ((pt g))<|av ((pt g))<|av ((pf g 11))<|iQ z 11 (au 0) fun M A G T => ?_
  have B:aP M g 14 (bO (⟨v.o,v.seq,v.deps,v.kind,0,v.dst,0,v.req,v.of⟩:EvM)) 160:=A.congr (fun j b=>by rcases j with _|_|_|_|_|_|_|_|_|_|_|_|_|_|j <;> first|rfl|omega)
  have k:=i.then G (by omega)
  refine aC<|ay<|av aF<|av aF<|aC<|Wr<|aI aF ?_
  exact⟨gP (by simp only[jS]; first|(symm; simp; omega)|(symm; simp; done)),B,k⟩
 refine Lv aF (ji c)<|av aF<|cB<|cB<|cB<|cB<|cB<|cB<|av aF<|av aF<|aC<|ay<|av ((pt g))<|av ((pt g))<|av ((pt g))<|av ((pt g))<|av ((pf g 9))<|iQ a 9 (aD 0) fun N C H U => ?_
 have q:aP N g 14 (bO (⟨v.o,v.seq,v.deps,v.kind,0,v.dst,v.aX,v.req,v.of⟩:EvM)) 160:=C.congr (fun j b=>by rcases j with _|_|_|_|_|_|_|_|_|_|_|_|_|_|j <;> first|rfl|omega)
 have m:=(lZ g w).then H (by omega)
 refine av ((pt g))<|av ((pt g))<|av ((pf g 11))<|iQ q 11 (au 0) fun O r I V => ?_
 have s:aP O g 14 (bO (⟨v.o,v.seq,v.deps,v.kind,0,v.dst,0,v.req,v.of⟩:EvM)) 160:=r.congr (fun j b=>by rcases j with _|_|_|_|_|_|_|_|_|_|_|_|_|_|j <;> first|rfl|omega)
 have n:=m.then I (by omega)
 refine aC<|ay<|av aF<|av aF<|aC<|Wr<|aI aF ?_
 exact⟨gP (by simp only[jS]; first|(symm; simp; omega)|(symm; simp; done)),s,n⟩
theorem M4(v:EvM)(g:Nat)(w:World)(a:aP w g 14 (bO v) 160) :
 Calls Tryz.prog 115 #[(pt g)] w fun e w'=>e = .returned (.bool (wX v))/\aP w' g 14 (bO (Li v)) 160/\Stp g w w':=by
 have r:=a.lt
 refine Kent Tryz.func115 15 ?_
 refine ay<|av aF<|aC<|ay<|av ((pt g))<|av ((pt g))<|av ((pt g))<|av ((pf g 12))<|Lv (aD v.req) (aL a.aH 12) ?_
 by_cases b:0<v.req
 ·refine Lv aG (jY b)<|av aG<|aC<|ay<|av ((pt g))<|av ((pt g))<|av ((pt g))<|av ((pf g 12))<|iQ a 12 (aD 0) fun p h m s => ?_
  have i:aP p g 14 (bO (⟨v.o,v.seq,v.deps,v.kind,v.node,v.dst,v.aX,0,v.of⟩:EvM)) 160:=h.congr (fun j f=>by rcases j with _|_|_|_|_|_|_|_|_|_|_|_|_|_|j <;> first|rfl|omega)
  have c:=(lZ g w).then m (by omega)
  refine aC<|ay<|av aG<|av aG<|aC<|Wr<|aI aG ?_
  exact⟨gP (by simp only[wX]; first|(symm; simp; omega)|(symm; simp; done)),i,c⟩
 refine Lv aF (jZ b)<|av aF<|aC<|ay<|av ((pt g))<|av ((pt g))<|av ((pt g))<|av ((pf g 12))<|iQ a 12 (aD 0) fun q k n t => ?_
 have l:aP q g 14 (bO (⟨v.o,v.seq,v.deps,v.kind,v.node,v.dst,v.aX,0,v.of⟩:EvM)) 160:=k.congr (fun j f=>by rcases j with _|_|_|_|_|_|_|_|_|_|_|_|_|_|j <;> first|rfl|omega)
 have d:=(lZ g w).then n (by omega)
 refine aC<|ay<|av aF<|av aF<|aC<|Wr<|aI aF ?_
 exact⟨gP (by simp only[wX]; first|(symm; simp; omega)|(symm; simp; done)),l,d⟩
theorem akC(v:EvM)(g:Nat)(w:World)(h:aP w g 14 (bO v) 160) :
 Calls Tryz.prog 116 #[(pt g)] w fun e w'=>e = .returned (.bool (Cq v))/\aP w' g 14 (bO (aaq v)) 160/\Stp g w w':=by
 have lg:=h.lt
 refine Kent Tryz.func116 32 ?_
 refine ay<|av aF<|aC<|Ws ?_
 -- region 1 draws
 refine wh<|aR ((pt g))<|aR ((pt g))<|aR ((pt g))<|aR ((pf g 13))<|Qv (aD v.of) (fun b d=>aL (h.aH.dr d) 13) ?_
 by_cases r:0<v.of
 ·refine Qv aG (fun b d=>jY r)<|aR aG<|aR ((pt g))<|aR ((pt g))<|aR ((pt g))<|aR ((pf g 13))<|Qv (aD v.of) (fun b d=>aL (h.aH.dr d) 13)<|aR ((pt g))<|aR ((pt g))<|aR ((pt g))<|aR ((pf g 12))<|Qv (aD v.req) (fun b d=>aL (h.aH.dr d) 12) ?_
  by_cases q:v.of=v.req
  ·refine Qv aF (fun b d=>jJ q)<|aR aF<|aR aF<|Qn ?_
   rintro _ ⟨f,rfl⟩
   obtain⟨Z,i⟩ : ∃ b,b=World.drewN w f:=⟨_,rfl⟩
   rw[<- i]
   have y:Stp w.heap.size w Z:=by rw[i]; exact Sb (iU w f)
   have H:=aY y.old h
   have B:=(lZ g w).then y (.inr (lZ g w).size)
   clear i
   refine sN<|ay<|av ((pt g))<|av ((pt g))<|av ((pt g))<|av ((pf g 13))<|iQ H 13 (aD 0) fun W K Q z1 => ?_
   have L:aP W g 14 (bO (⟨v.o,v.seq,v.deps,v.kind,v.node,v.dst,v.aX,v.req,0⟩:EvM)) 160:=K.congr (fun j s=>by rcases j with _|_|_|_|_|_|_|_|_|_|_|_|_|_|j <;> first|rfl|omega)
   have C:=B.then Q (by omega)
   refine aC<|ay<|av ((pt g))<|jM (M4 (⟨v.o,v.seq,v.deps,v.kind,v.node,v.dst,v.aX,v.req,0⟩:EvM) g _ L) ?_
   rintro e w2 ⟨a,u,R⟩
   have m:=C.then R (by omega)
   by_cases c:wX (⟨v.o,v.seq,v.deps,v.kind,v.node,v.dst,v.aX,v.req,0⟩:EvM)=true
   ·refine⟨.bool true,by rw[a,c],?_⟩
    clear a
    refine av aG<|av aF<|av aF<|av aF<|aC<|Wr<|aI aF ?_
    exact⟨gP (by simp only[Cq,wX]at *; first|(symm; simp; omega)|(symm; simp at *; omega)|(symm; simp at *; done)),u,m⟩
   rw[Bool.not_eq_true]at c
   refine⟨.bool false,by rw[a,c],?_⟩
   clear a
   refine av aF<|cB<|av aF<|av aF<|aC<|Wr<|aI aF ?_
   exact⟨gP (by simp only[Cq,wX]at *; first|(symm; simp; omega)|(symm; simp at *; omega)|(symm; simp at *; done)),u,m⟩
  refine Qv aG (fun b d=>mE q)<|aR aG<|aR aG<|Qn ?_
  rintro _ ⟨f,rfl⟩
  obtain⟨aa,k⟩ : ∃ b,b=World.drewN w f:=⟨_,rfl⟩
  rw[<- k]
  have z:Stp w.heap.size w aa:=by rw[k]; exact Sb (iU w f)
  have M:=aY z.old h
  have D:=(lZ g w).then z (.inr (lZ g w).size)
  clear k
  refine sN<|ay<|av ((pt g))<|av ((pt g))<|av ((pt g))<|av ((pf g 13))<|iQ M 13 (aD 0) fun X N S z2 => ?_
  have O:aP X g 14 (bO (⟨v.o,v.seq,v.deps,v.kind,v.node,v.dst,v.aX,v.req,0⟩:EvM)) 160:=N.congr (fun j s=>by rcases j with _|_|_|_|_|_|_|_|_|_|_|_|_|_|j <;> first|rfl|omega)
  have E:=D.then S (by omega)
  refine aC<|ay<|av ((pt g))<|jM (M4 (⟨v.o,v.seq,v.deps,v.kind,v.node,v.dst,v.aX,v.req,0⟩:EvM) g _ O) ?_
  rintro e w4 ⟨a,x,T⟩
  have n:=E.then T (by omega)
  by_cases c:wX (⟨v.o,v.seq,v.deps,v.kind,v.node,v.dst,v.aX,v.req,0⟩:EvM)=true
  ·refine⟨.bool true,by rw[a,c],?_⟩
   clear a
   refine av aG<|av aG<|av aG<|av aG<|aC<|Wr<|aI aG ?_
   exact⟨gP (by simp only[Cq,wX]at *; first|(symm; simp; omega)|(symm; simp at *; omega)|(symm; simp at *; done)),x,n⟩
  rw[Bool.not_eq_true]at c
  refine⟨.bool false,by rw[a,c],?_⟩
  clear a
  refine av aF<|cB<|av aF<|av aF<|aC<|Wr<|aI aF ?_
  exact⟨gP (by simp only[Cq,wX]at *; first|(symm; simp; omega)|(symm; simp at *; omega)|(symm; simp at *; done)),x,n⟩
 refine Qv aF (fun b d=>jZ r)<|aR aF<|aN<|aN<|aN<|aN<|aN<|aN<|aN<|aN<|aN<|aN<|aN<|aR aF<|aR aF<|Qn ?_
 rintro _ ⟨f,rfl⟩
 obtain⟨ab,l⟩ : ∃ b,b=World.drewN w f:=⟨_,rfl⟩
 rw[<- l]
 have A:Stp w.heap.size w ab:=by rw[l]; exact Sb (iU w f)
 have P:=aY A.old h
 have F:=(lZ g w).then A (.inr (lZ g w).size)
 clear l
 refine sN<|ay<|av ((pt g))<|av ((pt g))<|av ((pt g))<|av ((pf g 13))<|iQ P 13 (aD 0) fun Y I U z3 => ?_
 have J:aP Y g 14 (bO (⟨v.o,v.seq,v.deps,v.kind,v.node,v.dst,v.aX,v.req,0⟩:EvM)) 160:=I.congr (fun j s=>by rcases j with _|_|_|_|_|_|_|_|_|_|_|_|_|_|j <;> first|rfl|omega)
 have G:=F.then U (by omega)
 refine aC<|ay<|av ((pt g))<|jM (M4 (⟨v.o,v.seq,v.deps,v.kind,v.node,v.dst,v.aX,v.req,0⟩:EvM) g _ J) ?_
 rintro e w6 ⟨a,t,V⟩
 have p:=G.then V (by omega)
 by_cases c:wX (⟨v.o,v.seq,v.deps,v.kind,v.node,v.dst,v.aX,v.req,0⟩:EvM)=true
 ·refine⟨.bool true,by rw[a,c],?_⟩
  clear a
  refine av aG<|av aF<|av aF<|av aF<|aC<|Wr<|aI aF ?_
  exact⟨gP (by simp only[Cq,wX]at *; first|(symm; simp; omega)|(symm; simp at *; omega)|(symm; simp at *; done)),t,p⟩
 rw[Bool.not_eq_true]at c
 refine⟨.bool false,by rw[a,c],?_⟩
 clear a
 refine av aF<|cB<|av aF<|av aF<|aC<|Wr<|aI aF ?_
 exact⟨gP (by simp only[Cq,wX]at *; first|(symm; simp; omega)|(symm; simp at *; omega)|(symm; simp at *; done)),t,p⟩
theorem aee(v:EvM)(g:Nat)(w:World)(a:aP w g 14 (bO v) 160) :
 Calls Tryz.prog 117 #[(pt g)] w fun e w'=>e = .returned (.bool (toB v))/\aP w' g 14 (bO (Ju v)) 160/\Stp g w w':=by
 have Q:=a.lt
 refine Kent Tryz.func117 28 ?_
 refine ay<|av aF<|aC<|Ws ?_
 -- region 1 draws
 refine kZ<|aR ((pt g))<|aR ((pt g))<|aR ((pt g))<|aR ((pf g 10))<|Qv (au v.dst) (fun d b=>aL (a.cb b) 10) ?_
 by_cases c:(oK v.dst)=true
 ·refine oz (fun _ _=>Aa v.dst _) aG (by rw[c])<|aR aG<|aR ((pt g))<|aR ((pt g))<|aR ((pt g))<|aR ((pf g 10))<|Qv (au v.dst) (fun d b=>aL (a.cb b) 10)<|aR ((pt g))<|aR ((pt g))<|aR ((pt g))<|aR ((pt g))<|Qv (au v.o) (fun d b=>aL (a.cb b) 0) ?_
  by_cases f:v.dst=v.o
  ·refine Qv aF (fun d b=>jJ f)<|aR aF<|aR aF<|Qn ?_
   intro N h
   have E:Stp w.heap.size w N:=Sb h
   have t:=aY h a
   have m:=(lZ g w).then E (.inr (lZ g w).size)
   refine sN<|ay<|av ((pt g))<|av ((pt g))<|av ((pt g))<|av ((pf g 10))<|iQ t 10 (au 0) fun K u F R => ?_
   have x:aP K g 14 (bO (⟨v.o,v.seq,v.deps,v.kind,v.node,0,v.aX,v.req,v.of⟩:EvM)) 160:=u.congr (fun j l=>by rcases j with _|_|_|_|_|_|_|_|_|_|_|_|_|_|j <;> first|rfl|omega)
   have n:=m.then F (by omega)
   refine aC<|ay<|av aF<|av aF<|aC<|Wr<|aI aF ?_
   exact⟨gP (by unfold toB; rw[c]; first|(symm; simp; omega)|(symm; simp; done)),x,n⟩
  refine Qv aG (fun d b=>mE f)<|aR aG<|aR aG<|Qn ?_
  intro O i
  have G:Stp w.heap.size w O:=Sb i
  have y:=aY i a
  have p:=(lZ g w).then G (.inr (lZ g w).size)
  refine sN<|ay<|av ((pt g))<|av ((pt g))<|av ((pt g))<|av ((pf g 10))<|iQ y 10 (au 0) fun L z H S => ?_
  have A:aP L g 14 (bO (⟨v.o,v.seq,v.deps,v.kind,v.node,0,v.aX,v.req,v.of⟩:EvM)) 160:=z.congr (fun j l=>by rcases j with _|_|_|_|_|_|_|_|_|_|_|_|_|_|j <;> first|rfl|omega)
  have q:=p.then H (by omega)
  refine aC<|ay<|av aG<|av aG<|aC<|Wr<|aI aG ?_
  exact⟨gP (by unfold toB; rw[c]; first|(symm; simp; omega)|(symm; simp; done)),A,q⟩
 rw[Bool.not_eq_true]at c
 refine oz (fun _ _=>Aa v.dst _) aF (by rw[c])<|aR aF<|aN<|aN<|aN<|aN<|aN<|aN<|aN<|aN<|aN<|aN<|aN<|aR aF<|aR aF<|Qn ?_
 intro P k
 have I:Stp w.heap.size w P:=Sb k
 have B:=aY k a
 have r:=(lZ g w).then I (.inr (lZ g w).size)
 refine sN<|ay<|av ((pt g))<|av ((pt g))<|av ((pt g))<|av ((pf g 10))<|iQ B 10 (au 0) fun M C J T => ?_
 have D:aP M g 14 (bO (⟨v.o,v.seq,v.deps,v.kind,v.node,0,v.aX,v.req,v.of⟩:EvM)) 160:=C.congr (fun j l=>by rcases j with _|_|_|_|_|_|_|_|_|_|_|_|_|_|j <;> first|rfl|omega)
 have s:=r.then J (by omega)
 refine aC<|ay<|av aF<|av aF<|aC<|Wr<|aI aF ?_
 exact⟨gP (by unfold toB; rw[c]; first|(symm; simp; omega)|(symm; simp; done)),D,s⟩
namespace Rt
def kX(v:EvM):Bool :=
 if v.kind=1 then jS v 0 else if v.kind=2 then jS v 1 else if v.kind=3 then jS v 1&&wX v else if v.kind=4 then Cq v else if v.kind=5 then jS v 1&&toB v else if v.kind=6 then toB v else decide (v.kind=7)
def pE(v:EvM):EvM :=
 if v.kind=1 then pY v else if v.kind=2 then pY v else if v.kind=3 then Li (pY v)else if v.kind=4 then aaq v else if v.kind=5 then Ju (pY v)else if v.kind=6 then Ju v else v
def Sz(v:EvM):EvM:=⟨v.o,v.seq,v.deps,v.kind,0,0,0,0,0⟩
theorem aar(a b:EvM):(∀ i,i<14->bO a i=bO b i)<->a.o=b.o/\a.seq=b.seq/\(∀ i,i<6->a.deps i=b.deps i)/\a.kind=b.kind/\a.node=b.node/\a.dst=b.dst/\a.aX=b.aX/\a.req=b.req/\a.of=b.of:=by
 constructor
 ·intro h
  have f:Value.int .i64 a.o=au b.o:=h 0 (by decide)
  have g:Value.int .u64 a.seq=aD b.seq:=h 1 (by decide)
  have p:Value.int .u8 a.kind = .int .u8 b.kind:=h 8 (by decide)
  have q:Value.int .u64 a.node=aD b.node:=h 9 (by decide)
  have j:Value.int .i64 a.dst=au b.dst:=h 10 (by decide)
  have k:Value.int .i64 a.aX=au b.aX:=h 11 (by decide)
  have l:Value.int .u64 a.req=aD b.req:=h 12 (by decide)
  have m:Value.int .u64 a.of=aD b.of:=h 13 (by decide)
  simp only[Value.int.injEq,true_and]at f g p q j k l m
  refine⟨f,g,fun i r => ?_,p,q,j,k,l,m⟩
  have n:=h (i+2) (by omega)
  rw[kW a rfl r,kW b rfl r]at n
  simpa using n
 rintro ⟨f,g,n,p,q,j,k,l,m⟩ i r
 unfold bO
 rw[f,g,p,q,j,k,l,m]
 by_cases c:i=0
 ·rw[if_pos c,if_pos c]
 by_cases d:i=1
 ·rw[if_neg c,if_pos d,if_neg c,if_pos d]
 by_cases e:i<8
 ·rw[if_neg c,if_neg d,if_pos e,if_neg c,if_neg d,if_pos e,n _ (by omega)]
 rw[if_neg c,if_neg d,if_neg e,if_neg c,if_neg d,if_neg e]
theorem FV{v:EvM}(a:kX v=true):(∀ i,i<14->bO (pE v) i=bO (Sz v) i)<->tQ v=true:=by
 have h:=a
 rw[aar]
 unfold kX at h
 unfold pE tQ kI Sz
 simp only[Bool.and_eq_true,decide_eq_true_eq]
 split at h
 ·rename_i k; simp[k,pY,and_assoc]
 split at h
 ·rename_i k1 k; simp[k,pY,and_assoc]
 split at h
 ·rename_i k1 k2 k; simp[k,pY,Li,and_assoc]
 split at h
 ·rename_i k1 k2 k3 k; simp[k,aaq,and_assoc]
 split at h
 ·rename_i k1 k2 k3 k4 k; simp[k,pY,Ju,and_assoc]
 split at h
 ·rename_i k1 k2 k3 k4 k5 k; simp[k,Ju,and_assoc]
 rename_i k1 k2 k3 k4 k5 k6; simp[k1,k2,k3,k4,k5,k6,and_assoc]
theorem BN{v:EvM}(h:tQ v=true):dK v=kX v:=by
 unfold tQ kI at h
 unfold dK kX someE jS Cq toB lI wX
 simp only[Bool.and_eq_true,decide_eq_true_eq]at h
 split <;> try rfl
 rename_i k1
 split <;> try rfl
 rename_i k2
 split
 ·congr 1
 rename_i k3
 split
 ·rename_i k4; rw[Bool.eq_iff_iff]; simp only[Bool.and_eq_true,decide_eq_true_eq,Bool.not_eq_true',decide_eq_false_iff_not]; omega
 split <;> rfl
def Lj(x:Nat->Int):Nat->Int
 | 0=>x 0
 | k+1=>if x (k+1)>Lj x k then x (k+1)else Lj x k
theorem SA(x:Nat->Int) : ∀ n i,i<=n->x i<=Lj x n
 | 0,i,h=>by rw[show i=0 by omega]; exact Int.le_refl _
 | n+1,i,h=>by
   unfold Lj
   by_cases e:i=n+1
   ·subst e; split <;> omega
   ·have:=SA x n i (by omega); split <;> omega
theorem SB(x:Nat->Int) : ∀ n,∃ i,i<=n/\Lj x n=x i
 | 0=>⟨0,Nat.le_refl _,rfl⟩
 | n+1=>by
   unfold Lj
   split
   ·exact⟨n+1,Nat.le_refl _,rfl⟩
   ·obtain⟨i,a,e⟩:=SB x n; exact⟨i,by omega,e⟩
theorem aas{v:EvM}(h:1099511627776<=Lj v.deps 5):yU v=false:=by
 obtain⟨i,a,e⟩:=SB v.deps 5
 exact Fw (k:=i) (by omega) (by omega)
theorem Ho{v:EvM}(h : ¬ 1099511627776<=Lj v.deps 5):yU v=true :=
 uU (k:=6) (by omega) fun i a=>by have:=SA v.deps 5 i (by omega); omega
def aef(v:EvM)(b:Bool)(a:EvM):Prop:=b=kX v/\(b=true->a=pE v)
end Rt
set_option maxHeartbeats 1000000 in
theorem aat(v:EvM)(g:Nat)(w:World)(k:aP w g 14 (bO v) 160) :
 Calls Tryz.prog 90 #[(pt g)] w fun e w' => ∃ b O,e = .returned (.bool b)/\aP w' g 14 (bO O) 160/\Stp g w w'/\aef v b O:=by
 have X:=k.lt
 refine Kent Tryz.func90 46 ?_
 refine ay<|av aF<|aC<|Ws<|ay<|av ((pt g))<|av ((pt g))<|av ((pt g))<|av ((pf g 8))<|Lv (.int .u8 (v.kind)) (aL k.aH 8)<|aC<|Wb<|ay ?_
 by_cases c:v.kind=1
 ·refine Lv aG (eP c)<|av aG<|aC<|aM<|ay<|av ((pt g))<|jM (Hl 0 v g _ k) ?_
  rintro e Y ⟨a,G,P⟩
  have y:=(lZ g w).then P (by omega)
  by_cases p:jS v 0=true
  ·refine⟨.bool true,by rw[a,p],?_⟩
   clear a
   refine av aG (aC (Wr (bK (sR (aI aG (⟨_,_,rfl,G,y,Eq.symm (by unfold kX; rw[if_pos c,(show jS v 0=true from p)]; try rfl),fun d => ?_⟩))))))
   unfold pE; rw[if_pos c]; try rfl
  rw[Bool.not_eq_true]at p
  refine⟨.bool false,by rw[a,p],?_⟩
  clear a
  refine av aF (aC (Wr (bK (sR (aI aF (⟨_,_,rfl,G,y,Eq.symm (by unfold kX; rw[if_pos c,(show jS v 0=false from p)]; try rfl),fun d => ?_⟩))))))
  cases d
 refine Lv aF (fF c)<|av aF<|aC<|aK<|ay ?_
 by_cases f:v.kind=2
 ·refine Lv aG (eP f)<|av aG<|aC<|aM<|ay<|av ((pt g))<|jM (Hl 1 v g _ k) ?_
  rintro e Z ⟨a,H,Q⟩
  have z:=(lZ g w).then Q (by omega)
  by_cases q:jS v 1=true
  ·refine⟨.bool true,by rw[a,q],?_⟩
   clear a
   refine av aG (aC (Wr (bK (sR (aI aG (⟨_,_,rfl,H,z,Eq.symm (by unfold kX; rw[if_neg c,if_pos f,(show jS v 1=true from q)]; try rfl),fun d => ?_⟩))))))
   unfold pE; rw[if_neg c,if_pos f]; try rfl
  rw[Bool.not_eq_true]at q
  refine⟨.bool false,by rw[a,q],?_⟩
  clear a
  refine av aF (aC (Wr (bK (sR (aI aF (⟨_,_,rfl,H,z,Eq.symm (by unfold kX; rw[if_neg c,if_pos f,(show jS v 1=false from q)]; try rfl),fun d => ?_⟩))))))
  cases d
 refine Lv aF (fF f)<|av aF<|aC<|aK<|ay ?_
 by_cases h:v.kind=3
 ·refine Lv aG (eP h)<|av aG<|aC<|aM<|ay<|av ((pt g))<|jM (Hl 1 v g _ k) ?_
  rintro e w3 ⟨a,I,R⟩
  have A:=(lZ g w).then R (by omega)
  by_cases m:jS v 1=true
  ·refine⟨.bool true,by rw[a,m],?_⟩
   clear a
   refine av aG<|av ((pt g))<|jM (M4 (⟨v.o,v.seq,v.deps,v.kind,0,v.dst,0,v.req,v.of⟩:EvM) g _ I) ?_
   rintro e w4 ⟨a,J,S⟩
   have B:=A.then S (by omega)
   by_cases r:wX (⟨v.o,v.seq,v.deps,v.kind,0,v.dst,0,v.req,v.of⟩:EvM)=true
   ·refine⟨.bool true,by rw[a,r],?_⟩
    clear a
    refine av aG (av aG (aC (Wr (bK (sR (aI aG (⟨_,_,rfl,J,B,Eq.symm (by unfold kX; rw[if_neg c,if_neg f,if_pos h,(show jS v 1=true from m),(show wX v=true from r)]; try rfl),fun d => ?_⟩)))))))
    unfold pE; rw[if_neg c,if_neg f,if_pos h]; try rfl
   rw[Bool.not_eq_true]at r
   refine⟨.bool false,by rw[a,r],?_⟩
   clear a
   refine av aF (av aF (aC (Wr (bK (sR (aI aF (⟨_,_,rfl,J,B,Eq.symm (by unfold kX; rw[if_neg c,if_neg f,if_pos h,(show jS v 1=true from m),(show wX v=false from r)]; try rfl),fun d => ?_⟩)))))))
   cases d
  rw[Bool.not_eq_true]at m
  refine⟨.bool false,by rw[a,m],?_⟩
  clear a
  refine av aF (cB (cB (av aF (av aF (aC (Wr (bK (sR (aI aF (⟨_,_,rfl,I,A,Eq.symm (by unfold kX; rw[if_neg c,if_neg f,if_pos h,(show jS v 1=false from m)]; try rfl),fun d => ?_⟩))))))))))
  cases d
 refine Lv aF (fF h)<|av aF<|aC<|aK<|ay ?_
 by_cases i:v.kind=4
 ·refine Lv aG (eP i)<|av aG<|aC<|aM<|ay<|av ((pt g))<|jM (akC v g _ k) ?_
  rintro e w5 ⟨a,K,T⟩
  have C:=(lZ g w).then T (by omega)
  by_cases s:Cq v=true
  ·refine⟨.bool true,by rw[a,s],?_⟩
   clear a
   refine av aG (aC (Wr (bK (sR (aI aG (⟨_,_,rfl,K,C,Eq.symm (by unfold kX; rw[if_neg c,if_neg f,if_neg h,if_pos i,(show Cq v=true from s)]; try rfl),fun d => ?_⟩))))))
   unfold pE; rw[if_neg c,if_neg f,if_neg h,if_pos i]; try rfl
  rw[Bool.not_eq_true]at s
  refine⟨.bool false,by rw[a,s],?_⟩
  clear a
  refine av aF (aC (Wr (bK (sR (aI aF (⟨_,_,rfl,K,C,Eq.symm (by unfold kX; rw[if_neg c,if_neg f,if_neg h,if_pos i,(show Cq v=false from s)]; try rfl),fun d => ?_⟩))))))
  cases d
 refine Lv aF (fF i)<|av aF<|aC<|aK<|ay ?_
 by_cases j:v.kind=5
 ·refine Lv aG (eP j)<|av aG<|aC<|aM<|ay<|av ((pt g))<|jM (Hl 1 v g _ k) ?_
  rintro e w6 ⟨a,L,U⟩
  have D:=(lZ g w).then U (by omega)
  by_cases n:jS v 1=true
  ·refine⟨.bool true,by rw[a,n],?_⟩
   clear a
   refine av aG<|av ((pt g))<|jM (aee (⟨v.o,v.seq,v.deps,v.kind,0,v.dst,0,v.req,v.of⟩:EvM) g _ L) ?_
   rintro e w7 ⟨a,M,V⟩
   have E:=D.then V (by omega)
   by_cases t:toB (⟨v.o,v.seq,v.deps,v.kind,0,v.dst,0,v.req,v.of⟩:EvM)=true
   ·refine⟨.bool true,by rw[a,t],?_⟩
    clear a
    refine av aG (av aG (aC (Wr (bK (sR (aI aG (⟨_,_,rfl,M,E,Eq.symm (by unfold kX; rw[if_neg c,if_neg f,if_neg h,if_neg i,if_pos j,(show jS v 1=true from n),(show toB v=true from t)]; try rfl),fun d => ?_⟩)))))))
    unfold pE; rw[if_neg c,if_neg f,if_neg h,if_neg i,if_pos j]; try rfl
   rw[Bool.not_eq_true]at t
   refine⟨.bool false,by rw[a,t],?_⟩
   clear a
   refine av aF (av aF (aC (Wr (bK (sR (aI aF (⟨_,_,rfl,M,E,Eq.symm (by unfold kX; rw[if_neg c,if_neg f,if_neg h,if_neg i,if_pos j,(show jS v 1=true from n),(show toB v=false from t)]; try rfl),fun d => ?_⟩)))))))
   cases d
  rw[Bool.not_eq_true]at n
  refine⟨.bool false,by rw[a,n],?_⟩
  clear a
  refine av aF (cB (cB (av aF (av aF (aC (Wr (bK (sR (aI aF (⟨_,_,rfl,L,D,Eq.symm (by unfold kX; rw[if_neg c,if_neg f,if_neg h,if_neg i,if_pos j,(show jS v 1=false from n)]; try rfl),fun d => ?_⟩))))))))))
  cases d
 refine Lv aF (fF j)<|av aF<|aC<|aK<|ay ?_
 by_cases l:v.kind=6
 ·refine Lv aG (eP l)<|av aG<|aC<|aM<|ay<|av ((pt g))<|jM (aee v g _ k) ?_
  rintro e w8 ⟨a,N,W⟩
  have F:=(lZ g w).then W (by omega)
  by_cases u:toB v=true
  ·refine⟨.bool true,by rw[a,u],?_⟩
   clear a
   refine av aG (aC (Wr (bK (sR (aI aG (⟨_,_,rfl,N,F,Eq.symm (by unfold kX; rw[if_neg c,if_neg f,if_neg h,if_neg i,if_neg j,if_pos l,(show toB v=true from u)]; try rfl),fun d => ?_⟩))))))
   unfold pE; rw[if_neg c,if_neg f,if_neg h,if_neg i,if_neg j,if_pos l]; try rfl
  rw[Bool.not_eq_true]at u
  refine⟨.bool false,by rw[a,u],?_⟩
  clear a
  refine av aF (aC (Wr (bK (sR (aI aF (⟨_,_,rfl,N,F,Eq.symm (by unfold kX; rw[if_neg c,if_neg f,if_neg h,if_neg i,if_neg j,if_pos l,(show toB v=false from u)]; try rfl),fun d => ?_⟩))))))
  cases d
 refine Lv aF (fF l)<|av aF<|aC<|aK<|Wk<|bP<|sN<|ay<|av ((pt g))<|av ((pt g))<|av ((pt g))<|av ((pf g 8))<|Lv (.int .u8 (v.kind)) (aL k.aH 8) ?_
 by_cases x:v.kind=7
 ·refine Lv aG (eP x) (av aG (aC (Wr (aI aG (⟨_,_,rfl,k,(lZ g w),Eq.symm (by unfold kX; rw[if_neg c,if_neg f,if_neg h,if_neg i,if_neg j,if_neg l,decide_eq_true x]; try rfl),fun d => ?_⟩)))))
  unfold pE; rw[if_neg c,if_neg f,if_neg h,if_neg i,if_neg j,if_neg l]; try rfl
 refine Lv aF (fF x) (av aF (aC (Wr (aI aF (⟨_,_,rfl,k,(lZ g w),Eq.symm (by unfold kX; rw[if_neg c,if_neg f,if_neg h,if_neg i,if_neg j,if_neg l,decide_eq_false x]; try rfl),fun d => ?_⟩)))))
 cases d
theorem aeg(x:Nat->Int)(b off:Nat)(w:World)(hx:iF w b off 6 (rv .u64 x)) :
 Calls Tryz.prog 89 #[.slice (some ⟨b,off,none⟩) (6) (6)] w fun e w'=>e = .returned (aD (Lj x 5))/\Below w.heap.size w w':=by
 have o:=hx.lt (by omega)
 refine Kent Tryz.func89 25 ?_
 refine ay<|av (aD 0)<|aC<|Ws<|ay<|av (.slice (some ⟨b,off,none⟩) (6) (6))<|av (au 6)<|Lv aF Dq<|aC<|aK<|Wk<|sN<|ay<|av (.slice (some ⟨b,off,none⟩) (6) (6))<|Lv ((pf b off)) (cu 1)<|Lv (aD (x 0)) (aL hx 0)<|av (aD (x 0))<|aC<|Ws<|ay<|av (au 1)<|aC<|Wb<|Wo (fun f j => ∃ k:Nat,k<=5/\f 0 = .slice (some ⟨b,off,none⟩) (6) (6)/\f 3=aD (Lj x k)/\f 4=au (((k:Int)+1))/\iF j b off 6 (rv .u64 x)/\Below w.heap.size w j) (fun f _=>(6-(intOf (f 4)).toNat)) ⟨0,by omega,(by rfl),rfl,Fx.ic,hx,(Below.refl w.heap.size w)⟩ ?_
 rintro m p ⟨k,n,c,h,a,i,d⟩
 refine Ws<|ay<|aS a<|aS c<|av (au 6) ?_
 by_cases g:((k:Int)+1)<6
 ·refine Lv aG (gy g)<|aC<|aM<|Wk<|sN<|Ws<|Wb<|Wl<|aS h<|aS c<|aS a<|Lv ((pf b (k+off+1))) (cu 1)<|Lv (aD (x (k+1))) (aL i (k+1))<|Lv (aD (Lj x (k+1))) (Fx.Xw rfl rfl rfl)<|av (aD (Lj x (k+1)))<|Ln<|bP<|sN<|Wl<|aS a<|Lv (au ((k:Int)+2)) eZ<|av (au ((k:Int)+2))<|Ln<|gJ ⟨k+1,by omega,c,rfl,Fx.ic,i,d⟩ ?_
  show(6-(intOf ((au ((k:Int)+2)))).toNat)<_
  simp only[a,intOf]; omega
 refine Lv aF (gD g)<|aC<|aK<|Wx<|bV<|fU<|bW<|sN<|ay<|aS h<|av (aD (Lj x k))<|aC<|Wr<|aI (aD (Lj x k)) ?_
 have l:k=5:=by omega
 exact⟨by rw[l],d⟩
theorem M5{ks:List (Option IntKind)}{x y:Nat->Value}(h:Fx.Kd ks y)(e : ∀ j,j<ks.length->x j=y j):Fx.Kd ks x:=fun i a=>by rw[e i a]; exact h i a
namespace Rt
theorem Jv{v:EvM}(h:fC v):fC (Sz v):=by
 have z:iD 0:=⟨by decide,by decide⟩
 have y:oL 0:=⟨by decide,by decide⟩
 exact⟨h.o,h.seq,h.deps,h.kind,z,y,y,z,z⟩
theorem Jw{v:EvM}(h:fC v):fC (pE v):=by
 have z:iD 0:=⟨by decide,by decide⟩
 have y:oL 0:=⟨by decide,by decide⟩
 unfold pE
 split
 ·exact⟨h.o,h.seq,h.deps,h.kind,z,h.dst,y,h.req,h.of⟩
 split
 ·exact⟨h.o,h.seq,h.deps,h.kind,z,h.dst,y,h.req,h.of⟩
 split
 ·exact⟨h.o,h.seq,h.deps,h.kind,z,h.dst,y,z,h.of⟩
 split
 ·exact⟨h.o,h.seq,h.deps,h.kind,h.node,h.dst,h.aX,z,z⟩
 split
 ·exact⟨h.o,h.seq,h.deps,h.kind,z,y,y,h.req,h.of⟩
 split
 ·exact⟨h.o,h.seq,h.deps,h.kind,h.node,y,h.aX,h.req,h.of⟩
 exact h
end Rt
set_option maxHeartbeats 2000000 in
theorem FW(v:EvM)(w:World)(G:fC v) :
 Calls Tryz.prog 62 #[.agg (aA 14 (bO v))] w fun e w'=>e = .returned (.bool (dh v))/\Below w.heap.size w w':=by
 refine Kent Tryz.func62 55 ?_
 refine ay<|pK fun g w1 kV t s1 z1 => ?_
 have B:=aY s1.old (Below.refl w.heap.size w)
 have tL:=gH kV
 have vR:=t.lt
 refine av aF<|aC<|Ws<|Ws ?_
 -- region 1 draws
 refine kZ<|aR ((pt g))<|Qv (au v.o) (fun f d=>aL (t.cb d) 0) ?_
 by_cases l:(oK v.o)=true
 ·obtain⟨a,ha,ea⟩:=eY l
  refine oz (fun _ _=>Aa v.o _) aG (by rw[l])<|aR aF<|aR aF<|aR ((pf g 1))<|Qv (aD v.seq) (fun f d=>aL (t.cb d) 1) ?_
  by_cases N:v.seq<1
  ·refine Qv aG (fun f d=>gy N)<|aR aG<|aR aG<|aN<|aN<|aN<|aR aG<|aR aG<|aN<|aN<|aN<|aN<|aN<|aN<|aN<|aN<|aN<|aN<|aR aG<|Qn ?_
   intro UR rH
   have⟨k,U⟩:=eG rH t B
   refine sN<|aM<|ay<|av aF<|aC<|Wr<|sR<|aI aF ?_
   have k:decide (1<=v.seq)=false:=decide_eq_false (by omega)
   exact⟨gP (Eq.symm (by unfold dh; rw[l,k]; try rfl)),U⟩
  refine Qv aF (fun f d=>gD N)<|aR aF<|aR aF<|aR ((pf g 1))<|Qv (aD v.seq) (fun f d=>aL (t.cb d) 1) ?_
  by_cases O:1099511627776<=v.seq
  ·refine Qv aG (fun f d=>jv O)<|aR aG<|aR aG<|aN<|aN<|aN<|aN<|aN<|aN<|aN<|aN<|aN<|aN<|aR aG<|Qn ?_
   intro XL vS
   have⟨m,V⟩:=eG vS t B
   refine sN<|aM<|ay<|av aF<|aC<|Wr<|sR<|aI aF ?_
   have k:decide (1<=v.seq)=true:=decide_eq_true (by omega)
   have m:decide (v.seq<1099511627776)=false:=decide_eq_false (by omega)
   exact⟨gP (Eq.symm (by unfold dh; rw[l,k,m]; try rfl)),V⟩
  refine Qv aF (fun f d=>ji O)<|aR aF<|aR aF<|aR ((pt g))<|Qv (au v.o) (fun f d=>aL (t.cb d) 0)<|Qv (au a) (fun f d=>fO)<|aR ((pf g 2))<|Qv ((pf g (a+2))) (fun f d=>je 6 1)<|Qv (aD (v.deps a)) (fun f d=>aL (t.cb d) (a+2) (kW _ (by omega) (by omega)))<|aR ((pf g 1))<|Qv (aD v.seq) (fun f d=>aL (t.cb d) 1)<|Qv (aD (v.seq-1)) (fun f d=>fO) ?_
  by_cases y:(v.deps a)=(v.seq-1)
  ·refine Qv aF (fun f d=>jJ y)<|aR aF<|Qn ?_
   intro Y3 vT
   have⟨q,W⟩:=eG vT t B
   refine sN<|aK<|Wk<|sN<|Ws<|ay<|av ((pf g 2))<|Lv (.slice (some ⟨g,2,none⟩) (6) (6)) (Fx.Lh rfl rfl Tryz.underlying30 (s:=1) (by kernel_rfl))<|dA (aeg v.deps g 2 _ (fun j x=>by have Q:=q.aH (2+j) (by omega); rw[Nat.zero_add]at Q; rw[Q,kW v (p:=2+j) (j:=j) (by omega) x]; rfl)) _ rfl ?_
   intro w2 hb1
   have⟨r,I⟩:=eG hb1 q W
   by_cases A:1099511627776<=(Lj v.deps 5)
   ·refine Lv aG (jv A)<|aC<|aM<|ay<|av aF<|aC<|Wr<|sR<|aI aF ?_
    have k:decide (1<=v.seq)=true:=decide_eq_true (by omega)
    have m:decide (v.seq<1099511627776)=true:=decide_eq_true (by omega)
    have q:decide (v.deps (v.o-1).toNat=v.seq-1)=true:=decide_eq_true (by rw[show(v.o-1).toNat=a by omega]; exact y)
    have r:=aas A
    exact⟨gP (Eq.symm (by unfold dh; rw[l,k,m,q,r]; try rfl)),I⟩
   refine Lv aF (ji A)<|aC<|aK<|Wk<|sN<|ay<|Lv (.agg (aA 14 (bO v))) (fA r.aH 0)<|av (.agg (aA 14 (bG (fun c=>if c<1 then au 0 else if c<8 then aD 0 else if c<9 then .int .u8 (0)else if c<10 then aD 0 else if c<12 then au 0 else aD 0) 0 14 (bO v))))<|pK fun z w3 P u s6 z2 => ?_
   have⟨C,Z⟩:=eG s6.old r I
   have qO:=jc P I.size
   have Rz:=bY P r.lt
   have zJ:=u.lt
   refine av ((pt z))<|aC<|Ws ?_
   have L:aP w3 z 14 (bO v) 160:=u.congr (fun j x=>by rcases j with _|_|_|_|_|_|_|_|_|_|_|_|_|_|j <;> first|rfl|omega)
   -- region 6 draws
   refine Ak [0,1,2,3,4,5,7,9,11,13,6,8,10,12,14,15,16,17,18] [0,3,0,0,0,0,4,0,4,0,4,0,4,0,4,0,0,0,0] (Fx.EF [160]) Fx.EF.refl Fx.EF.trans (fu := [(2,1,[1]),(3,1,[2,1]),(4,1,[2,1]),(5,1,[2,1]),(7,1,[2,1]),(9,1,[2,1]),(11,1,[2,1]),(13,1,[2,1]),(6,1,[2,1]),(8,1,[2,1]),(10,1,[2,1]),(12,1,[2,1]),(14,1,[2,1]),(15,1,[2,1]),(16,1,[2,1]),(17,1,[2,1]),(18,1,[1])]) (by kernel_rfl) (by kernel_rfl) (by kernel_rfl) (by kernel_rfl) (by kernel_rfl) fun oU dL gU => ?_
   have⟨m9,m10,M⟩:=jk dL C L Z
   refine aV ((pt z))<|fQ<|jM (aat v z _ m10) ?_
   rintro e w4 ⟨b,v',E,R,S,F,hkv⟩
   have H:=m9.bZ S (by omega)
   have J:=S.below M M.size (by omega)
   cases b
   ·refine⟨.bool false,E,?_⟩
    clear E
    refine Ln<|aV aF<|Rk (by rfl)<|Rk (by rfl)<|Rk (by rfl)<|Rk (by rfl)<|Rk (by rfl)<|Rk (by rfl)<|Rk (by rfl)<|Rk (by rfl)<|Rk (by rfl)<|Rk (by rfl)<|Rk (by rfl)<|Rk (by rfl)<|Rk (by rfl)<|Rk (by rfl)<|aV aF<|aV aF<|bM<|Wr<|aI aF ?_
    have k:decide (1<=v.seq)=true:=decide_eq_true (by omega)
    have m:decide (v.seq<1099511627776)=true:=decide_eq_true (by omega)
    have q:decide (v.deps (v.o-1).toNat=v.seq-1)=true:=decide_eq_true (by rw[show(v.o-1).toNat=a by omega]; exact y)
    have r:=Ho A
    have u:tQ v=true->dK v=false:=fun h=>by rw[BN h,<- F]
    have C:(tQ v&&dK v)=false:=by cases h:tQ v with|false=>rfl|true=>exact u h
    have L:(true&&true&&true&&true&&true&&tQ v&&dK v)=false:=C
    exact⟨gP (Eq.symm (by unfold dh; rw[l,k,m,q,r,L]; try rfl)),J⟩
   refine⟨.bool true,E,?_⟩
   clear E
   rw[hkv rfl]at R
   refine Ln<|aV aG<|aV ((pt z))<|aV ((pt z))<|aV ((pt z))<|aV ((pt g))<|aV ((pf g 1))<|aV ((pf g 2))<|aV ((pf g 8))<|Rs (.agg (aA 14 (bO (pE v)))) (fA R.aH 0) ?_
   refine Rs (au v.o) (aL H.aH 0) ?_
   refine Rs (aD v.seq) (aL H.aH 1) ?_
   refine Rs (.agg (aA 6 (rv .u64 v.deps))) (fA H.aH 2 (fun j x=>kW _ (by omega) x)) ?_
   refine Rs (.int .u8 (v.kind)) (aL H.aH 8) ?_
   refine aV (.agg (aA 14 (bG (bG (bG (bG (fun c=>if c<1 then au 0 else if c<8 then aD 0 else if c<9 then .int .u8 (0)else if c<10 then aD 0 else if c<12 then au 0 else aD 0) 0 1 (fun _=>au v.o)) 1 1 (fun _=>aD v.seq)) 2 6 (rv .u64 v.deps)) 8 1 (fun _ => .int .u8 (v.kind))))) ?_
   by_cases D : ∀ i,i<14->(bO (pE v)) i=(bG (bG (bG (bG (fun c=>if c<1 then au 0 else if c<8 then aD 0 else if c<9 then .int .u8 (0)else if c<10 then aD 0 else if c<12 then au 0 else aD 0) 0 1 (fun _=>au v.o)) 1 1 (fun _=>aD v.seq)) 2 6 (rv .u64 v.deps)) 8 1 (fun _ => .int .u8 (v.kind))) i
   ·refine Rp aG (fun f=>Fx.wH (n:=14) (ks := [(some .i64),(some .u64),(some .u64),(some .u64),(some .u64),(some .u64),(some .u64),(some .u64),(some .u8),(some .u64),(some .i64),(some .i64),(some .u64),(some .u64)]) (X:=bO (pE v)) (Y:=bG (bG (bG (bG (fun c=>if c<1 then au 0 else if c<8 then aD 0 else if c<9 then .int .u8 (0)else if c<10 then aD 0 else if c<12 then au 0 else aD 0) 0 1 (fun _=>au v.o)) 1 1 (fun _=>aD v.seq)) 2 6 (rv .u64 v.deps)) 8 1 (fun _ => .int .u8 (v.kind))) 12 true rfl rfl rfl (Fx.EJ D) (BH (Jw G)) (M5 (BH (Jv G)) (fun j x=>by rcases j with _|_|_|_|_|_|_|_|_|_|_|_|_|_|j <;> first|rfl|exact absurd x (by simp))) rfl (by kernel_rfl) (by kernel_rfl) (by kernel_rfl) (by kernel_rfl) (by kernel_rfl))<|aV aG<|aV aG<|bM<|Wr<|aI aG ?_
    have k:decide (1<=v.seq)=true:=decide_eq_true (by omega)
    have m:decide (v.seq<1099511627776)=true:=decide_eq_true (by omega)
    have q:decide (v.deps (v.o-1).toNat=v.seq-1)=true:=decide_eq_true (by rw[show(v.o-1).toNat=a by omega]; exact y)
    have r:=Ho A
    have u:=(FV F.symm).1 (fun i K=>(D i K).trans (by rcases i with _|_|_|_|_|_|_|_|_|_|_|_|_|_|i <;> first|rfl|omega))
    have C:=(BN u).trans F.symm
    exact⟨gP (Eq.symm (by unfold dh; rw[l,k,m,q,r,u,C]; try rfl)),J⟩
   refine Rp aF (fun f=>Fx.wH (n:=14) (ks := [(some .i64),(some .u64),(some .u64),(some .u64),(some .u64),(some .u64),(some .u64),(some .u64),(some .u8),(some .u64),(some .i64),(some .i64),(some .u64),(some .u64)]) (X:=bO (pE v)) (Y:=bG (bG (bG (bG (fun c=>if c<1 then au 0 else if c<8 then aD 0 else if c<9 then .int .u8 (0)else if c<10 then aD 0 else if c<12 then au 0 else aD 0) 0 1 (fun _=>au v.o)) 1 1 (fun _=>aD v.seq)) 2 6 (rv .u64 v.deps)) 8 1 (fun _ => .int .u8 (v.kind))) 12 false rfl rfl rfl (Fx.nob D) (BH (Jw G)) (M5 (BH (Jv G)) (fun j x=>by rcases j with _|_|_|_|_|_|_|_|_|_|_|_|_|_|j <;> first|rfl|exact absurd x (by simp))) rfl (by kernel_rfl) (by kernel_rfl) (by kernel_rfl) (by kernel_rfl) (by kernel_rfl))<|aV aF<|aV aF<|bM<|Wr<|aI aF ?_
   have k:decide (1<=v.seq)=true:=decide_eq_true (by omega)
   have m:decide (v.seq<1099511627776)=true:=decide_eq_true (by omega)
   have q:decide (v.deps (v.o-1).toNat=v.seq-1)=true:=decide_eq_true (by rw[show(v.o-1).toNat=a by omega]; exact y)
   have r:=Ho A
   have u:tQ v=false:=Bool.eq_false_iff.2 (fun h=>D (fun i K=>((FV F.symm).2 h i K).trans (by rcases i with _|_|_|_|_|_|_|_|_|_|_|_|_|_|i <;> first|rfl|omega)))
   exact⟨gP (Eq.symm (by unfold dh; rw[l,k,m,q,r,u]; try rfl)),J⟩
  refine Qv aG (fun f d=>mE y)<|aR aG<|Qn ?_
  intro wb4 zI
  have b9:=aY zI B
  refine sN<|aM<|ay<|av aF<|aC<|Wr<|sR<|aI aF ?_
  have k:decide (1<=v.seq)=true:=decide_eq_true (by omega)
  have m:decide (v.seq<1099511627776)=true:=decide_eq_true (by omega)
  have q:decide (v.deps (v.o-1).toNat=v.seq-1)=false:=decide_eq_false (by rw[show(v.o-1).toNat=a by omega]; exact y)
  exact⟨gP (Eq.symm (by unfold dh; rw[l,k,m,q]; try rfl)),b9⟩
 rw[Bool.not_eq_true]at l
 refine oz (fun _ _=>Aa v.o _) aF (by rw[l])<|aR aG<|aR aG<|aN<|aN<|aN<|aR aG<|aR aG<|aN<|aN<|aN<|aR aG<|aR aG<|aN<|aN<|aN<|aN<|aN<|aN<|aN<|aN<|aN<|aN<|aR aG<|Qn ?_
 intro wb5 DF
 have T:=aY DF B
 refine sN<|aM<|ay<|av aF<|aC<|Wr<|sR<|aI aF ?_
 exact⟨gP (Eq.symm (by unfold dh; rw[l]; try rfl)),T⟩
namespace Rt
def sK(a b:Int):Int:=if b>a then b else a
def vx(X:Nat->Nat->Int):Nat->Value:=fun p=>aD (X (p / 6) (p % 6))
theorem SC(X:Nat->Nat->Int){i p j:Nat}(a:p=6*i)(b:j<6):vx X (p+j)=rv .u64 (X i) j:=by
 subst a
 show Value.int .u64 (X ((6*i+j) / 6) ((6*i+j) % 6))=aD (X i j)
 rw[show(6*i+j) / 6=i by omega,show(6*i+j) % 6=j by omega]
def yF(c:Int->Int->Int)(X:Nat->Nat->Int):Nat->Nat->Int
 | 0=>X 0
 | k+1=>fun p=>c (yF c X k p) (X (k+1) p)
def M6(c:Int->Int->Int)(X:Nat->Nat->Int):Nat->Nat->Int
 | 0=>fun _=>0
 | k+1=>yF c X k
def Vcs(w:World)(a:Option Addr)(n cap:Nat)(X:Nat->Nat->Int):Prop:=0<n->n<=cap /\ ∃ b c,a=some ⟨b,c,none⟩/\iF w b c (6*n) (vx X)
def wY(x:Nat->Int)(k:Nat):Nat->Int:=fun p=>if p<k then x p else 0
theorem Ll(x:Nat->Int)(k:Nat):upd (wY x k) k (x k)=wY x (k+1):=by
 funext p; unfold upd wY
 by_cases h:p=k
 ·subst h; rw[if_pos rfl,if_pos (by omega)]
 rw[if_neg h]
 by_cases a:p<k
 ·rw[if_pos a,if_pos (by omega)]
 rw[if_neg a,if_neg (by omega)]
theorem OQ(x:Nat->Int):aA 6 (rv .u64 (wY x 6))=aA 6 (rv .u64 x):=Fx.eH fun p a=>congrArg (Value.int .u64) (by unfold wY; rw[if_pos a])
end Rt
-- Lm.region is not in this seat
theorem aeh(a b:Int)(w:World) :
 Calls Tryz.prog 128 #[aD a,aD b] w fun e w'=>e = .returned (aD (sK a b))/\w'=w:=by
 refine Kent Tryz.func128 8 ?_
 refine ay<|av (aD 0)<|aC<|ay<|av (aD a)<|av (aD b)<|Lv (aD (sK a b)) (Fx.Xw rfl rfl rfl)<|av (aD (sK a b))<|aC<|Wr<|aI (aD (sK a b)) ?_
 exact⟨rfl,rfl⟩
theorem SE(x y:Nat->Int)(d go c q:Nat)(w:World)(l:q<6)(j:aP w d 1 (fun _ => .func (.func 128) #[] #[]) 193)(f:aP w go 6 (rv .u64 x) 30)(k:aP w c 6 (rv .u64 y) 30) :
 Calls Tryz.prog 140 #[au ((q:Int)),(pt d),(pt go),(pt c)] w fun e w'=>e = .returned (aD (sK (x q) (y q)))/\Below w.heap.size w w':=by
 refine Kent Tryz.func140 14 ?_
 refine ay<|av (aD 0)<|aC<|Ws ?_
 -- region 1 draws
 refine kZ<|Qv (.func (.func 128) #[] #[]) (fun b a=>aL (j.cb a) 0)<|aR (au q)<|Qv ((pf go q)) (fun b a=>je 6 1)<|Qv (aD (x q)) (fun b a=>aL (f.cb a) q)<|aR (au q)<|Qv ((pf c q)) (fun b a=>je 6 1)<|Qv (aD (y q)) (fun b a=>aL (k.cb a) q)<|EI (v:=aD (sK (x q) (y q))) (by rfl) (fun b a=>Fx.E8 (args := [aD (x q),aD (y q)]) rfl rfl rfl (all := #[aD (x q),aD (y q)]) rfl Tryz.func128 rfl rfl) rfl (fun b a=>(aeh (x q) (y q) _).mono fun e v2 h=>⟨h.1,by rw[h.2]; exact a⟩) ?_
 refine aR (aD (sK (x q) (y q)))<|Qn ?_
 intro n i
 have⟨m,g⟩:=eG i f (Below.refl w.heap.size w)
 refine sN<|Wr<|aI (aD (sK (x q) (y q))) ?_
 exact⟨rfl,g⟩
theorem Lp(x y:Nat->Int)(b go c:Nat)(w:World)(z:aP w b 1 (fun _ => .func (.func 128) #[] #[]) 193)(B:aP w go 6 (rv .u64 x) 30)(C:aP w c 6 (rv .u64 y) 30) :
 Calls Tryz.prog 139 #[.func (.func 140) #[] #[(pt b),(pt go),(pt c)]] w fun e w'=>e = .returned (.agg (aA 6 (rv .u64 (fun p=>sK (x p) (y p)))))/\Below w.heap.size w w':=by
 refine Kent Tryz.func139 14 ?_
 refine ay<|Ca (m:=6) (y:=rv .u64 (fun _=>0)) (by rfl) rfl (by kernel_rfl) rfl fun a w1 u D Z z1 => ?_
 have⟨T,W,X,E⟩:=mF Z.old z B C (Below.refl w.heap.size w)
 have tL:=gH u
 have⟨mH,X5,yG⟩:=Iq u z.lt B.lt C.lt
 have vR:=D.lt
 refine aC<|Ws<|ay<|av (au 0)<|aC<|Wb ?_
 have Y:aP w1 a 6 (rv .u64 (wY (fun p=>sK (x p) (y p)) 0)) 30:=D
 refine Wo (fun f h => ∃ k:Nat,k<=6/\f 0 = .func (.func 140) #[] #[(pt b),(pt go),(pt c)]/\f 2=(pt a)/\f 4=au ((k:Int))/\aP h b 1 (fun _ => .func (.func 128) #[] #[]) 193/\aP h go 6 (rv .u64 x) 30/\aP h c 6 (rv .u64 y) 30/\aP h a 6 (rv .u64 (wY (fun p=>sK (x p) (y p)) k)) 30/\Below w.heap.size w h) (fun f _=>(6-(intOf (f 4)).toNat)) ⟨0,by omega,(by rfl),(by rfl),Fx.ic,T,W,X,Y,E⟩ ?_
 rintro f1 w2 ⟨k,hk,v,d,g,n,o,q,r,l⟩
 refine ay ?_
 by_cases t:(k:Int)<6
 ·refine Lv aG (gy t (hx:=g))<|aC<|Ws<|aM<|Wk<|sN<|Ws<|Wb<|ay<|aS g<|av (au k)<|aC<|Wl<|av (au k)<|aS v<|av (au k)<|Ao (by rfl) (Fx.E8 (args := [au ((k:Int))]) rfl rfl rfl (all := #[au ((k:Int)),(pt b),(pt go),(pt c)]) rfl Tryz.func140 rfl rfl) rfl<|(SE x y b go c k _ (by omega) n o q).mono ?_
  rintro e w3 ⟨A,I⟩
  refine⟨aD (sK (x k) (y k)),by rw[A],?_⟩
  clear A
  have⟨J,K,L,M,s⟩:=qm I n o q r l
  refine Lv ((pf a k)) (je 6 1 (hx:=d))<|iQ M k (aD (sK (x k) (y k))) fun w4 N i z2 => ?_
  have O:aP w4 a 6 (rv .u64 (upd (wY (fun p=>sK (x p) (y p)) k) k (sK (x k) (y k)))) 30:=N.to (Fx.xu _ _ _ _)
  have P:=J.bZ i (by omega)
  have Q:=K.bZ i (by omega)
  have R:=L.bZ i (by omega)
  have F:=i.below s s.size (by omega)
  refine Ln<|bP<|sN<|Wl<|Lv (au ((k:Int)+1)) (eZ (hx:=g))<|av (au ((k:Int)+1))<|Ln ?_
  have S:=O.to (congrArg (rv .u64) (Ll (fun p=>sK (x p) (y p)) k))
  refine gJ ⟨k+1,by omega,v,d,Fx.ic,P,Q,R,S,F⟩ ?_
  show(6-(intOf ((au ((k:Int)+1)))).toNat)<_
  simp only[g,intOf]; omega
 refine Lv aF (gD t (hx:=g))<|aC<|Ws<|aK<|Wx<|bV<|fU<|bW<|sN<|ay<|Lv (.agg (aA 6 (rv .u64 (wY (fun p=>sK (x p) (y p)) k)))) (fA r.aH 0 (ha:=d))<|fB r 0 (ha:=d) fun w5 U j z3 => ?_
 have V:aP w5 a 6 (rv .u64 (wY (fun p=>sK (x p) (y p)) k)) 30:=aU U
 have m22:=n.bZ j (by omega)
 have m23:=o.bZ j (by omega)
 have m24:=q.bZ j (by omega)
 have G:=j.below l l.size (by omega)
 refine aC (Wr (⟨.agg (aA 6 (rv .u64 (wY (fun p=>sK (x p) (y p)) k))),rV Tryz.results139 ⟨_,d,aT V.aH (by kernel_rfl) (by kernel_rfl)⟩,?_⟩))
 have H:k=6:=by omega
 exact⟨by rw[H,OQ],G⟩
namespace Rt
def V2(x y:Nat->Int):Nat->Nat->Int
 | 0=>x
 | 1=>y
 | _=>fun _=>0
end Rt
theorem Jy(a:Option Addr)(cap:Nat)(w:World) :
 Calls Tryz.prog 127 #[.slice a (0) (cap),.func (.func 128) #[] #[]] w fun e w'=>e = .returned (.agg (aA 6 (rv .u64 (fun _=>0))))/\Below w.heap.size w w':=by
 refine Kent Tryz.func127 26 ?_
 refine ay<|yM (.func (.func 128) #[] #[]) fun t C j b p E => ?_
 have c:=aY p.old (Below.refl w.heap.size w)
 have u:=gH j
 have A:=b.lt
 refine wC 6 (rv .u64 (fun _=>0)) fun k D f g q F => ?_
 have⟨l,d⟩:=eG q.old b c
 have v:=jc f c.size
 have z:=bY f b.lt
 have B:=g.lt
 refine aC<|Ws<|ay<|av (.slice a (0) (cap))<|av (au 0)<|Lv aG (eP rfl)<|aC<|aM<|ay<|Lv (.agg (aA 6 (rv .u64 (fun _=>0)))) (Fx.uK (vs := []) (s:=1) (m:=6) (x:=rv .u64 (fun _=>0)) rfl rfl Tryz.underlying30 (by kernel_rfl) (by kernel_rfl) (by rfl))<|fB g 0 fun r n h G => ?_
 have o:aP r k 6 (rv .u64 (fun _=>0)) 30:=aU n
 have y:=l.bZ h (by omega)
 have i:=h.below d d.size (by omega)
 refine aC (Wr (sR (⟨.agg (aA 6 (rv .u64 (fun _=>0))),rV Tryz.results127 ⟨_,rfl,aT o.aH (by kernel_rfl) (by kernel_rfl)⟩,?_⟩)))
 exact⟨rfl,i⟩
theorem Jz(b off m cap:Nat)(X:Nat->Nat->Int)(w:World)(hcap:m+1<=cap)(hm:m<=1000000)(hx:iF w b off (6*(m+1)) (vx X)) :
 Calls Tryz.prog 127 #[.slice (some ⟨b,off,none⟩) (m+1) (cap),.func (.func 128) #[] #[]] w fun e w'=>e = .returned (.agg (aA 6 (rv .u64 (yF sK X m))))/\Below w.heap.size w w':=by
 have lb:=hx.lt (by omega)
 refine Kent Tryz.func127 26 ?_
 refine ay<|yM (.func (.func 128) #[] #[]) fun c w1 Q F s1 z1 => ?_
 have⟨T,K⟩:=eG s1.old hx (Below.refl w.heap.size w)
 have tL:=gH Q
 have mH:b≠c:=by rw[Q]; exact Nat.ne_of_lt (hx.lt (by omega))
 have vR:=F.lt
 refine wC 6 (rv .u64 (fun _=>0)) fun r w2 z I s2 z2 => ?_
 have⟨J,Z,L⟩:=jk s2.old T F K
 have qO:=jc z K.size
 have aei:b≠r:=by rw[z]; exact Nat.ne_of_lt (T.lt (by omega))
 have X6:=bY z F.lt
 have zJ:=I.lt
 refine aC<|Ws<|ay<|av (.slice (some ⟨b,off,none⟩) (m+1) (cap))<|av (au ((m+1:Nat):Int))<|Lv aF acC<|aC<|aK<|Wk<|sN<|ay<|av (.slice (some ⟨b,off,none⟩) (m+1) (cap))<|Lv ((pf b off)) (cu 6)<|Lv (.agg (aA 6 (rv .u64 (X 0)))) (fA J 0 (fun j E=>SC _ (i:=0) (p:=0) (by omega) E))<|wC 6 (rv .u64 (fun _=>0)) fun a w3 A m6 s3 z3 => ?_
 have⟨m7,m8,m9,M⟩:=mF s3.old J Z I L
 have Dy:=jc A L.size
 have aoY:b≠a:=by rw[A]; exact Nat.ne_of_lt (J.lt (by omega))
 have⟨aej,aek⟩:=wM A Z.lt I.lt
 have KQ:=m6.lt
 refine fB m6 0 fun w4 m10 x z4 => ?_
 have m11:aP w4 a 6 (rv .u64 (X 0)) 30:=aU m10
 have m12:=m7.bZ x (by omega)
 have m13:=m8.bZ x (by omega)
 have m14:=m9.bZ x (by omega)
 have b4:=x.below M M.size (by omega)
 refine aC<|Ws<|ay<|av (.slice (some ⟨b,off,none⟩) (m+1) (cap))<|Lv (.slice (if cap=1 then some ⟨b,off,none⟩else some ⟨b,off+6,none⟩) (m) (cap-1)) (Fx.yJ (j:=1) (b:=b) (off:=off) (len:=m+1) (cap:=cap) (s:=6) rfl rfl rfl Tryz.underlying191 (by kernel_rfl) (by omega) rfl rfl rfl)<|av (au m)<|av (au 0)<|aC<|Wb ?_
 have m15:aP w4 a 6 (rv .u64 (yF sK X 0)) 30:=m11
 refine Wo (fun f n => ∃ k:Nat,k<=m/\f 3=(pt c)/\f 4=(pt r)/\f 5=(pt a)/\f 16 = .slice (if cap=1 then some ⟨b,off,none⟩else some ⟨b,off+6,none⟩) (m) (cap-1)/\f 17=au ((m:Int))/\f 18=au ((k:Int))/\iF n b off (6*(m+1)) (vx X)/\aP n c 1 (fun _ => .func (.func 128) #[] #[]) 193/\aP n r 6 (rv .u64 (fun _=>0)) 30/\aP n a 6 (rv .u64 (yF sK X k)) 30/\Below w.heap.size w n) (fun f _=>(m-(intOf (f 18)).toNat)) ⟨0,by omega,(by rfl),(by rfl),(by rfl),(by rfl),Fx.ic,Fx.ic,m12,m13,m14,m15,b4⟩ ?_
 rintro f1 w5 ⟨k,hk,R,C,t,S,D,g,u,G,H,v,o⟩
 refine ay ?_
 by_cases P:(k:Int)<(m:Int)
 ·refine Lv aG (gy P (hx:=g) (hy:=D))<|aC<|Ws<|aM<|Wk<|sN<|Ws<|Wb<|ay<|Lv ((pf b (6*k+off+6))) (cu 6 (hx:=(S.trans (congrArg (fun q=>Value.slice q (m) (cap-1)) (if_neg (by omega))))) (hi:=g))<|Lv (.agg (aA 6 (rv .u64 (X (k+1))))) (fA u (6*k+6) (fun j E=>SC _ (i:=k+1) (p:=6*k+6) (by omega) E))<|wC 6 (rv .u64 (fun _=>0)) fun d w6 B U s5 z5 => ?_
  have⟨m21,m22,m23,m24,N⟩:=qm s5.old u G H v o
  have Uq:=jc B o.size
  have akD:b≠d:=by rw[B]; exact Nat.ne_of_lt (u.lt (by omega))
  have⟨akE,akF,akG⟩:=Iq B G.lt H.lt v.lt
  have R3:=U.lt
  refine fB U 0 fun w7 lW h z6 => ?_
  have V:aP w7 d 6 (rv .u64 (X (k+1))) 30:=aU lW
  have nY:=m21.bZ h (by omega)
  have W:=m22.bZ h (by omega)
  have oF:=m23.bZ h (by omega)
  have Y:=m24.bZ h (by omega)
  have b7:=h.below N N.size (by omega)
  refine aC<|Wl<|Lv (.func (.func 140) #[] #[(pt c),(pt a),(pt d)]) (Fx.mh (us := []) (vs := [(pt c),(pt a),(pt d)]) rfl rfl (Fx.L9 R t rfl))<|dA (Lp (yF sK X k) (X (k+1)) c a d _ W Y V) _ rfl ?_
  intro w8 hb1
  have⟨lH,m32,oI,nG,oJ,O⟩:=qo hb1 nY W oF Y V b7
  refine fB nG 0 (ha:=t) fun w9 pO l z7 => ?_
  have qL:aP w9 a 6 (rv .u64 (fun p=>sK ((yF sK X k) p) ((X (k+1)) p))) 30:=aU pO
  have qM:=lH.bZ l (by omega)
  have pQ:=m32.bZ l (by omega)
  have qW:=oI.bZ l (by omega)
  have mW:=oJ.bZ l (by omega)
  have b9:=l.below O O.size (by omega)
  refine Ln<|bP<|sN<|Wl<|Lv (au ((k:Int)+1)) (eZ (hx:=g))<|av (au ((k:Int)+1))<|Ln<|gJ ⟨k+1,by omega,R,C,t,S,(D.trans Fx.ic),Fx.ic,qM,pQ,qW,qL,b9⟩ ?_
  show(m-(intOf ((au ((k:Int)+1)))).toNat)<_
  simp only[g,intOf]; omega
 refine Lv aF (gD P (hx:=g) (hy:=D))<|aC<|Ws<|aK<|Wx<|bV<|fU<|bW<|sN<|ay<|Lv (.agg (aA 6 (rv .u64 (yF sK X k)))) (fA v.aH 0 (ha:=t))<|fB H 0 (ha:=C) fun rJ lY y z8 => ?_
 have lX:aP rJ r 6 (rv .u64 (yF sK X k)) 30:=aU lY
 have qX:=u.bZ y (by omega)
 have oZ:=G.bZ y (by omega)
 have mX:=v.bZ y (by omega)
 have b10:=y.below o o.size (by omega)
 refine aC (Wr (⟨.agg (aA 6 (rv .u64 (yF sK X k))),rV Tryz.results127 ⟨_,C,aT lX.aH (by kernel_rfl) (by kernel_rfl)⟩,?_⟩))
 have ek:k=m:=by omega
 exact⟨by rw[ek],b10⟩
theorem Lr(a:Option Addr)(n cap:Nat)(X:Nat->Nat->Int)(w:World)(g:n<=1000000)(h:Vcs w a n cap X) :
 Calls Tryz.prog 127 #[.slice a n cap,.func (.func 128) #[] #[]] w fun e w'=>e = .returned (.agg (aA 6 (rv .u64 (M6 sK X n))))/\Below w.heap.size w w':=by
 cases n with
 | zero=>exact Jy a cap w
 | succ m=>obtain⟨c,b,f,rfl,d⟩:=h (by omega); exact Jz b f m cap X w c (by omega) d
theorem aau{w w':World}{a:Option Addr}{n cap:Nat}{X:Nat->Nat->Int}(h:Vcs w a n cap X)(f:Below w.heap.size w w'):Vcs w' a n cap X:=fun d=>by
 obtain⟨g,b,i,e,c⟩:=h d
 exact⟨g,b,i,e,c.below f (c.lt (by omega))⟩
theorem aav(a:Option Addr)(n cap:Nat)(X:Nat->Nat->Int)(w:World)(k:n<=1000000)(h:Vcs w a n cap X) :
 Calls Tryz.prog 119 #[.slice a (n) (cap)] w fun e w'=>e = .returned (.agg (aA 6 (rv .u64 (M6 sK X n))))/\Below w.heap.size w w':=by
 refine Kent Tryz.func119 5 ?_
 refine ay<|Ca (m:=6) (y:=rv .u64 (fun _=>0)) (by rfl) rfl (by kernel_rfl) rfl fun i v g d q z => ?_
 have b:=aY q.old (Below.refl w.heap.size w)
 have t:=gH g
 have u:=d.lt
 refine aC<|ay<|av (.slice a (n) (cap))<|dA (Lr a n cap X _ k (aau h b)) _ rfl ?_
 intro x j
 have⟨l,c⟩:=eG j d b
 refine fB l 0 fun s o r A => ?_
 have p:aP s i 6 (rv .u64 (M6 sK X n)) 30:=aU o
 have f:=r.below c c.size (by omega)
 refine aC (Wr (⟨.agg (aA 6 (rv .u64 (M6 sK X n))),rV Tryz.results119 ⟨_,rfl,aT p.aH (by kernel_rfl) (by kernel_rfl)⟩,?_⟩))
 exact⟨rfl,f⟩
namespace Rt
theorem ael(x y:Nat->Int):bG (bG (fun j=>rv .u64 (fun _=>0) (j % 6)) (0*6) 6 (rv .u64 x)) (1*6) 6 (rv .u64 y)=vx (V2 x y):=by
 funext p
 unfold bG
 by_cases b:1*6<=p/\p<1*6+6
 ·rw[if_pos b]
  show _=Value.int .u64 (V2 x y (p / 6) (p % 6))
  rw[show p / 6=1 by omega,show p-1*6=p % 6 by omega]; rfl
 rw[if_neg b]
 by_cases a:0*6<=p/\p<0*6+6
 ·rw[if_pos a]
  show _=Value.int .u64 (V2 x y (p / 6) (p % 6))
  rw[show p / 6=0 by omega,show p-0*6=p % 6 by omega]; rfl
 rw[if_neg a]
 show _=Value.int .u64 (V2 x y (p / 6) (p % 6))
 obtain⟨q,c⟩ : ∃ q,p / 6=q+2:=⟨p / 6-2,by omega⟩
 rw[c]; rfl
end Rt
-- Lm.New is not in this seat
-- (*Lm.aem).Of is not in this seat
-- (*Lm.aem).Told is not in this seat
namespace Rt
def hasB(K:Nat->Int)(o a:Int):Bool:=oK o&&decide (0<a)&&decide (a<=K (o-1).toNat)
theorem FX{a b:Nat->Int}:wS a b=true <-> ∀ i,i<6->rv .u64 (fun p=>sK (a p) (b p)) i=rv .u64 b i:=by
 unfold wS
 rw[List.all_eq_true]
 have e : ∀ i,rv .u64 (fun p=>sK (a p) (b p)) i=rv .u64 b i<->a i<=b i:=fun i=>by
  show Value.int .u64 (sK (a i) (b i))=aD (b i)<->_
  simp only[Value.int.injEq,true_and]; unfold sK; split <;> omega
 constructor
 ·intro h i c; have:=h i (List.mem_range.2 c); rw[e]; exact of_decide_eq_true this
 intro h i c; have:=h i (List.mem_range.1 c); rw[e]at this; exact decide_eq_true this
def Kr(K:Nat->Int):Prop := ∀ i,i<6->iD (K i)
theorem Kr.kd{K:Nat->Int}(h:Kr K):Fx.Kd (List.replicate 6 (some .u64)) (rv .u64 K):=Fx.Dm fun i a=>Fx.rE (h i a)
theorem Kr.mx{K L:Nat->Int}(h:Kr K)(b:Kr L):Kr (fun p=>sK (K p) (L p)):=fun i a=>by
 have c:=h i a; have d:=b i a; show iD (sK (K i) (L i)); unfold sK; split <;> assumption
end Rt
theorem VQ{w:World}{g:Nat}{T:TypeId}{x:Nat->Value}(D K:Nat->Int)(h:aP w g (2*6) x T)(e:x=vx (V2 D K)) :
 Calls Tryz.prog 119 #[bI g 2 2] w fun e w'=>e = .returned (.agg (aA 6 (rv .u64 fun p=>sK (D p) (K p))))/\Below w.heap.size w w' :=
 aav (some ⟨g,0,none⟩) 2 2 (V2 D K) w (by omega) (fun _=>⟨Nat.le_refl _,g,0,rfl,(h.to e).aH⟩)
theorem SF(n:Int)(w:World) :
 Calls Tryz.prog 118 #[au n] w fun e w'=>e = .returned (.bool (oK n))/\w'=w:=by
 refine Kent Tryz.func118 9 ?_
 refine ay<|av aF<|aC<|ay<|av (au n) ?_
 by_cases a:1<=n
 ·refine Lv aG (jv a)<|av aG<|av (au n) ?_
  by_cases b:n<=6
  ·refine Lv aG (mD b)<|av aG<|av aG<|aC<|Wr<|aI aG ?_
   exact⟨gP (by simp only[oK]; first|(symm; simp; omega)|(symm; simp; done)),rfl⟩
  refine Lv aF (mV b)<|av aF<|av aF<|aC<|Wr<|aI aF ?_
  exact⟨gP (by simp only[oK]; first|(symm; simp; omega)|(symm; simp; done)),rfl⟩
 refine Lv aF (ji a)<|av aF<|cB<|cB<|av aF<|av aF<|aC<|Wr<|aI aF ?_
 exact⟨gP (by simp only[oK]; first|(symm; simp; omega)|(symm; simp; done)),rfl⟩
theorem X9(K:Nat->Int)(o q:Int)(w:World) :
 Calls Tryz.prog 91 #[.agg (aA 6 (rv .u64 K)),au o,aD q] w fun e w'=>e = .returned (.bool (hasB K o q))/\Below w.heap.size w w':=by
 refine Kent Tryz.func91 21 ?_
 refine ay<|pK fun k s j i l t => ?_
 have f:=aY l.old (Below.refl w.heap.size w)
 have p:=gH j
 have r:=i.lt
 refine av aF<|aC<|ay<|av (au o) ?_
 by_cases b:(oK o)=true
 ·obtain⟨a,n,m⟩:=eY b
  refine kg (SF o _) aG (by rw[b])<|av aG<|av (aD q) ?_
  by_cases c:0<q
  ·refine Lv aG (jY c)<|av aG<|av aG<|av (au o)<|Lv (au a) fO<|Lv ((pf k a)) (je 6 1)<|Lv (aD (K a)) (aL i.aH a)<|av (aD q) ?_
   by_cases g:q<=(K a)
   ·refine Lv aG (jv g)<|av aG<|av aG<|aC<|Wr<|aI aG ?_
    have d:decide (0<q)=true:=decide_eq_true c
    have h:decide (q<=K (o-1).toNat)=true:=decide_eq_true (by rw[show(o-1).toNat=a by omega]; exact g)
    exact⟨gP (Eq.symm (by unfold hasB; rw[b,d,h]; try rfl)),f⟩
   refine Lv aF (ji g)<|av aF<|av aF<|aC<|Wr<|aI aF ?_
   have d:decide (0<q)=true:=decide_eq_true c
   have h:decide (q<=K (o-1).toNat)=false:=decide_eq_false (by rw[show(o-1).toNat=a by omega]; exact g)
   exact⟨gP (Eq.symm (by unfold hasB; rw[b,d,h]; try rfl)),f⟩
  refine Lv aF (jZ c)<|av aF<|av aF<|cB<|cB<|cB<|cB<|cB<|cB<|av aF<|av aF<|aC<|Wr<|aI aF ?_
  have d:decide (0<q)=false:=decide_eq_false c
  exact⟨gP (Eq.symm (by unfold hasB; rw[b,d]; try rfl)),f⟩
 rw[Bool.not_eq_true]at b
 refine kg (SF o _) aF (by rw[b])<|av aF<|cB<|cB<|av aF<|av aF<|cB<|cB<|cB<|cB<|cB<|cB<|av aF<|av aF<|aC<|Wr<|aI aF ?_
 exact⟨gP (Eq.symm (by unfold hasB; rw[b]; try rfl)),f⟩
theorem SG(D K:Nat->Int)(w:World)(o:Kr D)(b:Kr K) :
 Calls Tryz.prog 92 #[.agg (aA 6 (rv .u64 D)),.agg (aA 6 (rv .u64 K))] w fun e w'=>e = .returned (.bool (wS D K))/\Below w.heap.size w w':=by
 refine Kent Tryz.func92 11 ?_
 refine ay<|pK fun M w1 E d I z1 => ?_
 have f:=aY I.old (Below.refl w.heap.size w)
 have Q:=gH E
 have W:=d.lt
 refine pK fun N w2 l r J z2 => ?_
 have⟨H,B⟩:=eG J.old d f
 have R:=jc l f.size
 have T:=bY l d.lt
 have Z:=r.lt
 refine av aF<|aC<|Ws ?_
 -- region 1 draws
 refine jo [0,1,4,2,3,5,6] [4,4,2,2,1,0,0] [(2,0,[0]),(3,0,[2,0]),(2,1,[1]),(3,1,[2,1]),(3,2,[2]),(5,2,[3,2]),(6,2,[2]),(5,3,[3]),(6,3,[3])] fun oU F P => ?_
 have⟨t,c,g⟩:=jk F H r B
 refine Rs (.agg (aA 6 (rv .u64 D))) (fA t.aH 0) ?_
 refine Rs (.agg (aA 6 (rv .u64 K))) (fA c.aH 0) ?_
 refine Rd (v := .agg (aA 6 (rv .u64 K))) (by rfl) (by rfl) (sO _) (fun A G=>dZ (x:=rv .u64 K) (y:=rv .u64 K) rfl rfl (by kernel_rfl) (by kernel_rfl) (c.aH.below G (by have:=c.lt; omega)) (i:=0) (by omega) (by omega) (fun j _=>by rw[Nat.zero_add])) ?_
 refine zC<|yj (vs := [(0,.agg (aA 6 (rv .u64 D))),(1,.agg (aA 6 (rv .u64 K)))]) (s:=6) (zc:=rv .u64 (fun _=>0)) (y:=bG (bG (fun j=>(rv .u64 (fun _=>0)) (j % 6)) (0*6) 6 (rv .u64 D)) (1*6) 6 (rv .u64 K)) (by rfl) rfl rfl Tryz.underlying191 (by kernel_rfl) (by rfl) (by rfl) (by kernel_rfl) (by rw[bD (off:=0*6) (s:=6) (y:=rv .u64 D) rfl (bJ _ _) (by rfl)]; rw[bD (off:=1*6) (s:=6) (y:=rv .u64 K) rfl (bJ _ _) (by rfl)]; rfl) rfl fun O w3 m u z z3 => ?_
 have C:=aY z.old g
 have S:=jc m g.size
 have⟨U,V⟩:=wM m t.lt c.lt
 have aa:=u.lt
 refine Ln ⟨z.old,?_⟩
 refine zC<|dA (VQ D K u (ael D K)) _ rfl ?_
 intro w4 q
 have L:=Sb q
 have k:=aY q C
 refine Ln ⟨L.old,?_⟩
 by_cases a : ∀ i,i<6->(rv .u64 (fun p=>sK (D p) (K p))) i=(rv .u64 K) i
 ·refine Rp aG (fun A=>Fx.wH (n:=6) (ks:=List.replicate 6 (some .u64)) (X:=rv .u64 (fun p=>sK (D p) (K p))) (Y:=rv .u64 K) 12 true rfl rfl rfl (Fx.EJ a) (o.mx b).kd b.kd rfl (by kernel_rfl) (by kernel_rfl) (by kernel_rfl) (by kernel_rfl) (by kernel_rfl))<|aV aG<|bM<|Wr<|aI aG ?_
  exact⟨gP (Eq.symm (FX.2 a)),k⟩
 refine Rp aF (fun A=>Fx.wH (n:=6) (ks:=List.replicate 6 (some .u64)) (X:=rv .u64 (fun p=>sK (D p) (K p))) (Y:=rv .u64 K) 12 false rfl rfl rfl (Fx.nob a) (o.mx b).kd b.kd rfl (by kernel_rfl) (by kernel_rfl) (by kernel_rfl) (by kernel_rfl) (by kernel_rfl))<|aV aF<|bM<|Wr<|aI aF ?_
 exact⟨gP (Eq.symm (Bool.eq_false_iff.2 (fun h=>a (FX.1 h)))),k⟩
theorem Rt.JA{K:Nat->Int}{v:EvM}(h:dh v=true):ng K v=hasB K v.o v.seq:=by
 have a:=iy h; have b:=(CG h).1
 unfold ng hasB; rw[h,a,show decide (0<v.seq)=true from decide_eq_true (by omega)]; rfl
theorem SH(K:Nat->Int)(v:EvM)(w:World)(k:fC v) :
 Calls Tryz.prog 63 #[.agg (aA 6 (rv .u64 K)),.agg (aA 14 (bO v))] w fun e w'=>e = .returned (.bool (ng K v))/\Below w.heap.size w w':=by
 refine Kent Tryz.func63 15 ?_
 refine ay<|pK fun B H q c z O => ?_
 have f:=aY z.old (Below.refl w.heap.size w)
 have C:=gH q
 have F:=c.lt
 refine pK fun j I i d A P => ?_
 have⟨x,g⟩:=eG A.old c f
 have D:=jc i f.size
 have E:=bY i c.lt
 have G:=d.lt
 refine av aF<|aC<|ay<|Lv (.agg (aA 14 (bO v))) (fA d.aH 0) ?_
 by_cases a:(dh v)=true
 ·refine dA (FW v _ k) aG (by rw[a]) ?_
  intro J r
  have⟨y,l,h⟩:=jk r x d g
  refine av aG<|Lv (.agg (aA 6 (rv .u64 K))) (fA y.aH 0)<|av ((pt j))<|Lv (au v.o) (aL l.aH 0)<|av ((pf j 1))<|Lv (aD v.seq) (aL l.aH 1) ?_
  by_cases b:(hasB K v.o v.seq)=true
  ·refine dA (X9 K v.o v.seq _) aG (by rw[b]) ?_
   intro L s
   have m:=aY s h
   refine av aG<|av aG<|aC<|Wr<|aI aG ?_
   exact⟨gP (Eq.symm ((JA a).trans b)),m⟩
  rw[Bool.not_eq_true]at b
  refine dA (X9 K v.o v.seq _) aF (by rw[b]) ?_
  intro M t
  have n:=aY t h
  refine av aF<|av aF<|aC<|Wr<|aI aF ?_
  exact⟨gP (Eq.symm ((JA a).trans b)),n⟩
 rw[Bool.not_eq_true]at a
 refine dA (FW v _ k) aF (by rw[a]) ?_
 intro N u
 have p:=aY u g
 refine av aF<|cB<|cB<|cB<|cB<|cB<|cB<|av aF<|av aF<|aC<|Wr<|aI aF ?_
 exact⟨gP (Eq.symm (by unfold ng; rw[a]; rfl)),p⟩
theorem M7(K:Nat->Int)(v:EvM)(w:World)(i:fC v)(q:Kr K) :
 Calls Tryz.prog 64 #[.agg (aA 6 (rv .u64 K)),.agg (aA 14 (bO v))] w fun e w'=>e = .returned (.bool (eO K v))/\Below w.heap.size w w':=by
 refine Kent Tryz.func64 24 ?_
 refine ay<|pK fun z Q y l F W => ?_
 have m:=aY F.old (Below.refl w.heap.size w)
 have L:=gH y
 have O:=l.lt
 refine pK fun k R p c G X => ?_
 have⟨r,h⟩:=eG G.old l m
 have M:=jc p m.size
 have N:=bY p l.lt
 have P:=c.lt
 refine av aF<|aC<|Ws ?_
 -- region 1 draws
 refine kZ<|Qv (.agg (aA 14 (bO v))) (fun d b=>fA (c.cb b) 0) ?_
 by_cases f:(dh v)=true
 ·obtain⟨a,I,H⟩:=eY (iy f)
  have J:=CG f
  refine xS (fun _ _=>FW v _ i) aG (by rw[f])<|aR aG<|aR ((pt k))<|Qv (au v.o) (fun d b=>aL (c.cb b) 0)<|Qv (au a) (fun d b=>fO)<|Qv ((pf z a)) (fun d b=>je 6 1)<|Qv (aD (K a)) (fun d b=>aL (r.cb b) a)<|aR ((pf k 1))<|Qv (aD v.seq) (fun d b=>aL (c.cb b) 1)<|Qv (aD (v.seq-1)) (fun d b=>fO) ?_
  by_cases n:(K a)=(v.seq-1)
  ·refine Qv aG (fun d b=>eP n)<|aR aG<|aR aG<|aR ((pf k 2))<|Qv (.agg (aA 6 (rv .u64 v.deps))) (fun d b=>fA (c.cb b) 2 (fun j E=>kW _ (by omega) E))<|Qv (.agg (aA 6 (rv .u64 K))) (fun d b=>fA (r.cb b) 0) ?_
   by_cases g:(wS v.deps K)=true
   ·refine xS (fun _ _=>SG v.deps K _ i.deps q) aG (by rw[g])<|aR aG<|aR aG<|Qn ?_
    intro S A
    have s:=aY A h
    refine sN<|Wr<|aI aG ?_
    have c:decide (v.seq=K (v.o-1).toNat+1)=true:=decide_eq_true (by rw[show(v.o-1).toNat=a by omega]; omega)
    exact⟨gP (Eq.symm (by unfold eO; rw[f,c,g]; try rfl)),s⟩
   rw[Bool.not_eq_true]at g
   refine xS (fun _ _=>SG v.deps K _ i.deps q) aF (by rw[g])<|aR aF<|aR aF<|Qn ?_
   intro T B
   have t:=aY B h
   refine sN<|Wr<|aI aF ?_
   have c:decide (v.seq=K (v.o-1).toNat+1)=true:=decide_eq_true (by rw[show(v.o-1).toNat=a by omega]; omega)
   exact⟨gP (Eq.symm (by unfold eO; rw[f,c,g]; try rfl)),t⟩
  refine Qv aF (fun d b=>fF n)<|aR aF<|aR aF<|aN<|aN<|aN<|aN<|aR aF<|aR aF<|Qn ?_
  intro U C
  have u:=aY C h
  refine sN<|Wr<|aI aF ?_
  have c:decide (v.seq=K (v.o-1).toNat+1)=false:=decide_eq_false (by rw[show(v.o-1).toNat=a by omega]; omega)
  exact⟨gP (Eq.symm (by unfold eO; rw[f,c]; try rfl)),u⟩
 rw[Bool.not_eq_true]at f
 refine xS (fun _ _=>FW v _ i) aF (by rw[f])<|aR aF<|aN<|aN<|aN<|aN<|aN<|aN<|aN<|aN<|aN<|aR aF<|aR aF<|aN<|aN<|aN<|aN<|aR aF<|aR aF<|Qn ?_
 intro V D
 have x:=aY D h
 refine sN<|Wr<|aI aF ?_
 exact⟨gP (Eq.symm (by unfold eO; rw[f]; try rfl)),x⟩
set_option maxRecDepth 20000
namespace Rt
def mO(m:dY)(v:EvM):Int:=if m.T.has v.node=false then 9 else if 140737488355328<m.R (m.idx v.node) (bA v)+v.aX then 6 else 0
def Cr(m:dY)(k:Int)(r:Nat->Int):dY := { m with R:=aQ m.R (m.idx k) r }
def zi(m:dY)(v:EvM):dY:=Cr m v.node (upd (m.R (m.idx v.node)) (bA v) (m.R (m.idx v.node) (bA v)+v.aX))
def vJ(m:dY)(v:EvM):(Nat->Int) × Int:=cK (m.R (m.idx v.node)) v.o v.dst v.aX
def nN(m:dY)(v:EvM):Int:=if m.T.has v.node=false then 9 else if m.inn (v.dst-1).toNat=false then 10 else(vJ m v).2
def JC(m:dY)(v:EvM):dY:=Cr m v.node (vJ m v).1
def JD(m:dY)(v:EvM):dY := { m with inn:=aJ m.inn (v.dst-1).toNat true }
def Ep(m:dY)(v:EvM):dY := { m with left:=aJ m.left (bA v) true }
theorem C8{R:Nat->Nat->Int}{j:Nat}{r:Nat->Int} : ∀ n x w b,Mp w b n x (aQ (vI R) j (.agg (aA 54 (rv .i64 r))))->Mp w b n x (vI (aQ R j r)):=fun n x w b h=>h.qU fun i _=>⟨rfl,by unfold vI aQ; split <;> rfl⟩
end Rt
theorem EU:Fx.uP Tryz.prog 113:=⟨by kernel_rfl,by kernel_rfl,by kernel_rfl⟩
theorem SI(m:dY)(lp B:Nat)(w:World)(h:jV w B lp m)(v:EvM)(Y:dh v=true)(b:Nat)(D:b<6)(X:v.dst=(b:Int)+1)(i:Nat)(f:Nat)(l:aP w i 1 (fun _=>(pt lp)) 37)(k:aP w f 14 (bO v) 32) :
 Calls Tryz.prog 183 #[(pt i),(pt f)] w fun e w'=>e = .returned (.tuple #[])/\jV w' B lp (JD m v)/\jB (Eo m lp) w w':=by
 have x:=h.c
 have C:=h.t
 have z:=h.p
 have A:=h.r
 have y:=h.g
 have u:=h.a
 have d:=h.ne
 have lC:=h.c.lt
 have lT:=h.t.lt
 have lP:=h.p.lt
 have lR:=h.r.lt
 have lG:=h.g.lt
 have lA:=h.a.lt
 have XF:=l.lt
 have Ya:=k.lt
 have E:(v.dst-1).toNat=b:=by omega
 refine Kent Tryz.func183 9 ?_
 -- region 0 draws
 refine jo [1,0,4,5,2,3,6,7] [4,0,4,0,0,0,0,3] [(7,0,[0]),(7,2,[2])] fun W j Z => ?_
 have U:Stp w.heap.size w W:=Sb j
 have⟨n,M,N,O,P,Q,R,S⟩:=lu j x C z A y u l k
 have q:=(uq (Eo m lp) w).then U (.inr (uq (Eo m lp) w).size)
 refine aV ((pf f 10))<|Rs ((pt lp)) (aL R.aH 0) ?_
 refine aV ((pt lp))<|aV ((pt lp))<|Rs (au v.dst) (aL S.aH 10) ?_
 refine Rp (au b) (fun _=>fO)<|Rp ((pf lp b)) (fun _=>je 6 1)<|fQ<|iQ n b aG fun V T o z1 => ?_
 have G:aP V lp 29 (uo { m with inn:=aJ m.inn b true }) 106:=T.to (Sr D _)
 have F:=gY o n.ty
 have⟨H,I,J,K,L⟩:=qp F M N O P Q
 have s:=q.then o (.inl (.inl rfl))
 refine Ln (Rn (⟨.tuple #[],iH Tryz.results183,?_⟩))
 unfold JD; rw[E]
 exact⟨rfl,{ c:=G,t:=H,p:=I,r:=J,g:=K,a:=L,ne:=⟨d.mp,d.mr,d.mg,d.ma,d.pr,d.pg,d.pa,d.rg,d.ra,d.ga⟩,lB:=h.lB,pB:=h.pB,rB:=h.rB,gB:=h.gB,aB:=h.aB },s⟩
theorem OT(m:dY)(lp B:Nat)(w:World)(h:jV w B lp m)(v:EvM)(H:dh v=true)(f:Nat)(d:Nat)(l:aP w f 1 (fun _=>(pt lp)) 37)(k:aP w d 14 (bO v) 32) :
 Calls Tryz.prog 184 #[(pt f),(pt d)] w fun e w'=>e = .returned (.tuple #[])/\jV w' B lp (Ep m v)/\jB (Eo m lp) w w':=by
 have y:=h.c
 have D:=h.t
 have A:=h.p
 have C:=h.r
 have z:=h.g
 have x:=h.a
 have b:=h.ne
 have lC:=h.c.lt
 have lT:=h.t.lt
 have lP:=h.p.lt
 have lR:=h.r.lt
 have lG:=h.g.lt
 have lA:=h.a.lt
 have XF:=l.lt
 have Ya:=k.lt
 obtain⟨a,E,Z⟩ : ∃ a:Nat,a<6/\v.o=(a:Int)+1:=eY (iy H)
 have G:bA v=a:=by unfold bA; omega
 refine Kent Tryz.func184 9 ?_
 -- region 0 draws
 refine jo [1,0,4,5,2,3,6,7] [4,0,4,0,0,0,0,3] [(7,0,[0]),(7,2,[2])] fun Y j aa => ?_
 have W:Stp w.heap.size w Y:=Sb j
 have⟨n,O,P,Q,R,S,T,U⟩:=lu j y D A C z x l k
 have s:=(uq (Eo m lp) w).then W (.inr (uq (Eo m lp) w).size)
 refine aV ((pt d))<|Rs ((pt lp)) (aL T.aH 0) ?_
 refine aV ((pt lp))<|aV ((pf lp 6))<|Rs (au v.o) (aL U.aH 0) ?_
 refine Rp (au a) (fun _=>fO)<|Rp ((pf lp (a+6))) (fun _=>je 6 1)<|fQ<|iQ n (a+6) aG fun X V q z1 => ?_
 have I:aP X lp 29 (uo { m with left:=aJ m.left a true }) 106:=V.to (Sv (i:=a) E (by omega) _)
 have F:=gY q n.ty
 have⟨J,K,L,M,N⟩:=qp F O P Q R S
 have u:=s.then q (.inl (.inl rfl))
 refine Ln (Rn (⟨.tuple #[],iH Tryz.results184,?_⟩))
 unfold Ep; rw[G]
 exact⟨rfl,{ c:=I,t:=J,p:=K,r:=L,g:=M,a:=N,ne:=⟨b.mp,b.mr,b.mg,b.ma,b.pr,b.pg,b.pa,b.rg,b.ra,b.ga⟩,lB:=h.lB,pB:=h.pB,rB:=h.rB,gB:=h.gB,aB:=h.aB },u⟩
theorem OU(m:dY)(lp B:Nat)(w:World)(h:jV w B lp m)(v:EvM)(hv:dh v=true)(P:m.T.has v.node=true)(r:Nat->Int)(k:Nat)(j:Nat)(f:Nat)(hr:aP w k 54 (rv .i64 (r)) 59)(s:aP w j 1 (fun _=>(pt lp)) 37)(o:aP w f 14 (bO v) 32) :
 Calls Tryz.prog 173 #[(pt k),(pt j),(pt f)] w fun e w'=>e = .returned (.tuple #[])/\jV w' B lp (Cr m v.node r)/\jB (Eo m lp) w w':=by
 have J:=h.c
 have O:=h.t
 have M:=h.p
 have N:=h.r
 have K:=h.g
 have I:=h.a
 have b:=h.ne
 have lC:=h.c.lt
 have lT:=h.t.lt
 have lP:=h.p.lt
 have lR:=h.r.lt
 have lG:=h.g.lt
 have lA:=h.a.lt
 have lgr:=hr.lt
 have XF:=s.lt
 have Ya:=o.lt
 obtain⟨u,q,i⟩:=fT P
 have H:m.idx v.node=u:=kY h.t.inv.inj q i
 refine Kent Tryz.func173 10 ?_
 -- region 0 draws
 refine jo [4,0,1,2,3,5,6,7] [4,0,0,4,0,4,4,3] [(7,0,[0]),(7,3,[3]),(7,5,[5]),(7,6,[6])] fun oU l gU => ?_
 have s1:Stp w.heap.size w oU:=Sb l
 have⟨y,Z,m3,z,m5,m6,A,C,D⟩:=Ay l J O M N K I hr s o
 have F:=(uq (Eo m lp) w).then s1 (.inr (uq (Eo m lp) w).size)
 refine aV ((pf f 9))<|Rs ((pt lp)) (aL C.aH 0) ?_
 refine aV ((pt lp))<|aV ((pf lp 20))<|Rs (.map (some m.rb)) (aL y.aH 20) ?_
 refine Rs (aD v.node) (aL D.aH 9) ?_
 refine Rs (.agg (aA 54 (rv .i64 (r)))) (fA A.aH 0) ?_
 refine fQ<|Fx.L.YQ (by rfl) rfl rfl rfl rfl rfl z Tryz.underlying101 Tryz.underlying28 q i fun w1 Q E z1 => ?_
 have d:=z.AB E
 have S:=y.dJ d
 have U:=Z.dJ d (b.mr)
 have V:=m3.dJ d (b.pr)
 have W:=m5.dJ d ((Ne.symm b.rg))
 have X:=m6.dJ d ((Ne.symm b.ra))
 have m16:=A.dJ d
 have m17:=C.dJ d
 have m18:=D.dJ d
 have G:=F.then E (.inl (.inr (.inr (.inr (.inl rfl)))))
 have Y:Mp w1 m.rb m.T.n m.T.x (vI (aQ m.R u (r))):=C8 _ _ _ _ Q
 refine Ln (Rn (⟨.tuple #[],iH Tryz.results173,?_⟩))
 unfold Cr; rw[H]
 exact⟨rfl,{ c:=S,t:=U,p:=V,r:=Y,g:=W,a:=X,ne:=⟨b.mp,b.mr,b.mg,b.ma,b.pr,b.pg,b.pa,b.rg,b.ra,b.ga⟩,lB:=h.lB,pB:=h.pB,rB:=h.rB,gB:=h.gB,aB:=h.aB },G⟩
theorem SK(m:dY)(lp B:Nat)(w:World)(h:jV w B lp m)(v:EvM)(hv:dh v=true)(P:m.T.has v.node=true)(r:Nat->Int)(k:Nat)(j:Nat)(f:Nat)(hr:aP w k 54 (rv .i64 (r)) 59)(s:aP w j 1 (fun _=>(pt lp)) 37)(o:aP w f 14 (bO v) 32) :
 Calls Tryz.prog 182 #[(pt k),(pt j),(pt f)] w fun e w'=>e = .returned (.tuple #[])/\jV w' B lp (Cr m v.node r)/\jB (Eo m lp) w w':=by
 have J:=h.c
 have O:=h.t
 have M:=h.p
 have N:=h.r
 have K:=h.g
 have I:=h.a
 have b:=h.ne
 have lC:=h.c.lt
 have lT:=h.t.lt
 have lP:=h.p.lt
 have lR:=h.r.lt
 have lG:=h.g.lt
 have lA:=h.a.lt
 have lgr:=hr.lt
 have XF:=s.lt
 have Ya:=o.lt
 obtain⟨u,q,i⟩:=fT P
 have H:m.idx v.node=u:=kY h.t.inv.inj q i
 refine Kent Tryz.func182 10 ?_
 -- region 0 draws
 refine jo [4,0,1,2,3,5,6,7] [4,0,0,4,0,4,4,3] [(7,0,[0]),(7,3,[3]),(7,5,[5]),(7,6,[6])] fun oU l gU => ?_
 have s1:Stp w.heap.size w oU:=Sb l
 have⟨y,Z,m3,z,m5,m6,A,C,D⟩:=Ay l J O M N K I hr s o
 have F:=(uq (Eo m lp) w).then s1 (.inr (uq (Eo m lp) w).size)
 refine aV ((pf f 9))<|Rs ((pt lp)) (aL C.aH 0) ?_
 refine aV ((pt lp))<|aV ((pf lp 20))<|Rs (.map (some m.rb)) (aL y.aH 20) ?_
 refine Rs (aD v.node) (aL D.aH 9) ?_
 refine Rs (.agg (aA 54 (rv .i64 (r)))) (fA A.aH 0) ?_
 refine fQ<|Fx.L.YQ (by rfl) rfl rfl rfl rfl rfl z Tryz.underlying101 Tryz.underlying28 q i fun w1 Q E z1 => ?_
 have d:=z.AB E
 have S:=y.dJ d
 have U:=Z.dJ d (b.mr)
 have V:=m3.dJ d (b.pr)
 have W:=m5.dJ d ((Ne.symm b.rg))
 have X:=m6.dJ d ((Ne.symm b.ra))
 have m16:=A.dJ d
 have m17:=C.dJ d
 have m18:=D.dJ d
 have G:=F.then E (.inl (.inr (.inr (.inr (.inl rfl)))))
 have Y:Mp w1 m.rb m.T.n m.T.x (vI (aQ m.R u (r))):=C8 _ _ _ _ Q
 refine Ln (Rn (⟨.tuple #[],iH Tryz.results182,?_⟩))
 unfold Cr; rw[H]
 exact⟨rfl,{ c:=S,t:=U,p:=V,r:=Y,g:=W,a:=X,ne:=⟨b.mp,b.mr,b.mg,b.ma,b.pr,b.pg,b.pa,b.rg,b.ra,b.ga⟩,lB:=h.lB,pB:=h.pB,rB:=h.rB,gB:=h.gB,aB:=h.aB },G⟩
set_option maxRecDepth 20000
namespace Rt
theorem M8{v:EvM}(h:dh v=true)(c:v.kind=5) : ∃ b:Nat,b<6/\v.dst=(b:Int)+1:=by
 unfold dh at h
 simp only[Bool.and_eq_true]at h
 have a:=h.2
 unfold dK at a
 rw[if_neg (by omega),if_neg (by omega),if_neg (by omega),if_neg (by omega),if_pos c]at a
 unfold lI at a
 simp only[Bool.and_eq_true]at a
 exact eY a.2.1
end Rt
theorem aaw(x:Nat->Int)(i j n:Int)(w:World)(hi:1<=i/\i<=6)(a:1<=j/\j<=6) :
 Calls Tryz.prog 181 #[.agg (aA 54 (rv .i64 x)),au i,au j,au n] w fun e w'=>e = .returned (.tuple #[.agg (aA 54 (rv .i64 (cK x i j n).1)),au (cK x i j n).2])/\Below w.heap.size w w' :=
 Ro x i j n w (by omega) (by omega)
theorem aax(x:Nat->Int)(i n:Int)(w:World)(hi:1<=i/\i<=6) :
 Calls Tryz.prog 176 #[.agg (aA 54 (rv .i64 x)),au i,au n] w fun e w'=>e = .returned (.tuple #[.agg (aA 54 (rv .i64 (bE x i n).1)),au (bE x i n).2])/\Below w.heap.size w w' :=
 Ri x i n w (by omega)
theorem aay(x:Nat->Int)(i n:Int)(w:World)(hi:1<=i/\i<=6) :
 Calls Tryz.prog 179 #[.agg (aA 54 (rv .i64 x)),au i,au n] w fun e w'=>e = .returned (.tuple #[.agg (aA 54 (rv .i64 (bF x i n).1)),au (bF x i n).2])/\Below w.heap.size w w' :=
 Rm x i n w (by omega)
theorem SL(m:dY)(lp B:Nat)(w:World)(h:jV w B lp m)(v:EvM)(N:dh v=true)(hkd:v.kind=2)(hRb : ∀ i,i<m.T.n -> ∀ p,p<54->0<=m.R i p/\m.R i p<=1125899906842624) :
 Calls Tryz.prog 163 #[(pt lp),.agg (aA 14 (bO v))] w fun e w'=>Ph w B lp m (zi m v) (mO m v) e w':=by
 have hC:=h.c
 have hT:=h.t
 have hP:=h.p
 have hR:=h.r
 have hG:=h.g
 have hA:=h.a
 have hN:=h.ne
 have lC:=h.c.lt
 have lT:=h.t.lt
 have lP:=h.p.lt
 have lR:=h.r.lt
 have lG:=h.g.lt
 have lA:=h.a.lt
 obtain⟨a,ha,ho⟩ : ∃ a:Nat,a<6/\v.o=(a:Int)+1:=eY (iy N)
 have M:bA v=a:=by unfold bA; omega
 refine Kent Tryz.func163 39 ?_
 refine ay<|yM ((pt lp)) fun l w1 aa O s1 z1 => ?_
 have⟨m2,m4,m5,m6,m7,W⟩:=qo s1.old hC hP hR hG hA (Below.refl w.heap.size w)
 have tL:=gH aa
 have⟨mH,yG,vZ,Ab,yD⟩:=AA aa hC.lt hP.lt hR.lt hG.lt hA.lt
 have vR:=O.lt
 refine pK fun f w2 ab m8 s2 z2 => ?_
 have⟨m9,m11,m12,m13,m14,m15,b2⟩:=jl s2.old m2 m4 m5 m6 m7 O W
 have qO:=jc ab W.size
 have⟨M9,Er,Es,zk,Et,AU⟩:=Gv ab m2.lt m4.lt m5.lt m6.lt m7.lt O.lt
 have zJ:=m8.lt
 refine av (.nilFunc)<|av (au 0)<|aC<|Ws ?_
 -- region 1 draws
 refine jo [4,0,1,2,3,5,6,7,8,9,10,11,12] [1,0,0,1,0,1,1,0,0,0,2,3,0] [(11,0,[0]),(11,3,[3]),(11,5,[5]),(11,6,[6]),(11,10,[10]),(12,10,[10]),(12,11,[11])] fun oU dL gU => ?_
 have⟨E,m18,F,m20,m21,s,u,y⟩:=lu dL m9 m11 m12 m13 m14 m15 m8 b2
 refine aV ((pf f 9))<|Rd (v:=(pt lp)) (by rfl) (by rfl) (sO _) (fun G j=>bC (x:=fun _=>(pt lp)) rfl rfl (by kernel_rfl) (s.aH.below j (by have:=s.lt; omega)) (i:=0) (by omega) (by omega) rfl) ?_
 refine aV ((pt lp))<|aV ((pf lp 20))<|Rd (v := .map (some m.rb)) (by rfl) (by rfl) (sO _) (fun G j=>bC (x:=uo m) rfl rfl (by kernel_rfl) (E.aH.below j (by have:=E.lt; omega)) (i:=20) (by omega) (by omega) rfl) ?_
 refine Rd (v:=aD v.node) (by rfl) (by rfl) (sO _) (fun G j=>bC (x:=bO v) rfl rfl (by kernel_rfl) (u.aH.below j (by have:=u.lt; omega)) (i:=9) (by omega) (by omega) rfl) ?_
 rcases Fx.qx m.T.x m.T.n v.node with ⟨b,D,J⟩|iP
 ·refine Rd (v := .tuple #[.agg (aA 54 (rv .i64 (m.R b))),.bool true]) (by rfl) (by rfl) (sO _) (fun G j=>Fx.Dv (z := .agg (aA 54 (rv .i64 (fun _=>0)))) rfl rfl rfl (F.up j) Tryz.underlying101 Tryz.underlying28 (by kernel_rfl) D J rfl) ?_
  refine aV (.tuple #[.agg (aA 54 (rv .i64 (m.R b))),.bool true])<|aV (.agg (aA 54 (rv .i64 (m.R b))))<|aV aG<|zC<|wC 54 (rv .i64 (fun _=>0)) fun d w3 ac P s4 z3 => ?_
  have⟨lH,m32,X⟩:=jk s4.old s u y
  have Dy:=jc ac y.size
  have⟨Ls,Lu,SN,SQ,SS,aaz,aaA⟩:=KF ac E.lt m18.lt F.lt m20.lt m21.lt s.lt u.lt
  have KQ:=P.lt
  refine Ln ⟨s4.old,?_⟩
  refine fQ<|fB P 0 fun w4 oI s5 z4 => ?_
  have nG:aP w4 d 54 (rv .i64 (m.R b)) 59:=aU oI
  have gI:=gY s5 P.ty
  have⟨mW,lY⟩:=Az gI lH m32
  have b5:=s5.below X X.size (by omega)
  refine Ln<|aV aG<|bM<|Ws<|ay<|av aG<|av aF<|aC<|aK<|Wk<|sN<|Ws<|Ws ?_
  have K:m.idx v.node=b:=kY h.t.inv.inj D J
  have q:m.T.has v.node=true:=iW D J
  have q1:=hRb b D a (by omega)
  have q2:=vG N (.inl hkd)
  -- region 4 draws
  refine jo [0,3,6,9,1,2,4,5,7,8,10,11] [0,4,0,0,0,4,0,4,0,0,0,3] [(11,1,[1]),(11,5,[5]),(11,7,[7])] fun yP fG lQ => ?_
  have⟨qY,Q,S,Y⟩:=mF fG mW lY nG b5
  refine aV ((pt f))<|aV ((pt d))<|aV ((pf f 11))<|aV ((pt d))<|Rs (au v.o) (aL Q.aH 0) ?_
  refine Rp (au a) (fun _=>fO)<|Rp ((pf d a)) (fun _=>je 6 1)<|Rs (au ((m.R b) a)) (aL S.aH a) ?_
  refine Rs (au v.aX) (aL Q.aH 11) ?_
  refine Rp (au (((m.R b) a)+v.aX)) (fun _=>eZ)<|Rp ((pf d a)) (fun _=>je 6 1)<|fQ<|iQ S a (au (((m.R b) a)+v.aX)) fun w5 uS s7 z5 => ?_
  have U:aP w5 d 54 (rv .i64 (upd (m.R b) a (((m.R b) a)+v.aX))) 59:=uS.to (Fx.xu _ _ _ _)
  have jN:=gY s7 S.ty
  have⟨pR,V⟩:=Az jN qY Q
  have H:=s7.below Y Y.size (by omega)
  refine Ln<|bM<|ay<|av ((pt f))<|Lv (au v.o) (aL V.aH 0)<|Lv (au a) fO<|av ((pt d))<|Lv ((pf d a)) (je 6 1)<|Lv (au ((upd (m.R b) a (((m.R b) a)+v.aX)) a)) (aL U.aH a) ?_
  by_cases A:140737488355328<((upd (m.R b) a (((m.R b) a)+v.aX)) a)
  ·refine Lv aG (jY A)<|aC<|aM<|ay<|av (.nilFunc)<|av (au 6)<|aC<|Wr<|sR<|aI (.tuple #[.nilFunc,au 6]) ?_
   have k:mO m v=6:=by unfold mO; rw[if_neg (by rw[q]; decide)]; exact if_pos (by rw[K,M]; simpa [upd] using A)
   exact⟨⟨.nilFunc,0,#[],by rw[k],rfl,fun I=>absurd (k.symm.trans I) (by first|decide|omega|assumption)⟩,H⟩
  refine Lv aF (jZ A)<|aC<|aK<|Wk<|sN<|ay<|Lv (.func (.func 173) #[] #[(pt d),(pt l),(pt f)]) (Fx.mh (us := []) (vs := [(pt d),(pt l),(pt f)]) rfl rfl rfl)<|av (.func (.func 173) #[] #[(pt d),(pt l),(pt f)])<|av (au 0)<|aC<|Wr<|aI (.tuple #[.func (.func 173) #[] #[(pt d),(pt l),(pt f)],au 0]) ?_
  have em:zi m v=Cr m v.node (upd (m.R b) a (m.R b a+v.aX)):=by unfold zi; rw[K,M]
  rw[em]
  have k:mO m v=0:=by unfold mO; rw[if_neg (by rw[q]; decide)]; exact if_neg (by rw[K,M]; simpa [upd] using A)
  exact⟨⟨_,173,#[(pt d),(pt l),(pt f)],by rw[k],rfl,fun _=>⟨rfl,⟨_,_,Tryz.func173,rfl,rfl⟩,fun w2 C=>(OU m lp B w2 ((h.up H).up C) v N q _ _ _ _ (U.bZ (Sb C) (Nat.ne_of_lt U.lt)) (pR.bZ (Sb C) (Nat.ne_of_lt pR.lt)) (V.bZ (Sb C) (Nat.ne_of_lt V.lt))).mono fun _ _ L=>⟨L.1,L.2.1,L.2.2.mono fun _ q => .inl q⟩⟩⟩,H⟩
 refine Rd (v := .tuple #[.agg (aA 54 (rv .i64 (fun _=>0))),.bool false]) (by rfl) (by rfl) (sO _) (fun G j=>Fx.Du (z := .agg (aA 54 (rv .i64 (fun _=>0)))) rfl rfl rfl (F.up j) Tryz.underlying101 Tryz.underlying28 (by kernel_rfl) iP) ?_
 refine aV (.tuple #[.agg (aA 54 (rv .i64 (fun _=>0))),.bool false])<|aV (.agg (aA 54 (rv .i64 (fun _=>0))))<|aV aF<|zC<|wC 54 (rv .i64 (fun _=>0)) fun g4 w6 ad mU s8 z6 => ?_
 have Z:=aY s8.old y
 have Uq:=jc ad y.size
 have⟨akH,akI,aaB,aaC,aaD,aaE,aaF⟩:=KF ad E.lt m18.lt F.lt m20.lt m21.lt s.lt u.lt
 have R3:=mU.lt
 refine Ln ⟨s8.old,?_⟩
 refine fQ<|fB mU 0 fun w7 sV s9 z7 => ?_
 have uD:aP w7 g4 54 (rv .i64 (fun _=>0)) 59:=aU sV
 have b9:=s9.below Z Z.size (by omega)
 refine Ln<|aV aF<|bM<|Ws<|ay<|av aF<|av aG<|aC<|aM<|ay<|av (.nilFunc)<|av (au 9)<|aC<|Wr<|sR<|aI (.tuple #[.nilFunc,au 9]) ?_
 have k:mO m v=9:=by unfold mO; exact if_pos (xC iP)
 exact⟨⟨.nilFunc,0,#[],by rw[k],rfl,fun I=>absurd (k.symm.trans I) (by first|decide|omega|assumption)⟩,b9⟩
theorem VR(m:dY)(lp B:Nat)(w:World)(h:jV w B lp m)(v:EvM)(Q:dh v=true)(hkd:v.kind=5) :
 Calls Tryz.prog 166 #[(pt lp),.agg (aA 14 (bO v))] w fun e w'=>Ph w B lp m (JC m v) (nN m v) e w':=by
 have hC:=h.c
 have hT:=h.t
 have hP:=h.p
 have hR:=h.r
 have hG:=h.g
 have hA:=h.a
 have hN:=h.ne
 have lC:=h.c.lt
 have lT:=h.t.lt
 have lP:=h.p.lt
 have lR:=h.r.lt
 have lG:=h.g.lt
 have lA:=h.a.lt
 obtain⟨a,ha,ho⟩ : ∃ a:Nat,a<6/\v.o=(a:Int)+1:=eY (iy Q)
 have hra:bA v=a:=by unfold bA; omega
 obtain⟨b,hb,hd⟩:=M8 Q hkd
 have N:(v.dst-1).toNat=b:=by omega
 refine Kent Tryz.func166 47 ?_
 refine ay<|yM ((pt lp)) fun y w1 aa S s1 z1 => ?_
 have⟨m2,m4,m5,m6,m7,V⟩:=qo s1.old hC hP hR hG hA (Below.refl w.heap.size w)
 have tL:=gH aa
 have⟨mH,yG,vZ,Ab,yD⟩:=AA aa hC.lt hP.lt hR.lt hG.lt hA.lt
 have vR:=S.lt
 refine pK fun f w2 ab m8 s2 z2 => ?_
 have⟨m9,m11,m12,m13,m14,m15,b2⟩:=jl s2.old m2 m4 m5 m6 m7 S V
 have qO:=jc ab V.size
 have⟨M9,Er,Es,zk,Et,AU⟩:=Gv ab m2.lt m4.lt m5.lt m6.lt m7.lt S.lt
 have zJ:=m8.lt
 refine av (.nilFunc)<|av (au 0)<|aC<|Ws ?_
 -- region 1 draws
 refine jo [4,0,1,2,3,5,6,7,8,9,10,11,12] [1,0,0,1,0,1,1,0,0,0,2,3,0] [(11,0,[0]),(11,3,[3]),(11,5,[5]),(11,6,[6]),(11,10,[10]),(12,10,[10]),(12,11,[11])] fun oU dL gU => ?_
 have⟨A,m18,I,m20,m21,C,D,F⟩:=lu dL m9 m11 m12 m13 m14 m15 m8 b2
 refine aV ((pf f 9))<|Rd (v:=(pt lp)) (by rfl) (by rfl) (sO _) (fun J k=>bC (x:=fun _=>(pt lp)) rfl rfl (by kernel_rfl) (C.aH.below k (by have:=C.lt; omega)) (i:=0) (by omega) (by omega) rfl) ?_
 refine aV ((pt lp))<|aV ((pf lp 20))<|Rd (v := .map (some m.rb)) (by rfl) (by rfl) (sO _) (fun J k=>bC (x:=uo m) rfl rfl (by kernel_rfl) (A.aH.below k (by have:=A.lt; omega)) (i:=20) (by omega) (by omega) rfl) ?_
 refine Rd (v:=aD v.node) (by rfl) (by rfl) (sO _) (fun J k=>bC (x:=bO v) rfl rfl (by kernel_rfl) (D.aH.below k (by have:=D.lt; omega)) (i:=9) (by omega) (by omega) rfl) ?_
 rcases Fx.qx m.T.x m.T.n v.node with ⟨d,P,M⟩|iP
 ·refine Rd (v := .tuple #[.agg (aA 54 (rv .i64 (m.R d))),.bool true]) (by rfl) (by rfl) (sO _) (fun J k=>Fx.Dv (z := .agg (aA 54 (rv .i64 (fun _=>0)))) rfl rfl rfl (I.up k) Tryz.underlying101 Tryz.underlying28 (by kernel_rfl) P M rfl) ?_
  refine aV (.tuple #[.agg (aA 54 (rv .i64 (m.R d))),.bool true])<|aV (.agg (aA 54 (rv .i64 (m.R d))))<|aV aG<|zC<|wC 54 (rv .i64 (fun _=>0)) fun l w3 ac U s4 z3 => ?_
  have⟨lW,lH,m32,W⟩:=mF s4.old A C D F
  have Dy:=jc ac F.size
  have⟨Ls,Lu,SN,SQ,SS,aaz,aaA⟩:=KF ac A.lt m18.lt I.lt m20.lt m21.lt C.lt D.lt
  have KQ:=U.lt
  refine Ln ⟨s4.old,?_⟩
  refine fQ<|fB U 0 fun w4 oI s5 z4 => ?_
  have nG:aP w4 l 54 (rv .i64 (m.R d)) 59:=aU oI
  have gI:=gY s5 U.ty
  have⟨oJ,mW,lY⟩:=EK gI lW lH m32
  have b5:=s5.below W W.size (by omega)
  refine Ln<|aV aG<|bM<|Ws<|Wb<|ay<|av aG<|av aF<|av aF<|aC<|aK<|Ws ?_
  have ex:m.idx v.node=d:=kY h.t.inv.inj P M
  have s:m.T.has v.node=true:=iW P M
  -- region 4 draws
  refine jo [1,0,4,5,2,3,6,7,8,9] [4,0,4,0,0,0,0,4,0,0] [] fun yP fG lQ => ?_
  have⟨lX,qY,E,uw,X⟩:=qm fG oJ mW lY nG b5
  refine aV ((pf f 10))<|Rs ((pt lp)) (aL qY.aH 0) ?_
  refine aV ((pt lp))<|aV ((pt lp))<|Rs (au v.dst) (aL E.aH 10) ?_
  refine Rp (au b) (fun _=>fO)<|Rp ((pf lp b)) (fun _=>je 6 1) ?_
  by_cases q:(m.inn b)=true
  ·refine Rs aG (aL lX.aH b ((Bo (by omega)).trans (congrArg Value.bool q))) ?_
   refine aV aF<|aV aF<|bM<|aK<|Wk<|bP<|sN<|ay<|Lv (.agg (aA 54 (rv .i64 (m.R d)))) (fA uw.aH 0)<|av ((pt f))<|Lv (au v.o) (aL E.aH 0)<|av ((pf f 10))<|Lv (au v.dst) (aL E.aH 10)<|av ((pf f 11))<|Lv (au v.aX) (aL E.aH 11)<|dA (aaw (m.R d) v.o v.dst v.aX _ (by omega) (by omega)) _ rfl ?_
   intro w5 hb1
   have⟨rO,vV,pR,Y⟩:=mF hb1 qY E uw X
   refine av (.tuple #[.agg (aA 54 (rv .i64 ((cK (m.R d) v.o v.dst v.aX).1))),au ((cK (m.R d) v.o v.dst v.aX).2)])<|av (.agg (aA 54 (rv .i64 ((cK (m.R d) v.o v.dst v.aX).1))))<|av (au ((cK (m.R d) v.o v.dst v.aX).2))<|fB pR 0 fun w6 vW s8 z5 => ?_
   have mU:aP w6 l 54 (rv .i64 ((cK (m.R d) v.o v.dst v.aX).1)) 59:=aU vW
   have jN:=gY s8 pR.ty
   have⟨ru,sU⟩:=Az jN rO vV
   have K:=s8.below Y Y.size (by omega)
   refine av (au ((cK (m.R d) v.o v.dst v.aX).2))<|aC<|Ws<|ay<|av (au ((cK (m.R d) v.o v.dst v.aX).2)) ?_
   by_cases L:((cK (m.R d) v.o v.dst v.aX).2)=0
   ·refine Lv aF (jJ L)<|aC<|aK<|Wk<|sN<|ay<|Lv (.func (.func 182) #[] #[(pt l),(pt y),(pt f)]) (Fx.mh (us := []) (vs := [(pt l),(pt y),(pt f)]) rfl rfl rfl)<|av (.func (.func 182) #[] #[(pt l),(pt y),(pt f)])<|av (au 0)<|aC<|Wr<|aI (.tuple #[.func (.func 182) #[] #[(pt l),(pt y),(pt f)],au 0]) ?_
    have G:vJ m v=cK (m.R d) v.o v.dst v.aX:=by unfold vJ; rw[ex]
    show Ph w B lp m (Cr m v.node (vJ m v).1) _ _ _
    rw[G]
    have j:nN m v=0:=by unfold nN; rw[if_neg (by rw[s]; decide),if_neg (by rw[N,q]; decide),G]; exact L
    exact⟨⟨_,182,#[(pt l),(pt y),(pt f)],by rw[j],rfl,fun _=>⟨rfl,⟨_,_,Tryz.func182,rfl,rfl⟩,fun w2 H=>(SK m lp B w2 ((h.up K).up H) v Q s _ _ _ _ (mU.bZ (Sb H) (Nat.ne_of_lt mU.lt)) (ru.bZ (Sb H) (Nat.ne_of_lt ru.lt)) (sU.bZ (Sb H) (Nat.ne_of_lt sU.lt))).mono fun _ _ O=>⟨O.1,O.2.1,O.2.2.mono fun _ s => .inl s⟩⟩⟩,K⟩
   refine Lv aG (mE L)<|aC<|aM<|ay<|av (au ((cK (m.R d) v.o v.dst v.aX).2))<|av (.nilFunc)<|av (au ((cK (m.R d) v.o v.dst v.aX).2))<|aC<|Wr<|sR<|aI (.tuple #[.nilFunc,au ((cK (m.R d) v.o v.dst v.aX).2)]) ?_
   have G:vJ m v=cK (m.R d) v.o v.dst v.aX:=by unfold vJ; rw[ex]
   have j:nN m v=(cK (m.R d) v.o v.dst v.aX).2:=by unfold nN; rw[if_neg (by rw[s]; decide),if_neg (by rw[N,q]; decide),G]
   exact⟨⟨.nilFunc,0,#[],by rw[j],rfl,fun u=>absurd (j.symm.trans u) (by first|decide|omega|assumption)⟩,K⟩
  rw[Bool.not_eq_true]at q
  refine Rs aF (aL lX.aH b ((Bo (by omega)).trans (congrArg Value.bool q))) ?_
  refine aV aG<|aV aG<|bM<|aM<|ay<|av (.nilFunc)<|av (au 10)<|aC<|Wr<|bK<|sR<|aI (.tuple #[.nilFunc,au 10]) ?_
  have j:nN m v=10:=by unfold nN; rw[if_neg (by rw[s]; decide)]; exact if_pos (by rw[N]; exact q)
  exact⟨⟨.nilFunc,0,#[],by rw[j],rfl,fun u=>absurd (j.symm.trans u) (by first|decide|omega|assumption)⟩,X⟩
 refine Rd (v := .tuple #[.agg (aA 54 (rv .i64 (fun _=>0))),.bool false]) (by rfl) (by rfl) (sO _) (fun J k=>Fx.Du (z := .agg (aA 54 (rv .i64 (fun _=>0)))) rfl rfl rfl (I.up k) Tryz.underlying101 Tryz.underlying28 (by kernel_rfl) iP) ?_
 refine aV (.tuple #[.agg (aA 54 (rv .i64 (fun _=>0))),.bool false])<|aV (.agg (aA 54 (rv .i64 (fun _=>0))))<|aV aF<|zC<|wC 54 (rv .i64 (fun _=>0)) fun g4 w7 ad sV s9 z6 => ?_
 have Z:=aY s9.old F
 have Uq:=jc ad F.size
 have⟨aaG,akJ,aaH,akK,aaI,aaJ,aaK⟩:=KF ad A.lt m18.lt I.lt m20.lt m21.lt C.lt D.lt
 have R3:=sV.lt
 refine Ln ⟨s9.old,?_⟩
 refine fQ<|fB sV 0 fun w8 uT s10 z7 => ?_
 have tN:aP w8 g4 54 (rv .i64 (fun _=>0)) 59:=aU uT
 have b10:=s10.below Z Z.size (by omega)
 refine Ln<|aV aF<|bM<|Ws<|Wb<|ay<|av aF<|av aG<|av aG<|aC<|aM<|ay<|av (.nilFunc)<|av (au 9)<|aC<|Wr<|bK<|sR<|aI (.tuple #[.nilFunc,au 9]) ?_
 have j:nN m v=9:=by unfold nN; exact if_pos (xC iP)
 exact⟨⟨.nilFunc,0,#[],by rw[j],rfl,fun u=>absurd (j.symm.trans u) (by first|decide|omega|assumption)⟩,b10⟩
theorem VT(m:dY)(lp B:Nat)(w:World)(h:jV w B lp m)(v:EvM)(I:dh v=true)(b:Nat)(F:b<6)(G:v.dst=(b:Int)+1) :
 Calls Tryz.prog 167 #[(pt lp),.agg (aA 14 (bO v))] w fun e w'=>Ph w B lp m (JD m v) (0) e w':=by
 have x:=h.c
 have R:=h.t
 have z:=h.p
 have A:=h.r
 have y:=h.g
 have u:=h.a
 have Q:=h.ne
 have T:=h.c.lt
 have X:=h.t.lt
 have V:=h.p.lt
 have W:=h.r.lt
 have U:=h.g.lt
 have S:=h.a.lt
 refine Kent Tryz.func167 7 ?_
 refine ay<|yM ((pt lp)) fun d w1 q k O z1 => ?_
 have⟨J,K,L,M,N,n⟩:=qo O.old x z A y u (Below.refl w.heap.size w)
 have Y:=gH q
 have⟨aa,ab,ac,ad,ae⟩:=AA q x.lt z.lt A.lt y.lt u.lt
 have al:=k.lt
 refine pK fun f D s l P z2 => ?_
 have⟨C,o⟩:=eG P.old k n
 have Z:=jc s n.size
 have⟨ak,af,ag,ah,ai,aj⟩:=Gv s J.lt K.lt L.lt M.lt N.lt k.lt
 have am:=l.lt
 refine av (.nilFunc)<|av (au 0)<|aC<|ay<|Lv (.func (.func 183) #[] #[(pt d),(pt f)]) (Fx.mh (us := []) (vs := [(pt d),(pt f)]) rfl rfl rfl)<|av (.func (.func 183) #[] #[(pt d),(pt f)])<|av (au 0)<|aC<|Wr<|aI (.tuple #[.func (.func 183) #[] #[(pt d),(pt f)],au 0]) ?_
 have E:(0:Int)=0:=rfl
 exact⟨⟨_,183,#[(pt d),(pt f)],by rw[E],rfl,fun _=>⟨rfl,⟨_,_,Tryz.func183,rfl,rfl⟩,fun D i=>(SI m lp B D ((h.up o).up i) v I b F G _ _ (C.bZ (Sb i) (Nat.ne_of_lt C.lt)) (l.bZ (Sb i) (Nat.ne_of_lt l.lt))).mono fun _ _ j=>⟨j.1,j.2.1,j.2.2.mono fun _ H => .inl H⟩⟩⟩,o⟩
theorem SV(m:dY)(lp B:Nat)(w:World)(h:jV w B lp m)(v:EvM)(F:dh v=true) :
 Calls Tryz.prog 168 #[(pt lp),.agg (aA 14 (bO v))] w fun e w'=>Ph w B lp m (Ep m v) (0) e w':=by
 have u:=h.c
 have O:=h.t
 have y:=h.p
 have z:=h.r
 have x:=h.g
 have s:=h.a
 have N:=h.ne
 have Q:=h.c.lt
 have U:=h.t.lt
 have S:=h.p.lt
 have T:=h.r.lt
 have R:=h.g.lt
 have P:=h.a.lt
 refine Kent Tryz.func168 7 ?_
 refine ay<|yM ((pt lp)) fun b w1 o j L z1 => ?_
 have⟨G,H,I,J,K,l⟩:=qo L.old u y z x s (Below.refl w.heap.size w)
 have V:=gH o
 have⟨X,Y,Z,aa,ab⟩:=AA o u.lt y.lt z.lt x.lt s.lt
 have ai:=j.lt
 refine pK fun d C q k M z2 => ?_
 have⟨A,n⟩:=eG M.old j l
 have W:=jc q l.size
 have⟨ah,ac,ad,ae,af,ag⟩:=Gv q G.lt H.lt I.lt J.lt K.lt j.lt
 have aj:=k.lt
 refine av (.nilFunc)<|av (au 0)<|aC<|ay<|Lv (.func (.func 184) #[] #[(pt b),(pt d)]) (Fx.mh (us := []) (vs := [(pt b),(pt d)]) rfl rfl rfl)<|av (.func (.func 184) #[] #[(pt b),(pt d)])<|av (au 0)<|aC<|Wr<|aI (.tuple #[.func (.func 184) #[] #[(pt b),(pt d)],au 0]) ?_
 have D:(0:Int)=0:=rfl
 exact⟨⟨_,184,#[(pt b),(pt d)],by rw[D],rfl,fun _=>⟨rfl,⟨_,_,Tryz.func184,rfl,rfl⟩,fun C f=>(OT m lp B C ((h.up n).up f) v F _ _ (A.bZ (Sb f) (Nat.ne_of_lt A.lt)) (k.bZ (Sb f) (Nat.ne_of_lt k.lt))).mono fun _ _ i=>⟨i.1,i.2.1,i.2.2.mono fun _ E => .inl E⟩⟩⟩,n⟩
section
open Rt
set_option maxRecDepth 10000
-- acp.Same is not in this seat
theorem akL(o q:Nat)(w:World)(a:1<=o/\o<=6)(c:1<=q/\q<1099511627776) :
 Calls Tryz.prog 169 #[au ((o:Int)),aD ((q:Int))] w fun e w'=>e = .returned (aD (1099511627776*(o:Int)+(q:Int)))/\w'=w:=by
 refine Kent Tryz.func169 24 ?_
 refine ay<|av (aD 0)<|aC<|Ws<|ay<|av (au o)<|Lv aF Dq<|av aF<|av (au o)<|Lv aF wL<|av aF<|av aF<|av (aD q)<|Lv aF Dq<|av aF<|av aF<|av (aD q)<|Lv aF Io<|av aF<|aC<|aK<|Wk<|sN<|ay<|av (au o)<|Lv (aD o) (dw rfl rfl (by kernel_rfl) Tryz.underlying28 (jr (by omega) rfl))<|Lv (aD (1099511627776*(o:Int))) (Fx.Ik (b:=40) rfl rfl rfl (by decide) (jr (by omega) (by omega)))<|av (aD q)<|Lv (aD (1099511627776*(o:Int)+(q:Int))) (Fx.Zw rfl rfl rfl (by omega) (by omega))<|av (aD (1099511627776*(o:Int)+(q:Int)))<|aC<|Wr<|aI (aD (1099511627776*(o:Int)+(q:Int))) ?_
 exact⟨rfl,rfl⟩
end
end Go.Proofs.YtahbiajdgealnaaGreatDoor
namespace Go.Proofs.YtahbiajdgealnaaGreatDoor
open Go.RowKit Go
set_option linter.unusedVariables false
namespace Rt
theorem Bp : ∀(n m:Nat) (f:Nat->Nat),(∀ i,i<m->f i<n)->(∀ i j,i<m->j<m->f i=f j->i=j)->m<=n
 | 0,m,f,h1,_=>by
   rcases Nat.eq_zero_or_pos m with h|h
   ·omega
   ·have:=h1 0 h; omega
 | n+1,m,f,h1,h2=>by
   rcases Nat.eq_zero_or_pos m with h|h
   ·omega
   by_cases d : ∃ a,a<m/\f a=n
   ·obtain⟨a,b,e⟩:=d
    have:=Bp n (m-1) (fun j=>f (if j=a then m-1 else j)) (fun j o=>by
     have g:=h1 (if j=a then m-1 else j) (by split <;> omega)
     have k:f (if j=a then m-1 else j)≠n:=fun c=>by
      have:=h2 _ a (by split <;> omega) b (c.trans e.symm)
      split at this <;> omega
     show f _<n
     omega) (fun i j l p c=>by
     have:=h2 _ _ (by split <;> omega) (by split <;> omega) c
     split at this <;> split at this <;> omega)
    omega
   ·have:=Bp n m f (fun i b=>by
     have:=h1 i b
     have:f i≠n:=fun e=>d ⟨i,b,e⟩
     omega) h2
    omega
section
variable {T U:dN} {id pa k:Int} {i:Nat}
theorem dN.C9(h:T.err id pa=0):T.add id pa=T.put id pa:=if_pos h
theorem dN.aaL(h : ¬ T.err id pa=0):T.add id pa=T:=if_neg h
theorem dN.Ac(hi:i<T.n):T.has (T.x i)=true:=iW hi rfl
theorem dN.JE(h:T.ok)(hi:i<T.n):T.par (T.x i)=T.p i:=zD h.inj hi rfl
theorem dN.step(h:T.ok)(a:T.has k=true):T.path k=k::T.path (T.par k):=by
 have b:iO T.x T.p T.n 3 (T.par k):=h.stop k a
 show(if dP T.x T.n k=true then k::iX T.x T.p T.n 3 (T.par k)else [])=_
 rw[if_pos (show dP T.x T.n k=true from a),<- (Gy b (show 3<=4 by omega)).1]; rfl
theorem dN.aaM(h:T.ok)(hi:i<T.n):T.path (T.x i)=T.x i::T.path (T.p i):=by rw[dN.step h (dN.Ac hi),dN.JE h hi]
theorem dN.Ad:(T.path k).length<=4:=xD
theorem dN.aaN(h:T.ok):T.path 0 = []:=AO.acL h 4
theorem tO.zero(T:dN):tO dN.zero T:=⟨fun _ h=>(nomatch h),fun _ h=>(nomatch h)⟩
theorem tO.path(b:T.ok)(a:U.ok)(h:tO U T) : ∀(d:Nat) (k:Int),(k=0\/U.has k=true)->iX U.x U.p U.n d k=iX T.x T.p T.n d k
 | 0,_,_=>rfl
 | d+1,k,hk=>by
   rcases hk with rfl|hk
   ·rw[kH (AO.YW a),kH (AO.YW b)]
   ·unfold iX
    have c:dP U.x U.n k=true:=hk
    have e:dP T.x T.n k=true:=h.has k hk
    have f:gZ U.x U.p U.n k=gZ T.x T.p T.n k:=h.par k hk
    rw[if_pos c,if_pos e,<- f,tO.path b a h d]
    exact AO.up a hk
theorem tO.lt(s:U.ok)(h:tO U T)(hi:i<T.n)(m:U.has (T.x i)=false):U.n<T.n:=by
 have p : ∀ j,∃ q,j<U.n->q<T.n/\T.x q=U.x j:=fun j=>by
  by_cases g:j<U.n
  ·obtain⟨q,c,d⟩:=fT (h.has _ (dN.Ac g))
   exact⟨q,fun _=>⟨c,d⟩⟩
  ·exact⟨0,fun h=>absurd h g⟩
 obtain⟨f,k⟩:=Classical.axiomOfChoice p
 have:=Bp T.n (U.n+1) (fun j=>if j=U.n then i else f j) (fun j g=>by
  show(if j=U.n then i else f j)<T.n
  split
  ·exact hi
  ·exact(k j (by omega)).1) (fun a b t u e=>by
  have o : ∀ j,j<U.n->f j≠i:=fun j g e=>by
   have c:=(k j g).2
   rw[e]at c
   rw[c,dN.Ac g]at m; cases m
  have e:(if a=U.n then i else f a)=(if b=U.n then i else f b):=e
  by_cases c:a=U.n
  ·by_cases d:b=U.n
   ·omega
   ·rw[if_pos c,if_neg d]at e; exact absurd e.symm (o b (by omega))
  ·by_cases d:b=U.n
   ·rw[if_neg c,if_pos d]at e; exact absurd e (o a (by omega))
   ·rw[if_neg c,if_neg d]at e
    have l:=(k a (by omega)).2
    have r:=(k b (by omega)).2
    rw[e]at l
    exact s.inj a b (by omega) (by omega) (l.symm.trans r))
 omega
theorem tO.add(d:T.ok)(g:U.ok)(h:tO U T)(hi:i<T.n)(j:T.p i=0\/U.has (T.p i)=true) :
 tO (U.add (T.x i) (T.p i)) T/\(U.add (T.x i) (T.p i)).has (T.x i)=true /\ ∀ k,U.has k=true->(U.add (T.x i) (T.p i)).has k=true:=by
 cases hh:U.has (T.x i)with
 | true =>
   have e:U.add (T.x i) (T.p i)=U:=by
    refine dN.aaL fun m => ?_
    have:=(KM m).2.1
    rw[show dP U.x U.n (T.x i)=U.has (T.x i)from rfl,hh]at this; cases this
   rw[e]; exact⟨h,hh,fun _ h=>h⟩
 | false =>
   have s:=(d.pos i hi).1
   have q:=tO.lt g h hi hh
   have r:=d.small
   have l:U.err (T.x i) (T.p i)=0:=by
    unfold dN.err qV
    rw[if_neg (by omega),if_neg (by rw[show dP U.x U.n (T.x i)=U.has (T.x i)from rfl,hh]; decide),if_neg,if_neg]
    ·rintro (b|b)
     ·omega
     ·have f:=tO.path d g h 4 (T.p i) j
      rw[f]at b
      have c:=dN.aaM d hi
      have o:(T.path (T.x i)).length<=4:=dN.Ad
      rw[c,List.length_cons]at o
      have b:4<=(T.path (T.p i)).length:=b
      omega
    ·rintro ⟨b,f⟩
     rcases j with c|c
     ·exact b c
     ·rw[show dP U.x U.n (T.p i)=U.has (T.p i)from rfl,c]at f; cases f
   rw[dN.C9 l]
   refine⟨⟨fun k a => ?_,fun k a => ?_⟩,?_,fun k a => ?_⟩
   ·rw[dN.jH,Bool.or_eq_true]at a
    rcases a with a|a
    ·exact h.has k a
    ·rw[<- of_decide_eq_true a]; exact dN.Ac hi
   ·rw[dN.jH,Bool.or_eq_true]at a
    rw[dN.uR]
    split
    ·rename_i e; subst e; exact(dN.JE d hi).symm
    ·rename_i e
     rcases a with a|a
     ·exact h.par k a
     ·exact absurd (of_decide_eq_true a) e
   ·rw[dN.jH,decide_eq_true rfl,Bool.or_true]
   ·rw[dN.jH,a,Bool.true_or]
structure JG(T U:dN)(r k:Nat):Prop where
 sub:tO U T
 fst : ∀ j,j<r->j<T.n->U.has (T.x j)=true
 nxt:k<=r->r<T.n->U.has (T.x r)=true
theorem JG.start(T:dN) : ∀ {r:Nat},r=0->JG T dN.zero r T.n:=fun e=>⟨tO.zero T,fun j h=>by omega,fun a b=>by omega⟩
theorem JG.add{r k:Nat}(f:T.ok)(g:U.ok)(h:JG T U r k)(m:0<k)(o:k<=T.n)(l:T.p (k-1)=0\/U.has (T.p (k-1))=true):JG T (U.add (T.x (k-1)) (T.p (k-1))) r (k-1):=by
 obtain⟨c,d,b⟩:=tO.add f g h.sub (show k-1<T.n by omega) l
 refine⟨c,fun j i a=>b _ (h.fst j i a),fun q a => ?_⟩
 by_cases e:k<=r
 ·exact b _ (h.nxt e a)
 obtain rfl:r=k-1:=by omega
 exact d
theorem JG.skip{r k:Nat}(b:T.ok)(h:JG T U r k)(f:0<k)(g:k<=T.n)(d : ¬ T.p (k-1)=0)(a:U.has (T.p (k-1))=false):JG T U r (k-1):=by
 refine⟨h.sub,h.fst,fun j c => ?_⟩
 by_cases e:k<=r
 ·exact h.nxt e c
 obtain rfl:r=k-1:=by omega
 rcases b.par (k-1) (by omega)with h1|⟨i,hi,h1⟩
 ·exact absurd h1 d
 rw[<- h1,h.fst i hi (by omega)]at a; cases a
theorem JG.next{r:Nat}(h:JG T U r 0):JG T U (r+1) T.n :=
 ⟨h.sub,fun j d a=>by
  by_cases e:j=r
  ·subst e; exact h.nxt (Nat.zero_le _) a
  ·exact h.fst j (by omega) a,fun b c=>by omega⟩
theorem JG.all{r k:Nat}(h:JG T U r k)(hr:T.n<=r) : ∀ k,T.has k=true->U.has k=true:=fun k b=>by
 obtain⟨j,a,rfl⟩:=fT b
 exact h.fst j (by omega) a
theorem JG.path{r k:Nat}(h:JG T U r k)(hr:T.n<=r)(q:Int):U.path q=T.path q:=h.sub.same (h.all hr) q
theorem JG.list{r k:Nat}(h:JG T U r k)(hr:T.n<=r){l m:List Int}(a:l.Pairwise (· < ·) /\ ∀ k,k∈l<->T.has k=true)(b:m.Pairwise (· < ·) /\ ∀ k,k∈m<->U.has k=true):m=l :=
 xE b.1 a.1 fun k=>(b.2 k).trans (Iff.trans ⟨h.sub.has k,h.all hr k⟩ (a.2 k).symm)
end
def Pj(l:List Int)(v:Int)(n:Nat)(b:Bool):Prop:=b=true <-> ∃ j,j<n/\j<l.length/\l.getD j 0=v
theorem Pj.zero(l:List Int)(v:Int):Pj l v 0 false:=⟨fun h=>(nomatch h),fun⟨j,h,_⟩=>absurd h (Nat.not_lt_zero _)⟩
theorem Pj.keep{l:List Int}{v:Int}{n:Nat}(h:Pj l v n true):Pj l v (n+1) true:=⟨fun _=>by obtain⟨j,b,a⟩:=h.1 rfl; exact⟨j,by omega,a⟩,fun _=>rfl⟩
theorem Pj.yes{l:List Int}{v:Int}{n:Nat}(a:n<l.length)(e:l.getD n 0=v):Pj l v (n+1) true:=⟨fun _=>⟨n,by omega,a,e⟩,fun _=>rfl⟩
theorem Pj.no{l:List Int}{v:Int}{n:Nat}(h:Pj l v n false)(e : ¬ l.getD n 0=v):Pj l v (n+1) false:=⟨fun h=>(nomatch h),fun⟨j,d,c,a⟩=>by
 by_cases b:j=n
 ·subst b; exact absurd a e
 ·exact h.2 ⟨j,by omega,c,a⟩⟩
theorem Pj.mem{l:List Int}{v:Int}{n:Nat}{b:Bool}(h:Pj l v n b)(i:l.length<=n):b=true<->v∈l:=by
 constructor
 ·intro f
  obtain⟨j,_,c,d⟩:=h.1 f
  exact tK c d
 intro g
 obtain⟨j,a,e⟩:=List.getElem_of_mem g
 refine h.2 ⟨j,by omega,a,?_⟩
 rw[List.getD_eq_getElem?_getD,List.getElem?_eq_getElem a]; exact e
end Rt
end Go.Proofs.YtahbiajdgealnaaGreatDoor
namespace Go.Proofs.YtahbiajdgealnaaGreatDoor
open Go.RowKit Go
set_option linter.unusedVariables false
namespace Rt
def VU(x:Nat->Int)(v:Int)(j aq:Nat):Prop:=(aq=0 /\ ∀ q,q<j->x q≠v)\/(0<aq/\aq<=j/\x (aq-1)=v)
section
variable {x:Nat->Int} {v:Int} {j aq:Nat}
theorem VU.zero:VU x v 0 0 := .inl ⟨rfl,fun _ h=>absurd h (Nat.not_lt_zero _)⟩
theorem VU.yes(e:x j=v):VU x v (j+1) (j+1) := .inr ⟨by omega,by omega,e⟩
theorem VU.no(h:VU x v j aq)(e : ¬ x j=v):VU x v (j+1) aq:=by
 rcases h with ⟨a,b⟩|⟨a,b,h3⟩
 ·refine .inl ⟨a,fun q d => ?_⟩
  by_cases c:q=j
  ·subst c; exact e
  exact b q (by omega)
 exact .inr ⟨a,by omega,h3⟩
end
section
variable {x p:Nat->Int} {n:Nat}
theorem qg : ∀ {d:Nat} {v:Int},iO x p n d v -> ∀ k,k<(iX x p n d v).length->dP x n ((iX x p n d v).getD k 0)=true /\
 (k+1<(iX x p n d v).length->(iX x p n d v).getD (k+1) 0=gZ x p n ((iX x p n d v).getD k 0))/\(k+1=(iX x p n d v).length->dP x n (gZ x p n ((iX x p n d v).getD k 0))=false)
 | 0,v,h,k,hk=>absurd hk (Nat.not_lt_zero _)
 | d+1,v,h,k,hk=>by
   cases hv:dP x n v with
   | false=>rw[kH hv]at hk; exact absurd hk (Nat.not_lt_zero _)
   | true =>
     have e:iX x p n (d+1) v=v::iX x p n d (gZ x p n v):=by show(if _ then _ else _)=_; rw[if_pos hv]
     have c:iO x p n d (gZ x p n v):=h hv
     have i := @qg d (gZ x p n v) c
     have g:0<(iX x p n d (gZ x p n v)).length->(iX x p n d (gZ x p n v)).getD 0 0=gZ x p n v:=fun a=>by
      cases d with
      | zero=>exact absurd a (Nat.not_lt_zero _)
      | succ d =>
        unfold iX at a ⊢
        split at a
        ·rename_i hq; rw[if_pos hq]; rfl
        ·exact absurd a (Nat.not_lt_zero _)
     rw[e]at hk ⊢
     rw[List.length_cons]at hk ⊢
     cases k with
     | zero =>
       rw[List.getD_cons_zero,List.getD_cons_succ]
       refine⟨hv,fun b=>g (by omega),fun b => ?_⟩
       cases hq:dP x n (gZ x p n v)with
       | false=>rfl
       | true =>
         obtain⟨j,_,_,f⟩:=Fh c hq
         rw[f,List.length_cons]at b; omega
     | succ k =>
       rw[List.getD_cons_succ,List.getD_cons_succ]
       have:=i k (by omega)
       exact⟨this.1,fun b=>this.2.1 (by omega),fun b=>this.2.2 (by omega)⟩
end
section
variable {T:dN} {id pa k v:Int} {i j aq:Nat} {pl:List Int}
theorem VU.get(h:VU T.x v T.n aq)(d:T.has v=true):0<aq/\aq-1<T.n/\T.x (aq-1)=v:=by
 rcases h with ⟨a,b⟩|⟨a,b,h3⟩
 ·obtain⟨q,c,e⟩:=fT d
  exact absurd e (b q c)
 exact⟨a,by omega,h3⟩
theorem dN.Lx(h:T.ok)(e:pl=T.path v){q:Nat}(a:q<pl.length):T.has (pl.getD q 0)=true:=by
 subst e; exact(qg (h.stop v) q a).1
theorem dN.VW(h:T.ok)(e:pl=T.path v){q:Nat}(b:q+1<pl.length)(ha:aq-1<T.n)(hx:T.x (aq-1)=pl.getD q 0):T.p (aq-1)=pl.getD (q+1) 0:=by
 subst e
 have:=(qg (h.stop v) q (Nat.lt_of_succ_lt b)).2.1 b
 have a:=dN.JE h ha
 rw[hx]at a
 exact a.symm.trans this.symm
theorem dN.VX(h:T.ok)(e:pl=T.path v){q:Nat}(c:q+1=pl.length)(ha:aq-1<T.n)(hx:T.x (aq-1)=pl.getD q 0):T.p (aq-1)=0:=by
 subst e
 have a:=(qg (h.stop v) q (Nat.lt_of_succ_le (Nat.le_of_eq c))).2.2 c
 have b:=dN.JE h ha
 rw[hx]at b
 rw[show gZ T.x T.p T.n ((iX T.x T.p T.n 4 v).getD q 0)=T.p (aq-1)from b]at a
 rcases h.par _ ha with h4|⟨i,hi,h4⟩
 ·exact h4
 rw[<- h4,iW (by omega) rfl]at a; cases a
theorem dN.aaO(d : ¬ id=0)(e:pa=0\/T.has pa=true):T.err id pa=if T.has id=true then 14 else if 32<=T.n\/4<=(T.path pa).length then 6 else 0:=by
 show qV T.x T.p T.n id pa=_
 unfold qV
 rw[if_neg d]
 have c : ¬ (¬ pa=0/\dP T.x T.n pa=false):=by
  rintro ⟨b,a⟩
  rcases e with h3|h3
  ·exact b h3
  ·rw[show dP T.x T.n pa=T.has pa from rfl,h3]at a; cases a
 rw[if_neg c]; rfl
end
def Yb(v1 v2:Value):Prop := ∀ g,v1.ownBlock=some g->v2.ownBlock≠some g
section
variable {w w':World} {v v2:Value} {B s n g m c:Nat} {E:TypeId} {x:Nat->Value}
theorem Yb.symm(h:Yb v v2):Yb v2 v:=fun g a b=>h g b a
theorem Yb.nil:Yb (.slice none 0 0) v:=fun g h=>nomatch h
theorem Yb.app(h:Yb v v2)(b:Fx.Own w B E s v n x)(d:v2.ownBlock=some g\/g=w.heap.size):Yb v (bI g m c):=fun q a e=>by
 have e:some g=some q:=e
 obtain rfl:=Option.some.inj e
 rcases d with h1|h1
 ·exact h _ a h1
 ·have:=(b.ge a).2; omega
end
end Rt
end Go.Proofs.YtahbiajdgealnaaGreatDoor
namespace Go.Proofs.YtahbiajdgealnaaGreatDoor
open Go.RowKit Go
set_option linter.unusedVariables false
namespace Rt
def EG(n:Nat):Nat->List Nat
 | 0 => []
 | j+1=>EG n j ++ [n-1-j]
theorem Na(n:Nat) : ∀ j,(EG n j).length=j
 | 0=>rfl
 | j+1=>by unfold EG; rw[List.length_append,Na n j]; rfl
def Kj(T:dN)(l:List Int)(a:List Nat):dN:=a.foldl (fun U x=>U.add (l.getD x 0) (T.par (l.getD x 0))) dN.zero
theorem Eu(T:dN)(l:List Int)(a:List Nat)(x:Nat):Kj T l (a ++ [x])=(Kj T l a).add (l.getD x 0) (T.par (l.getD x 0)):=by unfold Kj; rw[List.foldl_append]; rfl
def jT(l ll:List Int)(U:dN):Nat->dN
 | 0=>U
 | i+1=>if ll.getD i 0∈l then jT l ll U i else(jT l ll U i).add (ll.getD i 0) 0
section
variable {T U:dN} {l ll:List Int} {id pa k v:Int} {i j n:Nat}
theorem has_lt(t:U.ok)(h : ∀ k,U.has k=true->T.has k=true)(hx:T.has v=true)(o:U.has v=false):U.n<T.n:=by
 obtain⟨i,u,rfl⟩:=fT hx
 have r : ∀ j,∃ q,j<U.n->q<T.n/\T.x q=U.x j:=fun j=>by
  by_cases g:j<U.n
  ·obtain⟨q,c,d⟩:=fT (h _ (dN.Ac g))
   exact⟨q,fun _=>⟨c,d⟩⟩
  ·exact⟨0,fun h=>absurd h g⟩
 obtain⟨f,l⟩:=Classical.axiomOfChoice r
 have:=Bp T.n (U.n+1) (fun j=>if j=U.n then i else f j) (fun j g=>by
  show(if j=U.n then i else f j)<T.n
  split
  ·exact u
  ·exact(l j (by omega)).1) (fun a b w y e=>by
  have p : ∀ j,j<U.n->f j≠i:=fun j g e=>by
   have c:=(l j g).2
   rw[e]at c
   rw[c,dN.Ac g]at o; cases o
  have e:(if a=U.n then i else f a)=(if b=U.n then i else f b):=e
  by_cases c:a=U.n
  ·by_cases d:b=U.n
   ·omega
   ·rw[if_pos c,if_neg d]at e; exact absurd e.symm (p b (by omega))
  ·by_cases d:b=U.n
   ·rw[if_neg c,if_pos d]at e; exact absurd e (p a (by omega))
   ·rw[if_neg c,if_neg d]at e
    have m:=(l a (by omega)).2
    have s:=(l b (by omega)).2
    rw[e]at m
    exact t.inj a b (by omega) (by omega) (m.symm.trans s))
 omega
theorem SX(p:U.ok)(h : ∀ k,U.has k=true->T.has k=true):U.n<=T.n:=by
 have l : ∀ j,∃ q,j<U.n->q<T.n/\T.x q=U.x j:=fun j=>by
  by_cases i:j<U.n
  ·obtain⟨q,m,o⟩:=fT (h _ (dN.Ac i))
   exact⟨q,fun _=>⟨m,o⟩⟩
  ·exact⟨0,fun h=>absurd h i⟩
 obtain⟨f,c⟩:=Classical.axiomOfChoice l
 exact Bp T.n U.n f (fun q r=>(c q r).1) fun a b d g e=>p.inj a b d g (by rw[<- (c a d).2,<- (c b g).2,e])
structure BwI(T U:dN)(l:List Int)(j:Nat):Prop where
 ok:U.ok
 sub:tO U T
 has : ∀ x,l.length-j<=x->x<l.length->U.has (l.getD x 0)=true
 only : ∀ k,U.has k=true->k∈l
theorem SY(a:T.ok)(hi:i<T.n):0<=T.x i/\T.x i<=18446744073709551615:=by have:=a.pos i hi; omega
theorem VY(U:dN)(id pa k:Int)(h:(U.add id pa).has k=true):U.has k=true\/k=id:=by
 unfold dN.add at h
 split at h
 ·rw[dN.jH,Bool.or_eq_true]at h
  rcases h with h|h
  ·exact .inl h
  exact .inr (of_decide_eq_true h).symm
 exact .inl h
theorem S9(a:T.ok)(e:l=T.path pa) : ∀ j,j<=l.length->BwI T (Kj T l (EG l.length j)) l j
 | 0,_=>⟨AO.zero _ _,tO.zero T,fun x g c=>by omega,fun k h=>nomatch h⟩
 | j+1,hj=>by
   have d:=S9 a e j (by omega)
   have m:l.length-1-j<l.length:=by omega
   have t:T.has (l.getD (l.length-1-j) 0)=true:=dN.Lx a e m
   obtain⟨i,f,b⟩:=fT t
   have n:T.par (l.getD (l.length-1-j) 0)=T.p i:=by rw[<- b]; exact dN.JE a f
   show BwI T (Kj T l (EG l.length j ++ [l.length-1-j])) l (j+1)
   rw[Eu,n,<- b]
   have s:T.p i=0\/(Kj T l (EG l.length j)).has (T.p i)=true:=by
    by_cases r:l.length-1-j+1=l.length
    ·exact .inl (dN.VX (aq:=i+1) a e r f b)
    ·have c:=dN.VW (aq:=i+1) a e (show l.length-1-j+1<l.length by omega) f b
     have c:T.p i=l.getD (l.length-1-j+1) 0:=c
     right
     rw[c]
     exact d.has _ (by omega) (by omega)
   obtain⟨u,v,w⟩:=tO.add a d.ok d.sub f s
   refine⟨dN.GD d.ok (SY a f),u,fun x g c => ?_,fun k q => ?_⟩
   ·by_cases o:x=l.length-1-j
    ·rw[o,<- b]; exact v
    ·exact w _ (d.has x (by omega) c)
   ·rcases VY _ _ _ _ q with g|rfl
    ·exact d.only k g
    ·rw[b]
     rw[List.getD_eq_getElem?_getD,List.getElem?_eq_getElem m]; exact List.getElem_mem m
structure RtI(T U:dN)(l ll:List Int)(i:Nat):Prop where
 ok:U.ok
 sub : ∀ k,U.has k=true->T.has k=true
 par : ∀ k,k∈l->U.has k=true/\U.par k=T.par k
 has : ∀ q,q<i->q<ll.length->U.has (ll.getD q 0)=true
 only : ∀ k,U.has k=true->k∈l \/ ∃ q,q<i/\q<ll.length/\ll.getD q 0=k
theorem aaP(d:ll.Pairwise (· < ·)){a b:Nat}(ha:a<ll.length)(c:b<ll.length)(e:ll.getD a 0=ll.getD b 0):a=b:=by
 rw[List.getD_eq_getElem?_getD,List.getD_eq_getElem?_getD,List.getElem?_eq_getElem ha,List.getElem?_eq_getElem c]at e
 have e:ll[a]=ll[b]:=e
 rcases Nat.lt_trichotomy a b with h1|h1|h1
 ·have:=List.pairwise_iff_getElem.1 d a b ha c h1; omega
 ·exact h1
 have:=List.pairwise_iff_getElem.1 d b a c ha h1; omega
theorem Ta(d:T.ok)(g:ll.Pairwise (· < ·) /\ ∀ k,k∈ll<->T.has k=true)(n:RtI T U l ll 0) : ∀ i,i<=ll.length->RtI T (jT l ll U i) l ll i
 | 0,_=>n
 | i+1,hi=>by
   have b:=Ta d g n i (by omega)
   unfold jT
   have s:ll.getD i 0∈ll:=by rw[List.getD_eq_getElem?_getD,List.getElem?_eq_getElem (by omega)]; exact List.getElem_mem _
   have f:=(g.2 _).1 s
   by_cases c:ll.getD i 0∈l
   ·rw[if_pos c]
    refine⟨b.ok,b.sub,b.par,fun q v h => ?_,fun k a => ?_⟩
    ·by_cases e:q=i
     ·rw[e]; exact(b.par _ c).1
     ·exact b.has q (by omega) h
    ·rcases b.only k a with h1|⟨q,h1,h2,h3⟩
     ·exact .inl h1
     ·exact .inr ⟨q,by omega,h2,h3⟩
   ·rw[if_neg c]
    obtain⟨z,r,m⟩:=fT f
    have o:=SY d r
    rw[m]at o
    have u:=d.pos z r
    rw[m]at u
    have p:(jT l ll U i).has (ll.getD i 0)=false:=by
     cases hh:(jT l ll U i).has (ll.getD i 0)with
     | false=>rfl
     | true =>
       rcases b.only _ hh with h1|⟨q,h1,h2,h3⟩
       ·exact absurd h1 c
       ·have:=aaP g.1 h2 (by omega) h3; omega
    have w:=has_lt b.ok b.sub f p
    have x:=d.small
    have j:(jT l ll U i).err (ll.getD i 0) 0=0:=by
     rw[dN.aaO (by omega) (.inl rfl),if_neg (by rw[p]; decide),if_neg]
     rw[dN.aaN b.ok]
     rintro (h1|h1)
     ·omega
     ·simp at h1
    rw[dN.C9 j]
    have t : ∀ k,k∈l -> ¬ ll.getD i 0=k:=fun k a e=>c (e ▸ a)
    refine⟨by have:=dN.GD (pa:=0) b.ok o; rwa [dN.C9 j]at this,fun k a => ?_,fun k a => ?_,fun q v h => ?_,fun k a => ?_⟩
    ·rw[dN.jH,Bool.or_eq_true]at a
     rcases a with a|a
     ·exact b.sub k a
     ·rw[<- of_decide_eq_true a]; exact f
    ·rw[dN.jH,dN.uR,if_neg (t k a),(b.par k a).1,Bool.true_or]
     exact⟨rfl,(b.par k a).2⟩
    ·rw[dN.jH]
     by_cases e:q=i
     ·rw[e,decide_eq_true rfl,Bool.or_true]
     ·rw[b.has q (by omega) h,Bool.true_or]
    ·rw[dN.jH,Bool.or_eq_true]at a
     rcases a with a|a
     ·rcases b.only k a with h1|⟨q,h1,h2,h3⟩
      ·exact .inl h1
      ·exact .inr ⟨q,by omega,h2,h3⟩
     ·exact .inr ⟨i,by omega,by omega,of_decide_eq_true a⟩
theorem FY(c : ∀ k,U.has k=T.has k) : ∀(d:Nat) (k:Int),(∀ q,q∈iX T.x T.p T.n d k->U.par q=T.par q)->iX U.x U.p U.n d k=iX T.x T.p T.n d k
 | 0,_,_=>rfl
 | d+1,k,h=>by
   have a:dP U.x U.n k=dP T.x T.n k:=c k
   cases hk:dP T.x T.n k with
   | false=>rw[kH hk,kH (a.trans hk)]
   | true =>
     have b:iX T.x T.p T.n (d+1) k=k::iX T.x T.p T.n d (gZ T.x T.p T.n k):=by show(if _ then _ else _)=_; rw[if_pos hk]
     have e:iX U.x U.p U.n (d+1) k=k::iX U.x U.p U.n d (gZ U.x U.p U.n k):=by show(if _ then _ else _)=_; rw[if_pos (a.trans hk)]
     rw[b]at h
     have f:gZ U.x U.p U.n k=gZ T.x T.p T.n k:=h k (List.mem_cons_self ..)
     rw[b,e,f,FY c d _ fun q g=>h q (List.mem_cons_of_mem _ g)]
theorem VZ(i:T.ok)(e:l=T.path pa)(m:ll.Pairwise (· < ·) /\ ∀ k,k∈ll<->T.has k=true):(jT l ll (Kj T l (EG l.length l.length)) ll.length).err id pa=T.err id pa:=by
 have d:=S9 i e l.length (Nat.le_refl _)
 have t : ∀ k,k∈l -> ∃ x,x<l.length/\l.getD x 0=k:=fun k a=>by
  obtain⟨x,h,r⟩:=List.getElem_of_mem a
  exact⟨x,h,by rw[List.getD_eq_getElem?_getD,List.getElem?_eq_getElem h]; exact r⟩
 have s:RtI T (Kj T l (EG l.length l.length)) l ll 0:=⟨d.ok,d.sub.has,fun k a=>by
  obtain⟨x,h,rfl⟩:=t k a
  have:=d.has x (by omega) h
  exact⟨this,d.sub.par _ this⟩,fun q b=>by omega,fun k a => .inl (d.only k a)⟩
 have c:=Ta i m s ll.length (Nat.le_refl _)
 generalize jT l ll (Kj T l (EG l.length l.length)) ll.length=V at c
 have g : ∀ k,V.has k=T.has k:=fun k=>by
  cases f:T.has k with
  | false =>
    cases j:V.has k with
    | false=>rfl
    | true=>rw[c.sub k j]at f; cases f
  | true =>
    obtain⟨q,b,o⟩:=List.getElem_of_mem ((m.2 k).2 f)
    have:=c.has q b b
    rw[List.getD_eq_getElem?_getD,List.getElem?_eq_getElem b]at this
    rw[<- o]; exact this
 have u:V.n=T.n:=by
  have f:=SX c.ok c.sub
  have j:=SX i (fun k a=>by rw[g]; exact a : ∀ k,T.has k=true->V.has k=true)
  omega
 have v:V.path pa=T.path pa:=FY g 4 pa fun q b=>(c.par q (by rw[e]; exact b)).2
 show qV V.x V.p V.n id pa=qV T.x T.p T.n id pa
 unfold qV
 have w:iX V.x V.p V.n 4 pa=iX T.x T.p T.n 4 pa:=v
 rw[show dP V.x V.n id=dP T.x T.n id from g id,show dP V.x V.n pa=dP T.x T.n pa from g pa,w,u]
end
end Rt
end Go.Proofs.YtahbiajdgealnaaGreatDoor
namespace Go.Proofs.YtahbiajdgealnaaGreatDoor
open Go.RowKit Go
set_option linter.unusedVariables false
namespace Fx
abbrev wZ:=Exit->(Nat->Value)->List Deferred->World->Prop
def Td(n:Nat)(Q:wZ):Exit->Act->World->Prop:=fun e a w => ∃ f,zo a n f/\Q e f a.defers w
def W0(ro:Option Nat)(m:Nat)(P:Program)(n:Nat)(c:Code)(Q:wZ)(f:Nat->Value)(ds:List Deferred)(w:World):Prop := ∀ a,zo a n f->a.defers=ds->c.wpIn (FR ro) m P (Td n Q) a w
def Te(ro:Option Nat)(m:Nat)(P:Program)(n:Nat)(y:Code)(Q:wZ):wZ:=fun e f ds w=>match e with | .normal=>W0 ro m P n y Q f ds w|e=>Q e f ds w
def Ae(id:Nat)(Q:wZ):wZ:=fun e f ds w=>match e with | .exit id'=>if id'=id then Q .normal f ds w else Q (.exit id') f ds w|e=>Q e f ds w
def LA(I:(Nat->Value)->World->Prop)(b:(Nat->Value)->World->Nat)(k:Nat)(ds:List Deferred)(Q:wZ):wZ:=fun e f a w=>match e with | .normal=>a=ds/\I f w/\b f w<k|e=>Q e f a w
section
variable {ro:Option Nat} {m:Nat} {ds:List Deferred} {P:Program} {n:Nat} {Q:wZ} {f:Nat->Value} {w:World}
theorem W0.seq{x y:Code}(h:W0 ro m P n x (Te ro m P n y Q) f ds w):W0 ro m P n (.seq x y) Q f ds w:=fun a i j =>
 wpIn_seq (wpIn_mono (h a i j) fun e d w' b=>by
  obtain⟨g,c,b⟩:=b
  cases e <;> first|exact b d c rfl|exact⟨g,c,b⟩)
theorem W0.skip(h:Q .normal f ds w):W0 ro m P n .skip Q f ds w:=fun _ a b=>wpIn_skip ⟨f,a,b ▸ h⟩
theorem W0.ret(h:Q .ret f ds w):W0 ro m P n .ret Q f ds w:=fun _ a b=>wpIn_ret ⟨f,a,b ▸ h⟩
theorem W0.exit{id:Nat}(h:Q (.exit id) f ds w):W0 ro m P n (.exit id) Q f ds w:=fun _ a b=>wpIn_exit ⟨f,a,b ▸ h⟩
theorem W0.block{id:Nat}{c:Code}(h:W0 ro m P n c (Ae id Q) f ds w):W0 ro m P n (.block id c) Q f ds w:=fun a i j =>
 wpIn_block (wpIn_mono (h a i j) fun e k w' b=>by
  obtain⟨d,g,b⟩:=b
  cases e <;> first
   | exact⟨d,g,b⟩
   | (simp only[Ae]at b; simp only[Exit.inBlock]; split at b <;> rename_i hid <;> simp only[hid,if_true,if_false] <;> exact⟨d,g,b⟩))
theorem W0.cond{c:Operand}{x y:Code}{b:Bool}(h:ev f c = .bool b)(j:b=true->W0 ro m P n x Q f ds w)(i:b=false->W0 ro m P n y Q f ds w):W0 ro m P n (.cond c x y) Q f ds w:=fun a d g =>
 wpIn_cond_split (t:=b) (by rw[d.ev]; exact h) (fun e=>j e a d g) (fun e=>i e a d g)
theorem W0.loop{c:Code}(I:(Nat->Value)->World->Prop)(k:(Nat->Value)->World->Nat)(r:I f w)(hr : ∀ f w,I f w->W0 ro m P n c (LA I k (k f w) ds Q) f ds w):W0 ro m P n (.loop c) Q f ds w:=fun a s h =>
 wpIn_loop (fun a w => ∃ f,zo a n f/\a.defers=ds/\I f w) (fun a w=>k (fun i=>a.tmps.getD i undef) w) ⟨f,s,h,r⟩ (fun a w g=>by
  obtain⟨f,l,h,g⟩:=g
  have e:(fun i=>a.tmps.getD i undef)=f:=funext l.get
  refine wpIn_mono (hr f w g a l h)<|fun p o w' b => ?_
  obtain⟨d,j,b⟩:=b
  cases p <;> first
   | exact⟨d,j,b⟩
   | (have q:(fun i=>o.tmps.getD i undef)=d:=funext j.get
      exact⟨⟨d,j,b.1,b.2.1⟩,by rw[e,q]; exact b.2.2⟩))
theorem W0.list{id:Nat}{ops:List Oper}(h:L P n ops.toArray (fun e f w=>Q e f ds w) ops f w)(k:ops.all jw=true:=by rfl):W0 ro m P n (.region id ops.toArray false) Q f ds w:=fun a i j =>
 Fg i h k fun e l w' ⟨b,c,d,g⟩=>⟨b,c,by rw[d,j]; exact g⟩
theorem pF{y:Code}(h:W0 ro m P n y Q f ds w):Te ro m P n y Q .normal f ds w:=h
theorem aen{id:Nat}{y:Code}(h:Q (.exit id) f ds w):Te ro m P n y Q (.exit id) f ds w:=h
theorem JH{id:Nat}(h:Q .normal f ds w):Ae id Q .normal f ds w:=h
theorem aeo{id:Nat}(h:Q .normal f ds w):Ae id Q (.exit id) f ds w:=by simp only[Ae,if_true]; exact h
theorem akO{I:(Nat->Value)->World->Prop}{a:(Nat->Value)->World->Nat}{k id:Nat}(h:Q (.exit id) f ds w):LA I a k ds Q (.exit id) f ds w:=h
theorem aep{I:(Nat->Value)->World->Prop}{a:(Nat->Value)->World->Nat}{k:Nat}(h:I f w)(b:a f w<k):LA I a k ds Q .normal f ds w:=⟨rfl,h,b⟩
def Yc(P:Program)(m:Nat)(b:Func)(R:Ending->World->Prop):wZ:=fun e f ds w => ∀ a,zo a b.ntmps f->a.defers=ds->bodyPostM (FR none) m P b R e a w
theorem aaQ{g:FuncId}{b:Func}{c:Code}{args:Array Value}{R:Ending->World->Prop}(m:Nat)(k:P.funcs[g]? = some b)(j:b.body=some c)(f:b.ntmps=n)(ha:Nat.ble args.size n=true)(h:W0 none m P n c (Yc P m b R) (start args) [] w):Calls P g args w R:=by
 have q:args.size<=n:=Nat.le_of_ble_eq_true ha
 refine(callsIn_wide (n:=m)).1 (callsIn_of_wp_marks (F:=FR none) k j trivial ?_ rfl)
 refine wpIn_mono (h _ ⟨?_,?_⟩ rfl) fun e a w' ⟨p,l,o⟩=>o a (by rw[f]; exact l) rfl
 ·simp[f]; omega
 intro i
 simp only[start,Array.getD_eq_getD_getElem?,Array.getElem?_append,Array.getElem?_replicate]
 by_cases d:i<args.size
 ·simp[d]
 rw[if_neg d]
 split
 ·rw[Array.getElem?_eq_none (by omega)]; rfl
 rw[Array.getElem?_eq_none (by omega)]
theorem leaveD{b:Func}{R:Ending->World->Prop}{D:Nat}{v:Value}(c:w.heap[D]? = some (.deferred (some [])))(h:(zw b f).run P (w.putObj D (.deferred none)) = .ok v (w.putObj D (.deferred none)))(d:R (.returned v) (w.putObj D (.deferred none))) :
 Yc P m b R .ret f [{ target := .collected D,args := #[] }] w:=fun a e g=>leave1 e g c h d
variable {ops:List Oper} {cs:List Nat} {S:World->World->Prop}
theorem R.aer(T:kr n ops=true)(hsel:Region.noSelect ops.toArray=true)(aa:ops.all jw=true)(hS : ∀ w,S w w)(hT : ∀ a b c,S a b->S b c->S a c){fu:List (Nat × Nat × List Nat)} : ∀(k:Nat) (u:List Nat) (p:Array Bool) (a:Act) (f:Nat->Value) (w:World),u.length=k->p.size=ops.length->H6 ops.toArray .any p ->
 (∀ i,i∈u<->i<ops.length/\p.getD i false=false)->u.Nodup->(u.Pairwise fun i j=>oH ops cs fu i j=true)->zo a n f->a.defers=ds->R P n ops cs S (fun e f w=>Q e f ds w) u f w->wpAnyIn (FR ro) m P .any ops.toArray (Td n Q) k p a w:=by
 intro k
 induction k with
 | zero =>
   intro u p a f w F ac J x G H A L h
   have:u = []:=List.eq_nil_of_length_eq_zero F
   subst this
   refine⟨?_,f,A,by rw[L]; exact h⟩
   rw[List.eq_nil_iff_forall_not_mem]
   intro j E
   obtain⟨z,s,_,_⟩:=fq E
   exact absurd ((x j).2 ⟨s,z⟩) (by simp)
 | succ k ih =>
   intro u p a f w F ac J x G H A L h
   refine⟨fun hr => ?_,fun j E => ?_⟩
   ·cases u with
    | nil=>simp at F
    | cons r ahr =>
      exfalso
      obtain⟨z,s⟩:=(x r).1 (List.mem_cons_self ..)
      have:r∈Region.ready .any ops.toArray p:=by
       refine mem_ready.2 ⟨getD_in (by omega) s,opAt ops r,by unfold opAt; rw[List.getElem?_toArray,List.getD_eq_getElem?_getD,List.getElem?_eq_getElem z]; rfl,fun e M C => ?_⟩
       have B:dB (opAt ops r) e.on=true:=by
        unfold dB; rw[Array.any_eq_true']; exact⟨e,M,by rw[C,Nat.beq_refl]; rfl⟩
       have hlt:=(eU T z).2.2.2 e.on B
       cases hle:p.getD e.on false with
       | true=>rfl
       | false =>
         have g:=(x e.on).2 ⟨by omega,hle⟩
         rcases List.mem_cons.1 g with e1|e1
         ·omega
         ·have o:=(List.pairwise_cons.1 H).1 _ e1
          unfold oH at o
          rw[B]at o; simp at o
      rw[hr]at this; simp at this
   ·obtain⟨z,s,W,X⟩:=fq E
    have hjm:=(x j).2 ⟨s,z⟩
    obtain⟨t,y,rfl⟩:=List.append_of_mem hjm
    have C:=bubble (P:=P) (cs:=cs) (S:=S) (Q:=fun e f w=>Q e f ds w) T hsel hS hT s (l:=y) t (fun i N=>by
     obtain⟨h5,Y⟩:=(x i).1 (List.mem_append_left _ N)
     have O:i≠j:=fun e=>by
      subst e
      exact(List.nodup_append.1 G).2.2 i N i (List.mem_cons_self ..) rfl
     have o:oH ops cs fu i j=true:=(List.pairwise_append.1 H).2.2 i N j (List.mem_cons_self ..)
     unfold oH at o
     rw[Bool.and_eq_true,Bool.or_eq_true]at o
     have YL:dB (opAt ops j) i=false:=by
      cases hq:dB (opAt ops j) i with
      | false=>rfl
      | true=>have:=X i hq; rw[Y]at this; cases this
     refine⟨h5,O,YL,by simpa using o.1,?_⟩
     rcases o.2 with o|o
     ·rw[Bool.and_eq_true,Bool.or_eq_true]at o
      refine⟨o.1,?_⟩
      rcases o.2 with q|q
      ·rw[Bool.or_eq_true]at q
       exact q.elim (fun q => .inl (Nat.eq_of_beq_eq_true q)) (fun q => .inr (.inl q))
      ·rw[Bool.and_eq_true]at q
       exact .inr (.inr ⟨Nat.eq_of_beq_eq_true q.1,Nat.eq_of_beq_eq_true q.2⟩)
     ·exfalso
      rw[List.any_eq_true]at o
      obtain⟨c,_,Z⟩:=o
      rw[Bool.and_eq_true,Bool.and_eq_true]at Z
      obtain⟨m,g⟩:=iI Z.2
      cases m with
      | zero=>unfold reach at g; simp at g; exact O g.symm
      | succ m =>
        unfold reach at g
        rw[Bool.or_eq_true]at g
        rcases g with g|g
        ·simp at g; exact O g.symm
        ·rw[W]at g
         simp only at g
         rw[Array.any_eq_true']at g
         obtain⟨e,M,g⟩:=g
         rw[Bool.and_eq_true]at g
         have B:dB (opAt ops j) e.on=true:=by
          unfold dB; rw[Array.any_eq_true']; exact⟨e,M,by rw[g.1,Nat.beq_refl]; rfl⟩
         have:=J.reach _ _ g.2 (X e.on B)
         rw[Y]at this; cases this) f w h
    have hperm:(t++y).length=k:=by simp at F ⊢; omega
    have hnd':(t++y).Nodup:=by
     refine G.sublist ?_
     exact List.Sublist.append_left (List.sublist_cons_self ..) t
    have YM:(t++y).Pairwise fun i j=>oH ops cs fu i j=true:=H.sublist (List.Sublist.append_left (List.sublist_cons_self ..) t)
    have hmem' : ∀ i,i∈t++y<->i<ops.length/\(p.setIfInBounds j true).getD i false=false:=fun i=>by
     by_cases e:j=i
     ·subst e
      rw[set_self (by omega)]
      constructor
      ·intro g
       exfalso
       have D:=List.nodup_append.1 G
       rcases List.mem_append.1 g with q|q
       ·exact D.2.2 j q j (List.mem_cons_self ..) rfl
       ·exact(List.nodup_cons.1 D.2.1).1 q
      ·intro q; cases q.2
     ·rw[jA e,<- x i]
      simp only[List.mem_append,List.mem_cons]
      constructor
      ·rintro (q|q)
       ·exact .inl q
       ·exact .inr (.inr q)
      ·rintro (q|q|q)
       ·exact .inl q
       ·exact absurd q.symm e
       ·exact .inr q
    have U : ∀(v:Value) (w':World),R P n ops cs S (fun e f w=>Q e f ds w) (t++y) (put f (opAt ops j).dst v) w'->wpAnyIn (FR ro) m P .any ops.toArray (Td n Q) k (p.setIfInBounds j true) (a.put (opAt ops j).dst v) w':=fun v w' hR =>
     ih (t++y) _ _ _ w' hperm (by simp[ac]) (J.set E) hmem' hnd' YM (A.put (by
      cases D:(opAt ops j).dst with
      | none=>rfl
      | some d=>have:=((eU T s).1 d D).2; simpa [inn,Nat.blt_eq] using this) v) (by rw[put_defers]; exact L) hR
    have ab:jw (opAt ops j)=true:=by
     rw[List.all_eq_true]at aa
     refine aa _ ?_
     unfold opAt
     rw[List.getD_eq_getElem?_getD,List.getElem?_eq_getElem s]
     exact List.getElem_mem s
    unfold wpOpIn
    rw[W]
    simp only
    rw[A.yf]
    unfold R at C
    rcases C with ⟨I,V⟩|⟨I,⟨V,v,q3,q4⟩|⟨V,q3⟩⟩
    ·rw[if_neg (by rw[I]; decide)]; exact⟨fun _ _=>trivial,U _ _ V⟩
    ·rw[if_pos I]
     refine Out.wpIn (K:=fun v' w'=>v'=v/\w'=w) A ab (.inl ⟨v,w,q3 w (.inr (.inr rfl)),rfl,rfl⟩) ?_
     rintro v' w' ⟨rfl,rfl⟩
     exact U _ _ q4
    ·rw[if_pos I]
     exact Out.wpIn A ab q3 fun v w' hk=>U v w' hk.2
theorem W0.aes{f:Nat->Value}{w:World}{id:Nat}(l:List Nat)(cs:List Nat)(S:World->World->Prop)(o : ∀ w,S w w)(p : ∀ a b c,S a b->S b c->S a c)(fu:List (Nat × Nat × List Nat))(x:P.follows .mixedOrders=true)(z:kr n ops=true)(B:Region.noSelect ops.toArray=true)(g:yK ops l=true)(A:uL ops cs fu l=true)
 (h : ∀ j,Below w.heap.size w j->j.heap.size=w.heap.size->R P n ops cs S (fun e f w=>Q e f ds w) l f j) (y:ops.all jw=true:=by rfl):W0 ro m P n (.region id ops.toArray true) Q f ds w:=fun a q r=>by
 refine wpIn_region_any x ?_
 unfold yK at g
 rw[Bool.and_eq_true,Bool.and_eq_true,Bool.and_eq_true,List.all_eq_true,List.all_eq_true]at g
 obtain⟨⟨⟨C,D⟩,p3⟩,p4⟩:=g
 have v:=Nat.eq_of_beq_eq_true C
 have E:l.Nodup:=of_decide_eq_true p3
 have:=R.aer (ro:=ro) (m:=m) (ds:=ds) (P:=P) (Q:=Q) (fu:=fu) z B y o p ops.length l (Array.replicate ops.length false) a f { w with drawn:=w.drawn+1 } v (by simp) (H6.start _ _ _) (fun i=>by
  have s : ∀ i,(Array.replicate ops.length false).getD i false=false:=fun i=>getD_replicate_false _ _
  constructor
  ·intro d; exact⟨by simpa [Nat.blt_eq] using D i d,s i⟩
  ·intro d
   obtain⟨k,t,u⟩:=List.any_eq_true.1 (p4 i (by simpa using d.1))
   rw[Nat.eq_of_beq_eq_true u]; exact t) E (uM A) q r (h { w with drawn:=w.drawn+1 } (Below.refl _ _).drew rfl)
 simpa using this
end
end Fx
namespace Yd
def Nb{b:Type}(J:b->World->Prop):Prop := ∀ s W a,J s W->W.grownBy a none->J s a
def aaR{d:Type}(F:Fence)(n:Nat)(P:Program)(g:Nat)(lb:Array Value)(j:d->Array Value)(i:World->World->Prop)(S:List d->Prop)(N:Nat)(h:World->Prop):Prop :=
 ∀(l:Nat) (J:List d->World->Prop) (W:World),h W->Nb J ->
  (∀ c x b,J c b->c.length<N->YieldAt F (n-1) P l (j x) b fun e a=>e = .returned (.bool true)/\J (c ++ [x]) a/\i b a) ->
  J [] W ->
  CallsIn F n P g (#[.func (.yield l) #[] #[]]++lb) W fun e a=>(∃ v,e = .returned v) /\ ∃ f,S f/\J f a
def LB{c:Type}(B:Nat)(I:c->World->Prop):Prop :=
 ∀ s W a b,I s W->W.grownBy a b->(∀ r,b=some r->B<=r /\ ∃ o:Obj,W.heap[r]? = some o/\o.isCells=false)->I s a
variable {F:Fence} {n:Nat} {P:Program}
theorem LB.putObj{a:Type}{B:Nat}{I:a->World->Prop}(h:LB B I){s:a}{W:World}{l:Nat}{o:Obj}(o':Obj)(f:I s W)(b:B<=l)(c:W.heap[l]? = some o)(d:o.isCells=false):I s (W.putObj l o') :=
 h s W _ (some l) f (grownBy_putObj' W l o') (fun r e=>by cases e; exact⟨b,o,c,d⟩)
theorem LB.alloc{a:Type}{B:Nat}{I:a->World->Prop}(h:LB B I){s:a}{W:World}(o:Obj)(b:I s W):I s (W.alloc o) :=
 h s W _ none b (World.grownBy_alloc W o none) (fun r e=>by cases e)
def KeepsFrom(B:Nat)(W a:World):Prop:=W.heap.size<=a.heap.size /\ ∀ k,B<=k->k<W.heap.size->a.heap[k]? = W.heap[k]?
def aeu{a:Type}(B:Nat)(b:World->World->Prop)(I:List a->World->Prop)(c:List a)(W:World):Exit->Act->World->Prop
 | .normal,_,W'=>KeepsFrom B W W'/\b W W'/\I c W'
 | _,_,_=>False
theorem Ct{α:Type}{g:Operand}{ps:Array Tmp}{assign body:Code}{Q:Exit->Act->World->Prop}{a:Act}{w:World}
 (hro:F.round=none) (h1:1<=n) {gf:Nat} {lb:Array Value} (hg:a.eval g = .func (.func gf) #[] lb) (hFg:F.fn gf) (eg : ∀ args w,(callFunc gf args).run P w = .ok (.enter gf args) w)
 {encs:α->Array Value} {Kp:World->World->Prop} {S:List α->Prop} {N:Nat} {Ip:World->Prop} (hseq:aaR F (n-1) P gf lb encs Kp S N Ip)
 (hIp:Ip w) (KH : ∀ W o,w.heap.size<=W.heap.size->Ip W->Ip (W.alloc o))
 (hKt : ∀ {A B C:World},Kp A B->Kp B C->Kp A C) (hKb : ∀(W:World) (l:Nat) (o o':Obj),w.heap.size<=l->W.heap[l]? = some o->o.isCells=false->Kp W (W.putObj l o')) (hps : ∀ x,(encs x).size=ps.size)
 (I:List α->World->Prop) (hI:LB w.heap.size I) (h0:I [] w) (A₁:α->Act->Prop)
 (hassign : ∀(l:Nat) (x:α) (W:World),assign.wpIn (F.inRound l) (n-1-1) P (Exit.then (fun a' W'=>A₁ x a'/\W'=W) (fun _ _ _=>False)) { tmps:=(ps.zip (encs x)).foldl (fun t (p,v)=>t.setIfInBounds p v) a.tmps,defers := [] } W)
 (hbody : ∀(l:Nat) (pre:List α) (x:α) (W:World) (a':Act),A₁ x a'->I pre W->pre.length<N->w.heap.size<=W.heap.size->body.wpIn (F.inRound l) (n-1-1) P (aeu w.heap.size Kp I (pre ++ [x]) W) a' W)
 (hdone : ∀(D:Nat) (xs:List α) (W:World),w.heap.size<=D->S xs->I xs W->W.heap[D]? = some (.deferred (some []))->Q .normal { a with defers := { target := .collected D,args := #[] }::a.defers } W) :
 (Code.rangeFunc g ps assign body).wpIn F n P Q a w:=by
 refine wpIn_rangeFunc ?_
 intro fn hfn
 rw[hro]
 obtain⟨rec,hrec⟩ : ∃ rec:LoopState->Option Code->Loop,rec=fun st pe => { state:=st,pending:=pe,fn,tmps:=a.tmps,params:=ps,assign,body,defers:=w.heap.size }:=⟨_,rfl⟩
 obtain⟨W1,hW1⟩ : ∃ W1,(w.alloc (.deferred (some []))).alloc (.loop (rec .ready none))=W1:=⟨_,rfl⟩
 have hL1:W1.heap[w.heap.size+1]? = some (.loop (rec .ready none)):=by
  rw[<- hW1]; have:=World.alloc_heap_new (w.alloc (.deferred (some []))) (.loop (rec .ready none)); rwa [World.size_alloc]at this
 have hK1:W1.heap[w.heap.size]? = some (.deferred (some [])):=by
  rw[<- hW1]; exact(Below.heap_alloc _ _ _ (by simp)).trans (World.alloc_heap_new w _)
 have hI1:I [] W1:=by rw[<- hW1]; exact hI.alloc _ (hI.alloc _ h0)
 have hp1:Ip W1:=by rw[<- hW1]; exact KH _ _ (by simp) (KH _ _ (Nat.le_refl _) hIp)
 refine⟨w.heap.size+1,[{ target := .collected w.heap.size,args := #[] }],W1,{ target := .fn (.func gf) lb,args := #[.func (.yield (w.heap.size+1)) #[] #[]] },W1,gf,
  #[.func (.yield (w.heap.size+1)) #[] #[]]++lb,W1,?_,?_,?_,?_,fun _=>h1,?_⟩
 ·rw[<- hW1,hrec]; exact run_enterLoop_outer _ _ _ _ _
 ·simp only[resolve,hg]
  simp[go_sem]
 ·intro f' hf'; simp[Target.leads]at hf'; subst hf'; exact hFg
 ·simp[invoke,go_sem,eg]
 refine(hseq (w.heap.size+1)
  (fun pre W=>I pre W/\W.heap[w.heap.size+1]? = some (.loop (rec .ready none))/\W.heap[w.heap.size]? = some (.deferred (some [])))
  W1 hp1
  (fun s A B hs hg'=>⟨hI s A B none hs.1 hg' (fun r e=>nomatch e),(hg'.block _ (Array.getElem?_eq_some_iff.1 hs.2.1).1 (fun e=>nomatch e)).trans hs.2.1,(hg'.block _ (Array.getElem?_eq_some_iff.1 hs.2.2).1 (fun e=>nomatch e)).trans hs.2.2⟩)
  ?_ ⟨hI1,hL1,hK1⟩).mono ?_
 ·-- one round
  rintro pre x W ⟨hi,hl,hk⟩ hlen
  have hlt:w.heap.size+1<W.heap.size:=(Array.getElem?_eq_some_iff.1 hl).1
  have hy:=run_yield (P:=P) (args:=encs x) hl (by rw[hrec]; exact hps x)
  rw[hrec]at hy
  refine⟨fn,_,assign,body,hy,roundIn_of_wpIn hfn (wpIn_mono (hassign _ x W) ?_)⟩
  rintro e1 a1 w1 hq1
  cases e1 with
  | exit id=>exact hq1.elim
  | goto t=>exact hq1.elim
  | ret=>exact hq1.elim
  | panic ch=>exact hq1.elim
  | outgrown=>exact hq1.elim
  | normal =>
  obtain⟨hA1,ew⟩:=hq1
  rw[ew]
  refine⟨_,run_beginRound hl (by rw[hrec]),?_⟩
  have hl2:(W.putObj (w.heap.size+1) (.loop { rec .ready none with state := .busy })).heap[w.heap.size+1]? = some (.loop { rec .ready none with state := .busy }):=World.putObj_heap_same hlt
  have hk2:(W.putObj (w.heap.size+1) (.loop { rec .ready none with state := .busy })).heap[w.heap.size]? = some (.deferred (some [])):=(World.putObj_heap_other (by omega)).trans hk
  have hw2:Kp W (W.putObj (w.heap.size+1) (.loop { rec .ready none with state := .busy })):=hKb _ _ _ _ (by omega) hl rfl
  refine wpIn_mono (hbody _ pre x _ a1 hA1 (hI.putObj _ hi (by omega) hl rfl) hlen (by simp; omega)) ?_
  rintro e a3 W3 hp
  cases e with
  | normal =>
    obtain⟨hk3,hkp3,hi3⟩:=hp
    have hl3:=(hk3.2 _ (by omega) (Array.getElem?_eq_some_iff.1 hl2).1).trans hl2
    have akP:=(hk3.2 _ (by omega) (Array.getElem?_eq_some_iff.1 hk2).1).trans hk2
    have hr:=run_endRound (P:=P) none hl3
    rw[hrec]at hr hl3
    refine⟨_,_,hr,rfl,⟨hI.putObj _ hi3 (by omega) hl3 rfl,?_,(World.putObj_heap_other (by omega)).trans akP⟩,hKt (hKt hw2 hkp3) (hKb _ _ _ _ (by omega) hl3 rfl)⟩
    rw[hrec]; exact World.putObj_heap_same (Array.getElem?_eq_some_iff.1 hl3).1
  | ret=>exact hp.elim
  | exit id=>exact hp.elim
  | goto t=>exact hp.elim
  | panic ch=>exact hp.elim
  | outgrown=>exact hp.elim
 rintro e W2 ⟨⟨v,rfl⟩,xs,hS,hi,hl,hk⟩
 exact⟨none,_,by have:=run_endLoop (P:=P) hl (by rw[hrec]; simp); rw[hrec]at this; exact this,hdone _ xs _ (Nat.le_refl _) hS (hI.putObj _ hi (by omega) hl rfl) ((World.putObj_heap_other (by omega)).trans hk)⟩
end Yd
namespace Fx
theorem JI{a:Act}{n p q:Nat}{u v:Value}{f:Nat->Value}(h:zo a n f)(c:p<n)(g:q<n):zo { tmps:=(#[p,q].zip #[u,v]).foldl (fun t (p,v)=>t.setIfInBounds p v) a.tmps,defers := [] } n (put (put f (some p) u) (some q) v):=by
 have b:=(h.put (d:=some p) (by simpa [inn,Nat.blt_eq] using c) u).put (d:=some q) (by simpa [inn,Nat.blt_eq] using g) v
 have e:(#[p,q].zip #[u,v]).foldl (fun t (p,v)=>t.setIfInBounds p v) a.tmps=((a.put (some p) u).put (some q) v).tmps:=by simp[Array.zip,Act.put]
 rw[e]; exact⟨b.size,b.get⟩
theorem W0.aaS{P:Program}{n m:Nat}{Q:wZ}{f:Nat->Value}{ds:List Deferred}{w:World}{c:Type}{g:Operand}{p q:Tmp}{E G:Code}{gf:Nat}{lb:Array Value}(h1:1<=m)(hg:ev f g = .func (.func gf) #[] lb)(J : ∀ z w,(callFunc gf z).run P w = .ok (.enter gf z) w)
 {eu ev2:c->Value} {d:World->World->Prop} {S:List c->Prop} {N:Nat} {s:World->Prop} (hseq:Yd.aaR (FR none) (m-1) P gf lb (fun x => #[eu x,ev2 x]) d S N s)
 (R:s w) (T : ∀ W o,w.heap.size<=W.heap.size->s W->s (W.alloc o)) (V : ∀ {A B C:World},d A B->d B C->d A C) (U : ∀(W:World) (l:Nat) (o o':Obj),w.heap.size<=l->W.heap[l]? = some o->o.isCells=false->d W (W.putObj l o')) (hp:p<n) (hq:q<n)
 (I:List c->World->Prop) (O:Yd.LB w.heap.size I) (L:I [] w) (A:c->(Nat->Value)->Prop)
 (X : ∀(l:Nat) (x:c) (W:World),W0 (some l) (m-1-1) P n E (fun e b H h=>e = .normal/\H = []/\A x b/\h=W) (put (put f (some p) (eu x)) (some q) (ev2 x)) [] W)
 (Y : ∀(l:Nat) (r:List c) (x:c) (W:World) (b:Nat->Value),A x b->I r W->r.length<N->w.heap.size<=W.heap.size->W0 (some l) (m-1-1) P n G (fun e K H h=>e = .normal/\Yd.KeepsFrom w.heap.size W h/\d W h/\I (r ++ [x]) h) b [] W)
 (aa : ∀(D:Nat) (u:List c) (W:World),w.heap.size<=D->S u->I u W->W.heap[D]? = some (.deferred (some []))->Q .normal f ({ target := .collected D,args := #[] }::ds) W):W0 none m P n (.rangeFunc g #[p,q] E G) Q f ds w:=fun a t Z=>by
 refine Yd.Ct (F:=FR none) rfl h1 (by rw[t.ev]; exact hg) trivial J hseq R T V U (fun _=>rfl) I O L (fun x i => ∃ b,zo i n b/\i.defers = []/\A x b) ?_ ?_ ?_
 ·intro l x W
  refine wpIn_mono (X l x W _ (JI t hp hq) rfl) ?_
  rintro e i w' ⟨b,y,rfl,j,k,rfl⟩
  exact⟨⟨b,y,j,k⟩,rfl⟩
 ·rintro l r x W i ⟨b,y,j,k⟩ hi hl hs
  refine wpIn_mono (Y l r x W b k hi hl hs i y j) ?_
  rintro e a'' w' ⟨K,asD,rfl,v⟩
  exact v
 ·intro D u W j k v M
  refine⟨f,⟨t.size,t.get⟩,?_⟩
  show Q .normal f (_::a.defers) W
  rw[Z]; exact aa D u W j k v M
end Fx
end Go.Proofs.YtahbiajdgealnaaGreatDoor
namespace Go.Proofs.YtahbiajdgealnaaGreatDoor
open Go.RowKit Rt
open Fx (fD eT fI bC gL gK dw dR fZ iL dZ jg fP jh iV Lv sN Ln Ws Qv Wl Rp Wc Qs Wr Sb Lk Wk rC rV sR Rs Rn Rd Rk Wb Wx Wo Dw Wt qQ Qn EI Ao yj yI Ca Dl pG gY yL lZ sO uq vP wB xR Cy Ak rv aA aP bG aQ ev bX Stp dG aU flat dz Mp eX aT gN iF bD down iH jB iA ku bH bJ cells_one iG bT wD unseen jr gM bU dH bK bP bV bW fU gJ oQ gG)
set_option maxRecDepth 20000
namespace Rt
structure Nc(sb:Nat)(v:Value)(W W':World):Prop where
 size:W.heap.size<=W'.heap.size
 b:W'.heap[sb]? = W.heap[sb]?
 g : ∀ g,v.ownBlock=some g->W'.heap[g]? = W.heap[g]?
theorem Nc.trans{a:Nat}{v:Value}{A B C:World}(h:Nc a v A B)(k:Nc a v B C):Nc a v A C:=⟨Nat.le_trans h.size k.size,k.b.trans h.b,fun g c=>(k.g g c).trans (h.g g c)⟩
theorem Nc.put{a B:Nat}{v:Value}(e:a<B)(c : ∀ g,v.ownBlock=some g->g<B)(W:World)(l:Nat)(o o':Obj)(d:B<=l):Nc a v W (W.putObj l o'):=⟨by simp,World.putObj_heap_other (by omega),fun g b=>World.putObj_heap_other (by have:=c g b; omega)⟩
theorem Nc.AL{a b:Nat}{v:Value}{W c:World}(h:Stp b W c)(h1:a<W.heap.size)(f:a≠b)(e : ∀ g,v.ownBlock=some g->g<W.heap.size/\g≠b):Nc a v W c:=⟨h.size,h.block a h1 f,fun g d=>h.block g (e g d).1 (e g d).2⟩
theorem aaT{q n c s:Nat}{a:Option Addr}{x:Nat->Value}{W d:World}(l:ku W a n s x)(r:0<s)(k:Nc q (.slice a n c) W d):ku d a n s x:=fun h=>by
 obtain⟨b,p,e,m⟩:=l h
 refine⟨b,p,e,fun i o => ?_⟩
 have f:=m i o
 have j:=k.g b (by rw[e]; rfl)
 unfold World.cell? at f ⊢
 rw[j]; exact f
def BwP(b:Nat)(a:Option Addr)(n c:Nat)(l:List Int)(W:World):Prop:=aP W b 1 (fun _ => .slice a n c) 63/\ku W a n 1 (wE l)
theorem BwP.alloc{f n c:Nat}{a:Option Addr}{l:List Int}{W:World}(h:BwP f a n c l W)(o:Obj):BwP f a n c l (W.alloc o) :=
 ⟨(Below.heap_alloc W o f h.1.lt).trans h.1,fun g=>by
   obtain⟨b,p,e,k⟩:=h.2 g
   refine⟨b,p,e,fun i m => ?_⟩
   have d:=k i m
   have j:=Below.heap_alloc W o b (block_lt_of_cell d)
   unfold World.cell? at d ⊢
   rw[j]; exact d⟩
theorem Tf{h f B:Nat}{c:World}{F:List Nat->dN}(h1:h<c.heap.size)(j:f<c.heap.size):Yd.LB c.heap.size (fun(n:List Nat) W=>qz W B h f (F n)/\Stp f c W):=fun s W i o a b m=>by
 have g : ∀ k,k<c.heap.size->i.heap[k]? = W.heap[k]? := fun k d=>b.block k (Nat.lt_of_lt_of_le d a.2.size) fun e=>by
  have:=(m k e.symm).1; omega
 exact⟨qz.keep a.1 (g h h1) (g f j),⟨b.os.trans a.2.os,b.tape.trans a.2.tape,b.output.trans a.2.output,Nat.le_trans a.2.size b.size,fun k d l=>(g k d).trans (a.2.block k d l)⟩⟩
theorem V4{w:World}{B E s n b m:Nat}{v:Value}{x:Nat->Value}{k:Nat->Int}{y:Nat->Value}(a:Fx.Own w B E s v n x)(d:Mp w b m k y){g:Nat}(c:v.ownBlock=some g):g<w.heap.size/\g≠b:=⟨(a.ge c).2,fun e=>d.qw (by rw[<- e]; exact a.ty c)⟩
theorem aaU{T:dN}{k:Int}(h : ∀ i,i<T.n->T.x i≠k):T.par k=0:=by
 have : ∀ n,(∀ i,i<n->T.x i≠k)->gZ T.x T.p n k=0:=fun n=>by
  induction n with
  | zero=>exact fun _=>rfl
  | succ n ih=>exact fun h=>by unfold gZ; rw[if_neg (h n (by omega))]; exact ih fun i a=>h i (by omega)
 exact this _ h
structure JB(J:List Nat->World->Prop)(pre:List Nat)(w:World):Prop where
 ab:Yd.Nb J
 j:J pre w
end Rt
theorem akR(a:Option Addr)(n c:Nat)(w:World) :
 Calls Tryz.prog 185 #[.slice a (n) (c)] w fun e w' => ∃ d,e = .returned (.func (.func 196) #[] #[(pt d)])/\w.heap.size<=d/\aP w' d 1 (fun _ => .slice a n c) 63/\Below w.heap.size w w':=by
 refine Kent Tryz.func185 4 ?_
 refine ay<|yM (.slice a (n) (c)) fun b l h f j m => ?_
 have g:=aY j.old (Below.refl w.heap.size w)
 have i:=gH h
 have k:=f.lt
 refine av (.nilFunc)<|aC<|ay<|Lv (.func (.func 196) #[] #[(pt b)]) (Fx.mh (us := []) (vs := [(pt b)]) rfl rfl rfl)<|av (.func (.func 196) #[] #[(pt b)])<|aC<|Wr<|aI (.func (.func 196) #[] #[(pt b)]) ?_
 exact⟨b,rfl,i,f,g⟩
theorem aev(J:List Nat->World->Prop)(h d c:Nat)(a:Option Addr)(l:List Int)(w:World)(o:aP w d 1 (fun _ => .slice a (l.length) (c)) 63)(I:ku w a l.length 1 (wE l))(n:JB J [] w)(U:l.length<=1000)
 (L : ∀ r x m,J r m->r.length<l.length->Go.YieldAt (Fx.FR none) 1 Tryz.prog h #[au (x:Nat),aD (l.getD x 0)] m fun e y=>e = .returned (.bool true)/\J (r ++ [x]) y/\Nc d (.slice a l.length c) m y) :
  Calls Tryz.prog 196 #[.func (.yield h) #[] #[],(pt d)] w fun e w'=>(∃ v,e = .returned v) /\ ∃ F,F=EG l.length l.length/\J F w':=by
 have V:=o.lt
 have n:JB J (EG l.length (l.length-l.length)) w:=by rw[Nat.sub_self]; exact n
 refine Kent Tryz.func196 19 ?_
 refine ay<|Lv (.slice a (l.length) (c)) (aL o.aH 0)<|av (au l.length)<|Lv (au ((l.length:Int)-1)) fO<|av (au ((l.length:Int)-1))<|aC<|Wb<|Wo (fun f u => ∃ k:Nat,k<=l.length/\f 0 = .func (.yield h) #[] #[]/\f 1=(pt d)/\f 3=au ((k:Int)-1)/\aP u d 1 (fun _ => .slice a (l.length) (c)) 63/\ku u a l.length 1 (wE l)/\JB J (EG l.length (l.length-k)) u) (fun f _=>(intOf (f 3)+1).toNat) ⟨l.length,(Nat.le_refl _),(by rfl),(by rfl),Fx.ic,o,I,n⟩ ?_
 rintro S X ⟨k,T,A,B,g,D,E,p⟩
 refine Ws<|ay<|aS g ?_
 by_cases z:0<=((k:Int)-1)
 ·refine Lv aG (jv z)<|aC<|aM<|Wk<|sN<|Ws<|Wb<|Ws<|Fx.W.XE 2<|Fx.Ly.v (.func (.yield h) #[] #[]) (fD rfl A) ?_
  refine Fx.Ly.v (au ((k:Int)-1)) (fD rfl g) ?_
  refine Fx.Ly.v (.slice a (l.length) (c)) (bC (x:=fun _ => .slice a (l.length) (c)) rfl B (by kernel_rfl) D.aH (i:=0) (by omega) (by omega) rfl) ?_
  refine Fx.Ly.v (au ((k:Int)-1)) (fD rfl g) ?_
  obtain⟨G,Q,H,M⟩:=E (by omega)
  refine Fx.Ly.v ((pf G (k+Q-1))) (dR rfl (rfl.trans (congrArg (fun q=>Value.slice q (l.length) (c)) H)) rfl Tryz.underlying63 (s:=1) (by kernel_rfl) (by omega) (by omega) (by omega)) ?_
  refine Fx.Ly.v (aD (l.getD (k-1) 0)) (bC (x:=wE l) rfl rfl (by kernel_rfl) M (i:=k-1) (by omega) (by omega) rfl) ?_
  refine Fx.Ly.yield (l:=h) (args := [au ((k:Int)-1),aD (l.getD (k-1) 0)]) rfl rfl rfl (Fx.args2 rfl rfl) rfl (by have:=L (EG l.length (l.length-k)) (k-1) _ p.j (by rw[Na]; omega); rw[show(((k-1:Nat)):Int)=(k:Int)-1 by omega]at this; exact this) ?_
  rintro R t ⟨rfl,K,C⟩
  refine⟨.bool true,rfl,?_⟩
  have N:aP t d 1 (fun _ => .slice a (l.length) (c)) 63:=C.b.trans D
  have O:ku t a l.length 1 (wE l):=aaT E (by decide) C
  have P:JB J (EG l.length (l.length-(k-1))) t:=⟨p.ab,by rw[show l.length-(k-1)=(l.length-k)+1 by omega]; unfold EG; rw[show l.length-1-(l.length-k)=k-1 by omega]; exact K⟩
  refine Fx.Ly.v (.bool false) (Fx.Pt rfl rfl) ?_
  refine Fx.Ly.nil ?_
  refine sN<|aK<|Wk<|bP<|sN<|Wl<|aS g<|Lv (au ((k:Int)-2)) fO<|av (au ((k:Int)-2))<|Ln<|gJ ⟨k-1,(by omega),A,B,Fx.ic,N,O,P⟩ ?_
  show(intOf ((au ((k:Int)-2)))+1).toNat<_
  simp only[g,intOf]; omega
 refine Lv aF (ji z) (aC (aK (Wx (bV (fU (bW (⟨.tuple #[],iH Tryz.results196,?_⟩)))))))
 exact⟨⟨_,rfl⟩,_,rfl,by have:=p.j; rw[show l.length-k=l.length by omega]at this; exact this⟩
theorem aaV(b c:Nat)(a:Option Addr)(l:List Int)(i:l.length<=1000) :
 Yd.aaR (Fx.FR none) 2 Tryz.prog 196 #[(pt b)] (fun x:Nat => #[au (x:Int),aD (l.getD x 0)]) (Nc b (.slice a l.length c)) (fun k=>k=EG l.length l.length) l.length (BwP b a l.length c l) :=
 fun j J W ⟨h,e⟩ g f d=>callsIn_wide.2 (aev J j b c a l W h e ⟨g,d⟩ i f)
namespace Rt
theorem Nf{l:List Int}{T:dN}(b:T.ok)(h : ∀ k,k∈l->T.has k=true)(x:Nat):0<=l.getD x 0/\l.getD x 0<=18446744073709551615:=by
 by_cases a:x<l.length
 ·have d:l.getD x 0∈l:=by rw[List.getD_eq_getElem?_getD,List.getElem?_eq_getElem a]; exact List.getElem_mem a
  obtain⟨i,c,e⟩:=fT (h _ d)
  rw[<- e]; exact SY b c
 rw[List.getD_eq_getElem?_getD,List.getElem?_eq_none (by omega)]; decide
theorem Ng{l:List Int}{T:dN}{pa:Int}(a:T.ok)(e:l=T.path pa)(x:Nat):0<=l.getD x 0/\l.getD x 0<=18446744073709551615:=Nf a (fun k d=>by
 obtain⟨i,b,c⟩:=List.getElem_of_mem d
 have:=dN.Lx a e b
 rw[List.getD_eq_getElem?_getD,List.getElem?_eq_getElem b]at this
 rw[<- c]; exact this) x
theorem V6{l:List Int}{T:dN}(a:T.ok)(h : ∀ k,k∈l<->T.has k=true)(x:Nat):0<=l.getD x 0/\l.getD x 0<=18446744073709551615:=Nf a (fun k b=>(h k).1 b) x
end Rt
theorem aaW(m:dY)(lp B:Nat)(w:World)(h:jV w B lp m)(id pa:Int)(hid:0<=id/\id<=18446744073709551615) :
 Calls Tryz.prog 170 #[(pt lp),aD id,aD pa] w fun e w'=>e = .returned (au (m.T.err id pa))/\Below w.heap.size w w':=by
 have hC:=h.c
 have hT:=h.t
 have hP:=h.p
 have hR:=h.r
 have hG:=h.g
 have hA:=h.a
 have hN:=h.ne
 have lC:=h.c.lt
 have lT:=h.t.lt
 have lP:=h.p.lt
 have lR:=h.r.lt
 have lG:=h.g.lt
 have lA:=h.a.lt
 refine Fx.aaQ 3 Tryz.func170 rfl (n:=55) rfl (by rfl) ?_
 refine Fx.W0.seq<|Fx.W0.list<|yM ((pt lp)) fun g1 w1 kV m1 s1 z1 => ?_
 have⟨m2,m3,m4,m5,m6,m7,b1⟩:=jl s1.old hC hT hP hR hG hA (Below.refl w.heap.size w)
 have tL:=gH kV
 have⟨mH,yG,vZ,Ab,yD⟩:=AA kV hC.lt hP.lt hR.lt hG.lt hA.lt
 have vR:=m1.lt
 refine av (au 0)<|Ln<|Fx.pF<|Fx.W0.seq<|Fx.W0.list<|jM (XW _) ?_
 rintro e9 w2 ⟨v,j,u,hg1,m8,hb1⟩
 refine⟨_,u,?_⟩
 clear u
 have nem.apa:m.mb≠j:=Nat.ne_of_lt (Nat.lt_of_lt_of_le m3.lt hg1)
 have⟨m9,m10,m11,m12,m13,m14,m15,b2⟩:=lu hb1 m2 m3 m4 m5 m6 m7 m1 b1
 have m16:qz w2 (w.heap.size) v j dN.zero:=m8.weak b1.size
 clear m8 hg1
 refine wC 1 (fun _ => .pointer none) fun L w3 xH m17 s3 z2 => ?_
 have⟨m18,m19,m24,lW,b3⟩:=qm s3.old m9 m10 m15 m16 b2
 have qO:=jc xH b2.size
 have⟨aaX,akS,akT,aaY,aaZ,akU⟩:=Gv xH m9.lt m11.lt m12.lt m13.lt m14.lt m15.lt
 have zJ:=m17.lt
 refine iQ m17 0 ((pt v)) fun w4 mR s4 z3 => ?_
 have nY:aP w4 L 1 (fun _=>(pt v)) 98:=dH mR
 have gI:=gY s4 m17.ty
 have⟨nT,oF,nG,oJ⟩:=KE gI m18 m19 m24 lW
 have b4:=s4.below b3 b3.size (by omega)
 refine Ln<|Fx.pF<|Fx.W0.seq<|Fx.W0.list<|Lv ((pt lp)) (aL nG.aH 0)<|av ((pt lp))<|av ((pf lp 18))<|Lv ((pt m.tp)) (aL nT.aH 18)<|av (aD pa)<|jM (GH pa oF) ?_
 rintro e9 w5 ⟨F,G,u,pO,hb2⟩
 refine⟨_,u,?_⟩
 clear u
 have⟨lX,qX,oZ,b5⟩:=mF hb2 nG oJ nY b4
 obtain⟨l,J⟩ : ∃ q,q=dN.path m.T pa:=⟨_,rfl⟩
 rw[<- J]at pO ⊢
 have hl4:l.length<=4:=by rw[J]; exact dN.Ad
 refine av (.slice F (l.length) (G))<|Ln<|Fx.pF<|Fx.W0.seq<|Fx.W0.seq<|Fx.W0.list<|av (.slice F (l.length) (G))<|jM (akR F l.length G _) ?_
 rintro e9 w6 ⟨sb1,u,hg2,mX,hb3⟩
 refine⟨_,u,?_⟩
 clear u
 have⟨rZ,E,wP,sQ,U⟩:=qm hb3 lX qX oZ pO b5
 refine Ln<|Fx.pF<|Fx.W0.block ?_
 have aew:g1≠j:=E.map.ne rZ.ty
 have asE:=rZ.lt
 have aex:L≠j:=E.map.ne wP.ty
 have asF:=wP.lt
 have Ye:sb1≠j:=E.map.ne mX.ty
 have aey:=mX.lt
 have hgm:=E.gm
 have ltm:=E.lt
 have ltt:=E.blk.lt
 have K : ∀ g,(.slice F (l.length) (G):Value).ownBlock=some g->g<w6.heap.size/\g≠j:=fun g y=>V4 sQ E.map y
 refine Fx.W0.aaS (gf:=196) (lb := #[(pt sb1)]) (eu:=fun x:Nat=>au (x:Int)) (ev2:=fun x=>aD (l.getD x 0)) (by decide) rfl (fun args w=>jy Tryz.func196 (by kernel_rfl) rfl args w) (aaV sb1 G F l (by omega)) ⟨mX,Fx.Zx sQ⟩ (fun W o _ hi=>hi.alloc o) (fun h k=>h.trans k) (fun W l o o' J _ _=>Nc.put aey (fun g y=>(K g y).1) W l o o' J) (by decide) (by decide) (fun xs W=>qz W (w.heap.size) v j (Kj m.T l xs)/\Stp j w6 W) (Tf ltt ltm) ⟨E,lZ _ _⟩ (fun x f=>f 3=(pt g1)/\f 7=(pt L)/\f 10=aD (l.getD x 0)) ?_ ?_ ?_
 ·intro ly x W
  exact Fx.W0.list (Lv (aD (l.getD x 0)) (eT rfl rfl) (Ln ⟨rfl,rfl,⟨rfl,rfl,rfl⟩,rfl⟩))
 ·rintro ly pre x W f9 ⟨q3,q7,q10⟩ ⟨hT2,s⟩ hpl hWs
  have H:Below w.heap.size w W:=s.below U U.size hgm
  have C:=h.up H
  have hPW:=C.p
  have M:=C.c
  have N:=C.t
  have Q:=rZ.bZ s aew
  have aez:=Q.lt
  have R:=wP.bZ s aex
  have aeA:=R.lt
  have lWm:j<W.heap.size:=Nat.lt_of_lt_of_le ltm s.size
  have lWt:w6.heap.size<=W.heap.size:=s.size
  have lCW:=M.lt
  have lPW:=hPW.lt
  have lTW:=N.lt
  have lh0:=h.t.lt
  have lh1:=h.p.lt
  refine Fx.W0.block ?_
  -- region 5 draws
  refine Fx.W0.aes [1,6,0,2,3,4,5,7,8] [4,0,4,0,0,4,0,4,3] Fx.Mk sO Fx.Mk.trans (fu := [(8,0,[0]),(8,2,[7,5,4,3,2]),(8,5,[7,5]),(8,7,[7])]) (by kernel_rfl) (by kernel_rfl) (by kernel_rfl) (by kernel_rfl) (by kernel_rfl) fun oU dL gU => ?_
  have s7:Stp W.heap.size W oU:=Sb dL
  have⟨sS,rO,vV,pR,vW,mU⟩:=qo dL M hPW N Q R hT2
  have b7:=(lZ j W).then s7 (.inr (lZ j W).size)
  refine bQ q10<|bQ q10<|Rs ((pt v)) (aL vW.aH 0 (ha:=q7)) ?_
  refine Rs ((pt lp)) (aL pR.aH 0 (ha:=q3)) ?_
  refine aV ((pt lp))<|aV ((pf lp 19))<|Rs (.map (some m.pb)) (aL sS.aH 19) ?_
  rcases Fx.qx m.T.x m.T.n (l.getD x 0)with ⟨Tg,BO,BP⟩|iP
  ·refine Rs (aD (m.T.p Tg)) (Fx.uN (z:=aD 0) rfl rfl rfl rO Tryz.underlying100 Tryz.underlying28 (by rfl) BO BP rfl) ?_
   refine fQ<|dA (IX (l.getD x 0) (m.T.p Tg) mU (Ng h.t.inv J x)) _ rfl ?_
   rintro w7 ⟨qN,s8⟩
   have O:=mU.AB s8
   have m64:=sS.dJ O
   have wm:=rO.dJ O (by omega)
   have uy:=vV.dJ O (by omega)
   have uz:=pR.dJ O
   have sj:=vW.dJ O
   have V:=b7.then s8 (.inl rfl)
   refine Ln<|Rn<|Fx.JH ?_
   have ep:m.T.par (l.getD x 0)=m.T.p Tg:=zD C.t.inv.inj BO BP
   refine⟨rfl,⟨V.size,fun q hq hq2=>V.block q hq2 (by omega)⟩,Nc.AL V (by omega) Ye (fun g y=>⟨Nat.lt_of_lt_of_le (K g y).1 lWt,(K g y).2⟩),?_,s.then V (.inl rfl)⟩
   rw[Eu,ep]; exact qN
  refine Rs (aD 0) (Fx.Mj (z:=aD 0) rfl rfl rfl rO Tryz.underlying100 Tryz.underlying28 (by rfl) iP) ?_
  refine fQ<|dA (IX (l.getD x 0) 0 mU (Ng h.t.inv J x)) _ rfl ?_
  rintro w8 ⟨ru,s9⟩
  have P:=mU.AB s9
  have sU:=sS.dJ P
  have sV:=rO.dJ P (by omega)
  have uD:=vV.dJ P (by omega)
  have sZ:=pR.dJ P
  have yB:=vW.dJ P
  have X:=b7.then s9 (.inl rfl)
  refine Ln<|Rn<|Fx.JH ?_
  have ep:m.T.par (l.getD x 0)=0:=aaU iP
  refine⟨rfl,⟨X.size,fun q hq hq2=>X.block q hq2 (by omega)⟩,Nc.AL X (by omega) Ye (fun g y=>⟨Nat.lt_of_lt_of_le (K g y).1 lWt,(K g y).2⟩),?_,s.then X (.inl rfl)⟩
  rw[Eu,ep]; exact ru
 rintro D xs W hD rfl ⟨hT2,s⟩ hK
 have H:Below w.heap.size w W:=s.below U U.size hgm
 have C:=h.up H
 have hPW:=C.p
 have M:=C.c
 have N:=C.t
 have Q:=rZ.bZ s aew
 have aez:=Q.lt
 have R:=wP.bZ s aex
 have aeA:=R.lt
 have lWm:j<W.heap.size:=Nat.lt_of_lt_of_le ltm s.size
 have lWt:w6.heap.size<=W.heap.size:=s.size
 have lCW:=M.lt
 have lPW:=hPW.lt
 have lTW:=N.lt
 have lh0:=h.t.lt
 have lh1:=h.p.lt
 have lDW:=(Array.getElem?_eq_some_iff.1 hK).1
 have oW:=sQ.bZ s (fun e=>(K _ e).2 rfl)
 refine Fx.JH<|Fx.pF<|Fx.W0.seq<|Fx.W0.seq<|Fx.W0.list<|Lv ((pt lp)) (aL Q.aH 0) ?_
 refine av ((pt lp))<|av ((pf lp 18))<|Lv ((pt m.tp)) (aL M.aH 18)<|jM (Q6 N) ?_
 rintro e9 w9 ⟨Yf,A,d,u,uE,hq1,aeB,hb4⟩
 refine⟨_,u,?_⟩
 clear u
 have s10:=Sb hb4
 have⟨uT,tN,wo⟩:=jk hb4 R hT2 oW
 have b10:=(lZ j W).then s10 (.inr (lZ j W).size)
 refine av (au d.length)<|av (au 0)<|Ln<|Fx.pF<|Fx.W0.block<|Fx.W0.loop (fun f S => ∃ i:Nat,i<=d.length/\f 1=aD id/\f 2=aD pa/\f 7=(pt L)/\f 8 = .slice F (l.length) (G)/\f 37 = .slice Yf (d.length) (A)/\f 38=au ((d.length:Int))/\f 39=au ((i:Int))/\aP S L 1 (fun _=>(pt v)) 98/\qz S (w.heap.size) v j (jT l d (Kj m.T l (EG l.length l.length)) i)/\Fx.Own S W.heap.size 28 1 (.slice Yf (d.length) (A)) d.length (wE d)/\Fx.Own S w4.heap.size 28 1 (.slice F (l.length) (G)) l.length (wE l)/\Stp j W S) (fun f _=>((d.length:Int)-intOf (f 39)).toNat) ⟨0,(by omega),Fx.ic,Fx.ic,(by rfl),(by rfl),(by rfl),Fx.ic,Fx.ic,uT,tN,uE,wo,b10⟩ ?_
 rintro f1 rJ ⟨i,hi,h1,h2,h3,h4,h5,h6,I,xW,wu,yR,yC,b11⟩
 refine Fx.W0.seq<|Fx.W0.list ?_
 by_cases c40:(i:Int)<(d.length:Int)
 ·refine Lv aG (gy c40 (hx:=I) (hy:=h6)) (Ln (Fx.pF (Fx.W0.seq (Fx.W0.cond (b:=true) rfl (fun _=>Fx.W0.skip (Fx.pF (Fx.W0.seq (Fx.W0.block (Fx.W0.seq (Fx.W0.list ?_)))))) (fun h=>nomatch h)))))
  obtain⟨BK,Z⟩:=yR.addr (by omega)
  have xX:Fx.Own rJ W.heap.size 28 1 (bI BK d.length A) d.length (wE d):=yR.dU (congrArg (fun q=>Value.slice q d.length A) Z)
  refine Lv ((pf BK i)) (cu 1 (hx:=(h5.trans (congrArg (fun q=>Value.slice q (d.length) (A)) Z))) (hi:=I))<|Lv (aD (d.getD i 0)) (aL xX.aH i)<|av (aD (d.getD i 0))<|Ln<|Fx.pF<|Fx.W0.seq<|Fx.W0.list<|aS h4<|av (aD (d.getD i 0))<|dA (ahz l (d.getD i 0) _ _ _ _ yC (by omega)) (ax := #[.slice F (l.length) (G),aD (d.getD i 0)]) _ rfl ?_
  intro DI hb5
  have s11:=Sb hb5
  have⟨xG,xY,yS,Ci⟩:=mF hb5 xW wu yC xX
  have b12:=b11.then s11 (.inr b11.size)
  by_cases Y:d.getD i 0∈l
  ·skip
   refine Lv aF (Fx.Pt rfl (congrArg Value.bool (decide_eq_true Y)))<|Ln<|Fx.pF<|Fx.W0.cond (b:=false) rfl (fun h=>nomatch h)<|fun _=>Fx.W0.skip<|Fx.JH<|Fx.pF<|Fx.W0.list<|Lv (au ((i:Int)+1)) (eZ (hx:=I))<|av (au ((i:Int)+1))<|Ln ?_
   have AZ:Fx.Own DI W.heap.size 28 1 (.slice Yf (d.length) (A)) d.length (wE d):=Ci.dU (congrArg (fun q=>Value.slice q d.length A) Z.symm)
   have zN:qz DI (w.heap.size) v j (jT l d (Kj m.T l (EG l.length l.length)) (i+1)):=by unfold jT; rw[if_pos Y]; exact xY
   skip
   refine Fx.aep ⟨i+1,(by omega),(h1.trans Fx.ic),(h2.trans Fx.ic),h3,h4,h5,(h6.trans Fx.ic),Fx.ic,xG,zN,AZ,yS,b12⟩ ?_
   show((d.length:Int)-intOf ((au ((i:Int)+1)))).toNat<_
   simp only[I,intOf]; omega
  skip
  refine Lv aG (Fx.Yx rfl (congrArg Value.bool (decide_eq_false Y))) (Ln (Fx.pF (Fx.W0.cond (b:=true) rfl (fun _=>Fx.W0.list (Lv ((pt v)) (aL xG.aH 0 (ha:=h3)) ?_)) (fun h=>nomatch h))))
  refine av (aD (d.getD i 0))<|dA (IX (d.getD i 0) 0 xY (V6 h.t.inv hq1.2 i)) _ rfl ?_
  rintro Ch ⟨zO,s12⟩
  have abb:=xY.AB s12
  have xL:=xG.dJ abb
  have Ck:=yS.dJ abb
  have A8:=Ci.dJ abb
  have b13:=b12.then s12 (.inl rfl)
  refine Ln<|Fx.JH<|Fx.pF<|Fx.W0.list<|Lv (au ((i:Int)+1)) (eZ (hx:=I))<|av (au ((i:Int)+1))<|Ln ?_
  have CS:Fx.Own Ch W.heap.size 28 1 (.slice Yf (d.length) (A)) d.length (wE d):=A8.dU (congrArg (fun q=>Value.slice q d.length A) Z.symm)
  have DU:qz Ch (w.heap.size) v j (jT l d (Kj m.T l (EG l.length l.length)) (i+1)):=by unfold jT; rw[if_neg Y]; exact zO
  skip
  refine Fx.aep ⟨i+1,(by omega),(h1.trans Fx.ic),(h2.trans Fx.ic),h3,h4,h5,(h6.trans Fx.ic),Fx.ic,xL,DU,CS,Ck,b13⟩ ?_
  show((d.length:Int)-intOf ((au ((i:Int)+1)))).toNat<_
  simp only[I,intOf]; omega
 refine Lv aF (gD c40 (hx:=I) (hy:=h6))<|Ln<|Fx.pF<|Fx.W0.seq<|Fx.W0.cond (b:=false) rfl (fun h=>nomatch h)<|fun _=>Fx.W0.exit<|Fx.aen<|Fx.akO<|Fx.aeo<|Fx.pF<|Fx.W0.seq ?_
 have hil:i=d.length:=by omega
 refine Fx.W0.list<|Lv ((pt v)) (aL xW.aH 0 (ha:=h3)) ?_
 refine aS h1<|aS h2<|dA (IX id pa wu hid) _ rfl ?_
 rintro EN ⟨vk,s13⟩
 have abd:=wu.AB s13
 have wT:=xW.dJ abd
 have vo:=yR.dJ abd
 have sw:=yC.dJ abd
 have b14:=b11.then s13 (.inl rfl)
 refine av (au (dN.err (jT l d (Kj m.T l (EG l.length l.length)) i) id pa))<|Ln<|Fx.pF<|Fx.W0.ret ?_
 have hKD:=(b14.block D lDW (by omega)).trans hK
 have eD:dN.err (jT l d (Kj m.T l (EG l.length l.length)) d.length) id pa=m.T.err id pa:=VZ h.t.inv J hq1
 refine Fx.leaveD hKD (rV Tryz.results170 (show Fx.Kv Tryz.prog _ _ (.tmp 6) (au (dN.err (jT l d (Kj m.T l (EG l.length l.length)) i) id pa))from rfl)) ⟨by rw[hil,eD],?_⟩
 exact(b14.below H H.size hgm).grown (grownBy_putObj' _ D _) (b14.below H H.size hgm).size fun r e=>by cases e; omega
end Go.Proofs.YtahbiajdgealnaaGreatDoor
