/-
  What the proof of the law rests on, part 5: walks of functions, and plain laws; each says its conditions itself.
-/
import Derived.Test.YtahbiajdgealnaaGreatDoorRows
import Derived.OrdersIn
import Derived.Test.YtahbiajdgealnaaGreatDoorZC4
set_option maxHeartbeats 1600000
set_option linter.unusedVariables false
set_option linter.unusedSimpArgs false
namespace Go.Proofs.YtahbiajdgealnaaGreatDoor
open Go.RowKit Rt
open Fx (eP eX fK bB gQ gP dD dO gH jo eT jr fV jv iY Lv sN Ln Ws Qv Wl Rp Wc Qs Wr Sb Lk Wk rC rV sR Rs Rn Rd Rk Wb Wx Wo Dy Wt qI Qn FW Bh yD yZ Db Dw qy iw za nu uP uO vX wV yY Dl Ar rv aA aQ bI aN ev cO Stp dJ aW flat dB Mp fu aX gX iK bD down iM jN iN ny bJ bH cells_one iP bW xE unseen jH iA bO dM bL bM cB cK gG fZ qc gT)
section
namespace Rt
structure Inv0(L:fQ)(T:Nat):Prop where
 BQ:L.tn=L.nn
 nn:L.nn<=32
 tid : ∀ i,i<L.nn->L.t i 0=L.id i/\L.t i 1=L.par i
 rise : ∀ i j,i<j->j<L.nn->L.id i<L.id j
 pos : ∀ i,i<L.nn->1<=L.id i
 top : ∀ i,i<L.nn->L.id i<7696581394432
 up : ∀ i,i<L.nn->L.par i=0 \/ ∃ j,j<L.nn/\L.id j=L.par i
 dep : ∀ x,∃ D,D<=4/\bE L.t L.tn (bf L.t L.tn D x)<0
 gn:L.gn<=T
 rn : ∀ i,i<6->L.rn i<=T
 may : ∀ k,k<L.nn->may (L.R k)=true
 g47 : ∀ k,k<L.nn -> ∀ a,a<6->L.R k a<=140737488355328
 kn:Ez L.known
theorem ZX(a:Int):a<0\/0<=a:=by omega
theorem iC{t:Nat->Nat->Int}{tn:Nat}{x:Int}:0<=bE t tn x <-> ∃ i,i<tn/\t i 0=x:=by
 constructor
 ·intro h;obtain⟨j,c,_,e⟩:=vw h;exact⟨j,c,e⟩
 rintro ⟨i,b,e⟩
 rcases jF (fun i=>decide (t i 0=x)) tn with ⟨k,_,a,_⟩|⟨_,h2⟩
 ·unfold bE; rw[a]; omega
 have:=h2 i b; rw[f_ e]at this; cases this
theorem vJ{t:Nat->Nat->Int}{tn:Nat}{x:Int}:bE t tn x<0 <-> ∀ i,i<tn->t i 0≠x:=by
 constructor
 ·intro h i a e;have:=iC.2 ⟨i,a,e⟩; omega
 intro h
 rcases ZX (bE t tn x)with h1|h1
 ·exact h1
 obtain⟨i,a,e⟩:=iC.1 h1;exact L_ e (h i a)
theorem vK{t:Nat->Nat->Int}{tn i:Nat}(c : ∀ i j,i<tn->j<tn->t i 0=t j 0->i=j)(hi:i<tn):bE t tn (t i 0)=(i:Int):=by
 obtain⟨j,b,e,a⟩:=vw (iC.2 ⟨i,hi,rfl⟩);rw[e,c j i b hi a]
theorem E9{t:Nat->Nat->Int}{tn:Nat}{x:Int} : ∀ j,bf t tn (j+1) x=bf t tn j (bf t tn 1 x)
 | 0=>rfl
 | j+1=>by
   show t (bE t tn (bf t tn (j+1) x)).toNat 1=t (bE t tn (bf t tn j (bf t tn 1 x))).toNat 1;rw[E9 j]
section
variable {L:fQ} {T:Nat}
theorem Inv0.inj(h:Inv0 L T) : ∀ i j,i<L.nn->j<L.nn->L.id i=L.id j->i=j:=fun i j a b e=>by
 rcases Nat.lt_trichotomy i j with h1|h1|h1
 ·have:=h.rise i j h1 b; omega
 ·exact h1
 ·have:=h.rise j i h1 a; omega
theorem Inv0.agN(h:Inv0 L T) : ∀ i j,i<L.tn->j<L.tn->L.t i 0=L.t j 0->i=j:=fun i j a b e=>by
 rw[h.BQ]at a b;rw[(h.tid i a).1,(h.tid j b).1]at e;exact h.inj i j a b e
theorem CK{P Q:Nat->Bool} : ∀ {n:Nat},(∀ i,i<n->P i=Q i)->gW P n=gW Q n
 | 0,_=>rfl
 | n+1,h=>by
   simp only[gW];rw[CK (n:=n) fun i a=>h i (by omega),h n (by omega)]
theorem Inv0.node(h:Inv0 L T)(x:Int):L.node x=bE L.t L.tn x:=by
 unfold fQ.node bE;rw[h.BQ];exact CK fun i a=>by rw[(h.tid i a).1]
theorem Inv0.w(h:Inv0 L T):acG L T where
 nn:=by have:=h.nn; omega
 gn:=h.gn
 rn:=h.rn
 tn:=h.node
 dx:=fun x=>by obtain⟨D,b,a⟩:=h.dep x; exact⟨D,by omega,a⟩
 may:=h.may
 kn:=h.kn
theorem Inv0.mono{T':Nat}(h:Inv0 L T)(a:T<=T'):Inv0 L T' := { h with gn:=m_ h.gn a,rn:=fun i b=>m_ (h.rn i b) a }
theorem DW{a:Type}{f:Nat->a}{k i:Nat}{v:a}(h:i<k):cO f k v i=f i:=by unfold cO; rw[d_ h]
theorem dI{a:Type}{f:Nat->a}{k:Nat}{v:a}:cO f k v k=v:=by unfold cO; rw[b_ (by omega),d_ rfl]
theorem DX{a:Type}{f:Nat->a}{k i:Nat}{v:a}(h:k<i):cO f k v i=f (i-1):=by unfold cO; rw[b_ (by omega),b_ (by omega)]
theorem dW{k i n:Nat}(b:k<=n)(hi:i<n+1):i=k \/ ∃ j,j<n/\(∀ {α:Type} (f:Nat->α) (v:α),cO f k v i=f j)/\(j<k->i=j)/\(k<=j->i=j+1):=by
 rcases Nat.lt_trichotomy i k with h|h|h
 ·exact .inr ⟨i,by omega,fun f v=>DW h,fun _=>rfl,fun a=>by omega⟩
 ·exact .inl h
 exact .inr ⟨i-1,by omega,fun f v=>DX h,fun a=>by omega,fun _=>by omega⟩
theorem AU{k j n:Nat}(a:j<n) : ∃ i,i<n+1/\i≠k /\ ∀ {α:Type} (f:Nat->α) (v:α),cO f k v i=f j:=by
 by_cases h:j<k
 ·exact⟨j,by omega,by omega,fun f v=>DW h⟩
 exact⟨j+1,by omega,by omega,fun f v=>by rw[DX (by omega)]; rfl⟩
theorem yO(t:Nat->Nat->Int)(k:Nat)(id par:Int)(i:Nat):oF t k id par i=cO t k (fun j=>if j=0 then id else par) i:=rfl
theorem GY{P Q:Nat->Bool} : ∀ {n:Nat},(∀ i,i<n->P i=Q i)->down P n=down Q n
 | 0,_=>rfl
 | n+1,h=>by
   unfold down;rw[GY (n:=n) fun i a=>h i (by omega),h n (by omega)]
structure oI(t t':Nat->Nat->Int)(tn:Nat)(id par:Int):Prop where
 u : ∀ i j,i<tn->j<tn->t i 0=t j 0->i=j
 u' : ∀ i j,i<tn+1->j<tn+1->t' i 0=t' j 0->i=j
 no : ∀ i,i<tn->t i 0≠id
 old : ∀ i,i<tn -> ∃ j,j<tn+1/\t' j=t i
 new : ∃ j,j<tn+1/\t' j 0=id/\t' j 1=par
 back : ∀ j,j<tn+1->t' j 0=id \/ ∃ i,i<tn/\t' j=t i
variable {t t':Nat->Nat->Int} {tn:Nat} {id par:Int}
theorem oI.find(h:oI t t' tn id par){x:Int}:0<=bE t' (tn+1) x<->(0<=bE t tn x\/x=id):=by
 rw[iC,iC];constructor
 ·rintro ⟨j,b,e⟩
  rcases h.back j b with a|⟨i,hi,a⟩
  ·exact .inr (e.symm.trans a)
  exact .inl ⟨i,hi,by rw[<- a]; exact e⟩
 rintro (⟨i,hi,e⟩|e)
 ·obtain⟨j,b,a⟩:=h.old i hi;exact⟨j,b,by rw[a]; exact e⟩
 obtain⟨j,b,a,_⟩:=h.new;exact⟨j,b,a.trans e.symm⟩
theorem oI.XZ(h:oI t t' tn id par){x:Int}(hx:0<=bE t tn x):t' (bE t' (tn+1) x).toNat 1=t (bE t tn x).toNat 1:=by
 obtain⟨i,b,e⟩:=iC.1 hx;obtain⟨j,f,a⟩:=h.old i b;have c:bE t tn x=(i:Int):=by rw[<- e]; exact vK h.u b
 have d:bE t' (tn+1) x=(j:Int):=by
  have:t' j 0=x:=by rw[a]; exact e
  rw[<- this]; exact vK h.u' f
 rw[c,d];show t' j 1=t i 1;rw[a]
theorem oI.iter(h:oI t t' tn id par){x:Int} : ∀ K,(∀ i,i<K->0<=bE t tn (bf t tn i x))->bf t' (tn+1) K x=bf t tn K x
 | 0,_=>rfl
 | K+1,hk=>by
   have a:=oI.iter h K fun i b=>hk i (by omega);show t' (bE t' (tn+1) (bf t' (tn+1) K x)).toNat 1=t (bE t tn (bf t tn K x)).toNat 1;rw[a]; exact h.XZ (hk K (by omega))
theorem vL{t:Nat->Nat->Int}{tn:Nat}{x:Int} : ∀ D,bE t tn (bf t tn D x)<0 -> ∃ K,K<=D/\bE t tn (bf t tn K x)<0 /\ ∀ i,i<K->0<=bE t tn (bf t tn i x)
 | 0,h=>⟨0,z_ _,h,fun _ a=>L_ a (u_ _)⟩
 | D+1,h=>by
   by_cases f : ∀ i,i<D+1->0<=bE t tn (bf t tn i x)
   ·exact⟨D+1,z_ _,h,f⟩
   ·obtain⟨i,a⟩:=Classical.not_forall.1 f;obtain⟨a,o⟩:=Classical.not_imp.1 a
    rcases Nat.lt_or_ge i D with h3|h3
    ·-- an earlier end
     have : ∀ n,n<=D->(∃ j,j<=n/\bE t tn (bf t tn j x)<0) -> ∃ K,K<=n/\bE t tn (bf t tn K x)<0 /\ ∀ i,i<K->0<=bE t tn (bf t tn i x):=by
      intro n
      induction n with
      | zero=>rintro _ ⟨j,m,k⟩; obtain rfl:j=0:=by omega
              exact⟨0,z_ _,k,fun _ a=>L_ a (u_ _)⟩
      | succ n ih =>
        rintro k ⟨j,m,g⟩;by_cases c : ∃ j,j<=n/\bE t tn (bf t tn j x)<0
        ·obtain⟨K,d,l⟩:=ih (by omega) c; exact⟨K,by omega,l⟩
        ·refine⟨n+1,z_ _,?_,fun i a => ?_⟩
         ·by_cases e:j=n+1
          ·rw[<- e]; exact g
          ·exact L_ ⟨j,by omega,g⟩ c
         ·rcases ZX (bE t tn (bf t tn i x))with h7|h7
          ·exact L_ ⟨i,by omega,h7⟩ c
          ·exact h7
     obtain⟨K,d,b⟩:=this i (by omega) ⟨i,z_ _,by omega⟩;exact⟨K,by omega,b⟩
    ·obtain rfl:i=D:=(by omega);obtain⟨K,d,b⟩:=vL (t:=t) (tn:=tn) (x:=x) i (by omega);exact⟨K,by omega,b⟩
theorem oI.dep(h:oI t t' tn id par)(z:1<=id)(v : ∀ i,i<tn->t i 1=0\/0<=bE t tn (t i 1))(s:par=0\/0<=bE t tn par)(B:bE t tn 0<0)(o : ∀ x,∃ D,D<=4/\bE t tn (bf t tn D x)<0)(p : ¬ CF t tn par) :
 ∀ x,∃ D,D<=4/\bE t' (tn+1) (bf t' (tn+1) D x)<0:=by
 have A:bE t tn id<0:=vJ.2 h.no;have k : ∀ x K,x≠id->bE t tn (bf t tn K x)<0->(∀ i,i<K->0<=bE t tn (bf t tn i x))->bE t' (tn+1) (bf t' (tn+1) K x)<0:=fun x K c f a=>by
  rw[h.iter K a]
  rcases ZX (bE t' (tn+1) (bf t tn K x))with h1|h1
  ·exact h1
  ·exfalso
   rcases h.find.1 h1 with h2|h2
   ·omega
   ·cases K with
    | zero=>exact c h2
    | succ K =>
      have q:=a K (by omega);obtain⟨i,b,e⟩:=iC.1 q;have d:bf t tn (K+1) x=t i 1:=by
       show t (bE t tn (bf t tn K x)).toNat 1=t i 1;rw[<- e,vK h.u b]; rfl
      rw[d]at h2 f
      rcases v i b with h4|h4
      ·omega
      ·omega
 intro x;by_cases c:x=id
 ·subst c;obtain⟨i,b⟩:=Classical.not_forall.1 p;obtain⟨y,b⟩:=Classical.not_imp.1 b;obtain⟨K,f,g,a⟩:=vL (t:=t) (tn:=tn) (x:=par) i (by omega);refine⟨K+1,by omega,?_⟩;have l:bf t' (tn+1) 1 x=par:=by
   obtain⟨j,r,m,d⟩:=h.new;show t' (bE t' (tn+1) x).toNat 1=par;rw[<- m,vK h.u' r]; exact d
  rw[E9,l];refine k par K ?_ g a;rintro rfl
  rcases s with h1|h1 <;> omega
 obtain⟨D,w,n⟩:=o x;obtain⟨K,f,g,a⟩:=vL D n;exact⟨K,by omega,k x K c g a⟩
end
end Rt
end
section
namespace Rt
section
variable {L:fQ} {T:Nat} {v:EvM}
theorem X0{t:Nat->Nat->Int}{tn:Nat}{id par:Int}(h:jk t tn id par=0):id≠0/\bE t tn id<0/\(par=0\/0<=bE t tn par)/\tn<32 /\ ¬ CF t tn par:=by
 unfold jk at h;split at h; · cases h
 rename_i h1;split at h; · cases h
 rename_i h2;split at h; · cases h
 rename_i h3;split at h; · cases h
 rename_i h4;refine⟨h1,by omega,?_,?_,fun b=>h4 (.inr b)⟩
 ·rcases ZX (bE t tn par)with h5|h5
  ·by_cases a:par=0
   ·exact .inl a
   exact L_ ⟨a,h5⟩ h3
  exact .inr h5
 rcases Nat.lt_or_ge tn 32 with h5|h5
 ·exact h5
 exact L_ (Or.inl h5) h4
theorem nS(h:bR v=true):1<=v.o/\v.o<=6/\1<=v.seq/\v.seq<1099511627776:=by
 have a:=iJ h;have b:=DI h;unfold pG at a;simp only[R_,decide_eq_true_eq]at a;exact⟨a.1,a.2,b.1,b.2⟩
theorem qU(h:bR v=true):iU v.o v.seq=1099511627776*v.o+v.seq:=by
 have:=nS h;unfold iU; rw[d_ (by omega)]
theorem lH(h:bR v=true):aL v<6:=by
 have:=nS h; unfold aL; omega
theorem X3{a:Nat}{n:Int}(ha:a<6)(f:0<=n)(h1:n<=1125899906842624):may (upd (fun _=>0) a n)=true:=by
 have e : ∀ p,upd (fun _=>0) a n p=if p=a then n else 0:=fun p=>rfl;rw[jK];refine⟨fun p l => ?_,fun k h => ?_,?_⟩
 ·rw[e]; split <;> omega
 ·have b : ∀ i j,R (upd (fun _=>0) a n) i j=0:=fun i j=>by unfold R; rw[e,b_ (by omega)]
  refine⟨?_,?_,b k k⟩
  ·unfold L;simp only[b];have g:0<=G (upd (fun _=>0) a n) k:=by unfold G; rw[e]; split <;> omega
   have d:F (upd (fun _=>0) a n) k=0:=(by unfold F; rw[e,b_ (by omega)]);have c:C (upd (fun _=>0) a n) k=0:=(by unfold C; rw[e,b_ (by omega)]);omega
  have d:F (upd (fun _=>0) a n) k=0:=by unfold F; rw[e,b_ (by omega)]
  have c:C (upd (fun _=>0) a n) k=0:=by unfold C; rw[e,b_ (by omega)]
  omega
 unfold qo G;simp only[e];have:(if 0=a then n else 0)+(if 1=a then n else 0)+(if 2=a then n else 0)+(if 3=a then n else 0)+(if 4=a then n else 0)+(if 5=a then n else 0)=n:=six a ha n;omega
theorem wN(h:Inv0 L T)(d:bR v=true)(F:v.kind=1)(f:jV L v=0) : ∃ k,k<=L.nn/\1<=iU v.o v.seq/\L.nn<32/\(0<=v.aT/\v.aT<=140737488355328)/\(v.node=0\/0<=bE L.t L.tn v.node) /\ ¬ CF L.t L.tn v.node /\
 qp L v = { L with nn:=L.nn+1,id:=cO L.id k (iU v.o v.seq),par:=cO L.par k v.node,R:=cO L.R k (upd (fun _=>0) (aL v) v.aT),tn:=L.tn+1,t:=oF L.t k (iU v.o v.seq) v.node } /\
 (∀ i j,i<j->j<L.nn+1->cO L.id k (iU v.o v.seq) i<cO L.id k (iU v.o v.seq) j)/\(∀ i,i<L.nn+1->oF L.t k (iU v.o v.seq) v.node i 0=cO L.id k (iU v.o v.seq) i/\oF L.t k (iU v.o v.seq) v.node i 1=cO L.par k v.node i) /\
 oI L.t (oF L.t k (iU v.o v.seq) v.node) L.tn (iU v.o v.seq) v.node:=by
 unfold jV at f;split at f
 ·cases f
 rename_i h47;obtain⟨K,s,w,M,y⟩:=X0 f;have S:=nS d;have U:=qU d;have W:=lH d;have D:0<=v.aT/\v.aT<=140737488355328:=by
  have Q : ¬ 140737488355328<v.aT:=fun h=>h47 (.inr h);unfold bR at d;simp only[R_]at d;have l:=d.2;unfold dK at l;rw[d_ F]at l;simp only[R_,decide_eq_true_eq]at l;omega
 generalize hx:iU v.o v.seq=x at *;have J:1<=x:=by omega
 have A:down (fun i=>decide (x<L.t i 0)) L.tn=rU L.id L.nn x:=by
  unfold rU; rw[h.BQ]; exact GY fun i a=>by rw[(h.tid i a).1]
 have z:qp L v = { L with nn:=L.nn+1,id:=cO L.id (rU L.id L.nn x) x,par:=cO L.par (rU L.id L.nn x) v.node,R:=cO L.R (rU L.id L.nn x) (upd (fun _=>0) (aL v) v.aT),tn:=L.tn+1,t:=oF L.t (rU L.id L.nn x) x v.node }:=by
  unfold qp; rw[hx,A]; rfl
 generalize hkk:rU L.id L.nn x=k at *;have c:k<=L.nn:=by rw[<- hkk]; exact Fx.yF _ _
 have G : ∀ i,i<L.nn->L.id i≠x:=fun i a e=>vJ.1 s i (by rw[h.BQ]; exact a) (by rw[(h.tid i a).1]; exact e);have C : ∀ q,k<=q->q<L.nn->x<L.id q:=fun q b g=>by
  have:=Fx.Iu (P:=fun i=>decide (x<L.id i)) (n:=L.nn) (i:=q) (by show rU L.id L.nn x<=q; omega) g;exact h_ this
 have B : ∀ q,q<k->L.id q<x:=fun q b=>by
  obtain⟨j,rfl⟩ : ∃ j,k=j+1:=⟨k-1,by omega⟩;have g:=Fx.Iw (P:=fun i=>decide (x<L.id i)) (n:=L.nn) (j:=j) hkk;have N : ¬ x<L.id j:=j_ g;have O:=G j (by omega);by_cases e:q=j
  ·subst e; omega
  ·have:=h.rise q j (by omega) (by omega); omega
 have H:L.nn<32:=by have:=h.BQ; omega
 have m : ∀ i j,i<j->j<L.nn+1->cO L.id k x i<cO L.id k x j:=fun i j V hj=>by
  rcases dW c (show i<L.nn+1 by omega)with rfl|⟨q,hq,eq,q1,q2⟩
  ·rcases dW c hj with rfl|⟨r,hr,er,r1,r2⟩
   ·omega
   ·rw[dI,er];exact C r (by omega) hr
  ·rcases dW c hj with rfl|⟨r,hr,er,r1,r2⟩
   ·rw[dI,eq];exact B q (by omega)
   ·rw[eq,er];exact h.rise q r (by omega) hr
 have p : ∀ i,i<L.nn+1->oF L.t k x v.node i 0=cO L.id k x i/\oF L.t k x v.node i 1=cO L.par k v.node i:=fun i a=>by
  rw[yO]
  rcases dW c a with rfl|⟨q,hq,eq,_,_⟩
  ·rw[dI,dI,dI]; exact⟨rfl,rfl⟩
  ·rw[eq,eq,eq]; exact h.tid q hq
 have E : ∀ i j,i<L.nn+1->j<L.nn+1->cO L.id k x i=cO L.id k x j->i=j:=fun i j a hj e=>by
  rcases Nat.lt_trichotomy i j with b|b|b
  ·have:=m i j b hj; omega
  ·exact b
  ·have:=m j i b a; omega
 have I:oI L.t (oF L.t k x v.node) L.tn x v.node := {
  u:=h.agN
  u':=fun i j a hj e=>by
   rw[h.BQ]at a hj;rw[(p i a).1,(p j hj).1]at e;exact E i j a hj e
  no:=vJ.1 s
  old:=fun i a=>by
   obtain⟨j,hj,_,e⟩:=AU (k:=k) a;exact⟨j,hj,by rw[yO]; exact e L.t _⟩
  new:=⟨k,by have:=h.BQ; omega,by rw[yO,dI]; rfl,by rw[yO,dI]; rfl⟩
  back:=fun j hj=>by
   rw[h.BQ]at hj
   rcases dW c hj with rfl|⟨q,hq,eq,_,_⟩
   ·exact .inl (by rw[yO,dI]; rfl)
   ·exact .inr ⟨q,by rw[h.BQ]; exact hq,by rw[yO]; exact eq L.t _⟩ }
 exact⟨k,c,J,H,D,w,y,z,m,p,I⟩
theorem Qh(h:Inv0 L T)(c:bR v=true)(w:v.kind=1)(r:jV L v=0):Inv0 (qp L v) (T+1):=by
 obtain⟨k,a,m,K,s,g,n,p,B,E,F⟩:=wN h c w r;have I:=nS c;have J:=qU c;have C:=lH c;rw[p];generalize hx:iU v.o v.seq=x at *;have z : ∀ j,j<L.nn -> ∃ i,i<L.nn+1/\cO L.id k x i=L.id j:=fun j hj=>by
  obtain⟨i,hi,_,e⟩:=AU (k:=k) hj;exact⟨i,hi,e L.id x⟩
 have H:bE L.t L.tn 0<0:=vJ.2 fun i hi e=>by
  rw[h.BQ]at hi;rw[(h.tid i hi).1]at e;have:=h.pos i hi; omega
 have A:v.node=0 \/ ∃ j,j<L.nn/\L.id j=v.node:=by
  rcases g with e|e
  ·exact .inl e
  ·obtain⟨i,hi,d⟩:=iC.1 e;rw[h.BQ]at hi;exact .inr ⟨i,hi,by rw[<- (h.tid i hi).1]; exact d⟩
 exact {
  BQ:=by show L.tn+1=L.nn+1; rw[h.BQ]
  nn:=by show L.nn+1<=32; omega
  tid:=E
  rise:=B
  pos:=fun i hi=>by
   show 1<=cO L.id k x i
   rcases dW a hi with rfl|⟨q,hq,eq,_,_⟩
   ·rw[dI]; exact m
   ·rw[eq]; exact h.pos q hq
  top:=fun i hi=>by
   show cO L.id k x i<_
   rcases dW a hi with rfl|⟨q,hq,eq,_,_⟩
   ·rw[dI]; omega
   ·rw[eq]; exact h.top q hq
  up:=fun i hi=>by
   show cO L.par k v.node i=0 \/ ∃ j,j<L.nn+1/\cO L.id k x j=cO L.par k v.node i;have l : ∀ y,(y=0 \/ ∃ j,j<L.nn/\L.id j=y)->(y=0 \/ ∃ j,j<L.nn+1/\cO L.id k x j=y):=fun y G=>G.imp id fun⟨j,hj,e⟩=>by
    obtain⟨i,hi,d⟩:=z j hj;exact⟨i,hi,d.trans e⟩
   rcases dW a hi with rfl|⟨q,hq,eq,_,_⟩
   ·rw[dI]; exact l _ A
   ·rw[eq]; exact l _ (h.up q hq)
  dep:=by
   show ∀ y,∃ D,D<=4/\bE (oF L.t k x v.node) (L.tn+1) (bf (oF L.t k x v.node) (L.tn+1) D y)<0;refine F.dep m (fun i hi => ?_) g H h.dep n;have f:=hi;rw[h.BQ]at f;rw[(h.tid i f).2]
   rcases h.up i f with e|⟨j,hj,e⟩
   ·exact .inl e
   ·exact .inr (iC.2 ⟨j,by rw[h.BQ]; exact hj,by rw[(h.tid j hj).1]; exact e⟩)
  gn:=Nat.le_succ_of_le h.gn
  rn:=fun i hi=>Nat.le_succ_of_le (h.rn i hi)
  may:=fun i hi=>by
   show may (cO L.R k _ i)=true
   rcases dW a hi with rfl|⟨q,hq,eq,_,_⟩
   ·rw[dI]; exact X3 C s.1 (by omega)
   ·rw[eq]; exact h.may q hq
  g47:=fun i hi b u=>by
   show cO L.R k _ i b<=_
   rcases dW a hi with rfl|⟨q,hq,eq,_,_⟩
   ·rw[dI];show(if b=aL v then v.aT else 0)<=_;split <;> omega
   ·rw[eq]; exact h.g47 q hq b u
  kn:=h.kn }
theorem GZ{b:fQ}{T':Nat}(h:Inv0 L T)(c:b.nn=L.nn)(d:b.id=L.id)(f:b.par=L.par)(g:b.tn=L.tn)(j:b.t=L.t)(m:b.known=L.known)(n:b.gn<=T')(hr : ∀ i,i<6->b.rn i<=T')
 (l : ∀ k,k<L.nn->may (b.R k)=true /\ ∀ a,a<6->b.R k a<=140737488355328):Inv0 b T' where
 BQ:=by rw[c,g]; exact h.BQ
 nn:=by rw[c]; exact h.nn
 tid:=by rw[c,d,f,j]; exact h.tid
 rise:=by rw[c,d]; exact h.rise
 pos:=by rw[c,d]; exact h.pos
 top:=by rw[c,d]; exact h.top
 up:=by rw[c,d,f]; exact h.up
 dep:=by rw[g,j]; exact h.dep
 gn:=n
 rn:=hr
 may:=by rw[c]; exact fun k e=>(l k e).1
 g47:=by rw[c]; exact fun k e=>(l k e).2
 kn:=by rw[m]; exact h.kn
def uE(x:Nat->Int):Prop:=may x=true /\ ∀ a,a<6->x a<=140737488355328
theorem Fa{f:(Nat->Int)->(Nat->Int) × Int}{idx:Nat->Nat}{R:Nat->Nat->Int}{n:Nat}(g : ∀ x,uE x->(f x).2=0->uE (f x).1)(d : ∀ k,k<n->uE (R k)) : ∀ K k,k<n->uE ((dz f idx R K).1 k)
 | 0,k,hk=>d k hk
 | K+1,k,hk=>by
   have a:=Fa g d (idx:=idx) K;unfold dz;by_cases e:(dz f idx R K).2=0
   ·rw[d_ e];by_cases b:(f ((dz f idx R K).1 (idx K))).2=0
    ·rw[d_ b];show uE (if k=idx K then _ else _);by_cases c:k=idx K
     ·rw[d_ c]; exact g _ (by rw[<- c]; exact a k hk) b
     ·rw[b_ c]; exact a k hk
    ·rw[b_ b]; exact a k hk
   ·rw[b_ e]; exact a k hk
theorem X4{x:Nat->Int}{i n:Int}(h:uE x)(c:(bC x i n).2=0):uE (bC x i n).1:=by
 obtain⟨a,g,_,_,_,_,_,f,_,_,_,e⟩:=I4 c;exact⟨f,fun b d=>by rw[e,gy _ _ _ _ (by omega)]; exact h.2 b d⟩
theorem X5{x:Nat->Int}{i n:Int}(h:uE x)(c:(bF x i n).2=0):uE (bF x i n).1:=by
 obtain⟨a,g,_,_,_,_,f,_,_,_,e⟩:=I5 c;exact⟨f,fun b d=>by rw[e,gy _ _ _ _ (by omega)]; exact h.2 b d⟩
theorem X6{x:Nat->Int}{i j n:Int}(h:uE x)(d:(dw x i j n).2=0):uE (dw x i j n).1:=by
 obtain⟨a,b,k,l,_,_,_,_,_,_,g,e⟩:=AP d;exact⟨g.may,fun c f=>by rw[e,gy _ _ _ _ (by omega)]; exact h.2 c f⟩
theorem Um{x:Nat->Int}{a:Nat}{n:Int}(ha:a<6)(h:uE x)(s:0<=n)(q : ¬ 140737488355328<x a+n):uE (upd x a (x a+n)):=by
 have d:=(jK x).1 h.1;have e : ∀ p,upd x a (x a+n) p=if p=a then x a+n else x p:=fun p=>rfl;have t:=d.1 a (by omega);have c : ∀ b,b<6->upd x a (x a+n) b<=140737488355328:=fun b l=>by
  rw[e]; split
  ·omega
  ·exact h.2 b l
 refine⟨(jK _).2 ⟨fun p o => ?_,fun k m => ?_,?_⟩,c⟩
 ·have:=d.1 p o;rw[e]; split <;> omega
 ·obtain⟨r,i,j⟩:=d.2.1 k m;have f:C (upd x a (x a+n)) k=C x k:=by unfold C; rw[e,b_ (by omega)]
  have g:F (upd x a (x a+n)) k=F x k:=by unfold F; rw[e,b_ (by omega)]
  refine⟨?_,?_,?_⟩
  ·rw[Ua x a (by omega),f,g,agv]; split <;> omega
  ·rw[f,g]; exact i
  unfold R; rw[e,b_ (by omega)]; exact j
 unfold qo G;have:=c 0 (by omega); have:=c 1 (by omega); have:=c 2 (by omega); have:=c 3 (by omega); have:=c 4 (by omega); have:=c 5 (by omega);omega
theorem Inv0.KF(h:Inv0 L T) : ∀ k,k<L.nn->uE (L.R k):=fun k a=>⟨h.may k a,h.g47 k a⟩
theorem Ot(h:Inv0 L T)(a:Nat) : ∀ i,i<6->aH L.rn a (L.rn a+1) i<=T+1:=fun i b=>by
 unfold aH;by_cases e:i=a
 ·subst e; rw[d_ rfl]; have:=h.rn i b; omega
 ·rw[b_ e]; have:=h.rn i b; omega
theorem Ou{q:Nat}{r:Nat->Int}(h : ∀ k,k<L.nn->uE (L.R k))(hr:uE r) : ∀ k,k<L.nn->uE (aH L.R q r k):=fun k a=>by
 unfold aH; split
 ·exact hr
 ·exact h k a
theorem Inv0.Ov(h:Inv0 L T){x:Int}(hx : ¬ L.node x<0):(L.node x).toNat<L.nn:=by
 rw[h.node]at hx ⊢;obtain⟨j,a,e,_⟩:=vw (show 0<=bE L.t L.tn x by omega);rw[e]; have:=h.BQ; simp; omega
theorem Qi(h:Inv0 L T)(a : ∀ k,k<L.nn->uE ((mU L v).1 k)):Inv0 (lS L v) (T+1):=by
 unfold lS qx;generalize mU L v=W at a;exact GZ h rfl rfl rfl rfl rfl rfl (Nat.succ_le_succ h.gn) (Ot h _) a
theorem Qj(h:Inv0 L T)(a : ∀ k,k<L.nn->uE ((lU L v).1 k)):Inv0 (jW L v) (T+1):=by
 unfold jW qx;generalize lU L v=W at a;exact GZ h rfl rfl rfl rfl rfl rfl (Nat.le_succ_of_le h.gn) (Ot h _) a
theorem Un(h:Inv0 L T)(f:bR v=true)(a:dU L v=0):Inv0 (iG L v) (T+1):=by
 have q:=iW f;have o:=lH f;have e:=h.gn;have d : ∀ i,i<6->L.rn i<=T+1:=fun i n=>Nat.le_succ_of_le (h.rn i n);unfold dU at a;unfold iG;by_cases b:v.kind=1
 ·rw[d_ b]at a ⊢; exact Qh h f b a
 by_cases c:v.kind=2
 ·rw[b_ b,d_ c]at a ⊢;unfold wM at a;split at a; · cases a
  rename_i n1;split at a; · cases a
  rename_i n2;have p:=kQ f (.inl c);exact GZ h rfl rfl rfl rfl rfl rfl (Nat.le_succ_of_le e) d (Ou h.KF (Um o (h.KF _ (h.Ov n1)) (by omega) n2))
 by_cases g:v.kind=3
 ·rw[b_ b,b_ c,d_ g]at a ⊢;have j : ∀ k,k<L.nn->uE ((mU L v).1 k):=by unfold mU; exact Fa (fun x=>X4) h.KF _
  exact Qi h j
 by_cases l:v.kind=4
 ·rw[b_ b,b_ c,b_ g,d_ l]at a ⊢;have j : ∀ k,k<L.nn->uE ((lU L v).1 k):=by unfold lU; exact Fa (fun x=>X5) h.KF _
  exact Qj h j
 by_cases m:v.kind=5
 ·rw[b_ b,b_ c,b_ g,b_ l,d_ m]at a ⊢;unfold oH at a;split at a; · cases a
  rename_i n1;split at a; · cases a
  exact GZ h rfl rfl rfl rfl rfl rfl (Nat.le_succ_of_le e) d (Ou h.KF (X6 (h.KF _ (h.Ov n1)) a))
 rw[b_ b,b_ c,b_ g,b_ l,b_ m];split
 ·exact GZ h rfl rfl rfl rfl rfl rfl (Nat.le_succ_of_le e) d h.KF
 exact GZ h rfl rfl rfl rfl rfl rfl (Nat.le_succ_of_le e) d h.KF
theorem Ac(h:Inv0 L T):Inv0 (bU L v) (T+1):=by
 unfold bU;by_cases a:bS L v=0
 ·rw[d_ a];unfold bS at a;split at a; · cases a
  rename_i h1;split at a; · cases a
  split at a; · cases a
  rename_i h3;split at a; · cases a
  have b:bR v=true:=by simpa using h1
  have c:dH L.known v=true:=by simpa using h3
  have g:=Un h b a;have k:=lH b;have m:=DI b;refine { g with kn:=fun i j => ?_ };have e:(GX (iG L v) v).known=aH L.known (aL v) (L.known (aL v)+1):=by unfold GX; simp only[pK]
  rw[e];unfold dH at c;simp only[R_,decide_eq_true_eq]at c;have d:=h.kn;unfold aH;split
  ·have f:=c.1.2;have l:v.seq=L.known (aL v)+1:=f;have:=d (aL v) k;omega
  exact d i j
 rw[b_ a]; exact h.mono (Nat.le_succ T)
end
end Rt
end
section
namespace Rt
def Fb(t:Nat->Nat->Int)(tn:Nat)(x y:Int):Nat->Int
 | 0=>0
 | k+1=>Fb t tn x y k+if bf t tn k x=y then 1 else 0
def AV(t:Nat->Nat->Int)(tn:Nat)(x y:Int):Int:=Fb t tn x y (bV t tn x)
def nT(t:Nat->Nat->Int)(tn:Nat)(g:Nat->Int)(y:Int):Int:=if g 4=0 then g 3*AV t tn (g 2) y else 0
def mF(t:Nat->Nat->Int)(tn:Nat)(g:Nat->Nat->Int)(y:Int):Nat->Int
 | 0=>0
 | q+1=>mF t tn g y q+nT t tn (g q) y
structure yh(L:fQ):Prop where
 us : ∀ k,k<L.nn->ni (L.R k)=mF L.t L.tn L.g (L.id k) L.gn
 gb : ∀ q,q<L.gn->0<=bE L.t L.tn (L.g q 2)/\1<=L.g q 0/\L.g q 0<=6/\0<=L.g q 3/\L.g q 3<=1125899906842624
structure mG(v:EvM):Prop where
 aT:v.aT<=65536
 req:v.req<=256
structure Qk(L:fQ)(T:Nat):Prop where
 kt : ∀ i,i<6->L.known i<=T
 rb : ∀ k,k<L.nn -> ∀ a,a<54->L.R k a<=2097152*T
 rq : ∀ i,i<6 -> ∀ j,j<L.rn i->L.rq i j<=256
structure Inv(L:fQ)(T:Nat):Prop extends Inv0 L T where
 s:yh L
 b:Qk L T
section
variable {L:fQ} {T:Nat} {v:EvM}
theorem I8{P:Nat->Bool} : ∀ {n i:Nat},i<lead P n->P i=true
 | 0,i,h=>L_ h (u_ _)
 | n+1,i,h=>by
   unfold lead at h;by_cases e:lead P n=n/\P n=true
   ·rw[d_ e]at h;by_cases a:i=n
    ·rw[a]; exact e.2
    ·exact I8 (n:=n) (by omega)
   ·rw[b_ e]at h; exact I8 h
theorem AX{t:Nat->Nat->Int}{tn i:Nat}{x:Int}(h:i<bV t tn x):0<=bE t tn (bf t tn i x):=h_ (I8 (P:=fun i=>decide (0<=bE t tn (bf t tn i x))) h)
theorem yP{t t':Nat->Nat->Int}{tn b:Nat}{g a:Nat->Nat->Int}{y c:Int} : ∀ n,(∀ q,q<n->nT t' b (a q) c=nT t tn (g q) y)->mF t' b a c n=mF t tn g y n
 | 0,_=>rfl
 | n+1,h=>by unfold mF; rw[yP n fun q d=>h q (by omega),h n (by omega)]
theorem G5{t:Nat->Nat->Int}{tn:Nat}{g:Nat->Nat->Int}{y:Int} : ∀ n,(∀ q,q<n->nT t tn (g q) y=0)->mF t tn g y n=0
 | 0,_=>rfl
 | n+1,h=>by unfold mF; rw[G5 n fun q a=>h q (by omega),h n (by omega)]; rfl
theorem KG{t:Nat->Nat->Int}{tn k:Nat}{g:Nat->Nat->Int}{x:Nat->Int}{y:Int} : ∀ n,k<n->mF t tn (aH g k x) y n=mF t tn g y n-nT t tn (g k) y+nT t tn x y
 | 0,h=>L_ h (u_ _)
 | n+1,h=>by
   unfold mF;by_cases e:k=n
   ·subst e;rw[yP (t:=t) (tn:=tn) (g:=g) (y:=y) k fun q a=>by unfold aH; rw[b_ (by omega)]];unfold aH; rw[d_ rfl]; omega
   ·rw[KG n (by omega)];have:aH g k x n=g n:=b_ (fun h=>e h.symm);rw[this]; omega
theorem KH{t:Nat->Nat->Int}{tn k:Nat}{g:Nat->Nat->Int}{x:Nat->Int}{y:Int} : ∀ n,k<=n->mF t tn (cO g k x) y (n+1)=mF t tn g y n+nT t tn x y
 | 0,h=>by
   obtain rfl:k=0:=(by omega);show(0:Int)+nT t tn (cO g 0 x 0) y=0+_;rw[dI]
 | n+1,h=>by
   by_cases e:k=n+1
   ·subst e;show mF t tn (cO g (n+1) x) y (n+1)+nT t tn (cO g (n+1) x (n+1)) y=_;rw[dI,yP (t:=t) (tn:=tn) (g:=g) (y:=y) (n+1) fun q a=>by rw[DW a]]
   ·show mF t tn (cO g k x) y (n+1)+nT t tn (cO g k x (n+1)) y=mF t tn g y n+nT t tn (g n) y+_;rw[KH n (by omega),DX (by omega),Nat.add_sub_cancel]; omega
def Uo(idx:Nat->Nat)(k:Nat):Nat->Int
 | 0=>0
 | j+1=>Uo idx k j+if idx j=k then 1 else 0
theorem BR{f:(Nat->Int)->(Nat->Int) × Int}{idx:Nat->Nat}{R:Nat->Nat->Int}{d:Int}(e : ∀ x,(f x).2=0->ni (f x).1=ni x+d) : ∀ K,(dz f idx R K).2=0 -> ∀ k,ni ((dz f idx R K).1 k)=ni (R k)+d*Uo idx k K
 | 0,_,k=>by show ni (R k)=ni (R k)+d*0; omega
 | K+1,h,k=>by
   unfold dz at h ⊢;by_cases a:(dz f idx R K).2=0
   ·have g:=BR e K a k;rw[d_ a]at h ⊢;by_cases b:(f ((dz f idx R K).1 (idx K))).2=0
    ·rw[d_ b];show ni (aH _ (idx K) _ k)=_;unfold aH Uo;rw[Int.mul_add];by_cases c:k=idx K
     ·subst c;rw[d_ rfl,d_ rfl,e _ b,g]; omega
     ·rw[b_ c,b_ (fun h=>c h.symm),g]; omega
    ·rw[b_ b]at h; exact L_ h b
   ·rw[b_ a]at h; exact L_ h a
theorem MR{t:Nat->Nat->Int}{tn k:Nat}{x y:Int}{idx:Nat->Nat} : ∀ K,(∀ i,i<K->(idx i=k<->bf t tn i x=y))->Uo idx k K=Fb t tn x y K
 | 0,_=>rfl
 | K+1,h=>by
   unfold Uo Fb;rw[MR K fun i b=>h i (by omega)];by_cases e:idx K=k
   ·rw[d_ e,d_ ((h K (by omega)).1 e)]
   ·rw[b_ e,b_ (fun a=>e ((h K (by omega)).2 a))]
theorem DY(h:Inv0 L T){x:Int}{i k:Nat}(g:k<L.nn)(hi:i<bV L.t L.tn x):oh L x i=k<->bf L.t L.tn i x=L.id k:=by
 obtain⟨j,f,e,c⟩:=vw (AX hi);have b:j<L.nn:=by rw[<- h.BQ]; exact f
 have l:oh L x i=j:=by unfold oh; rw[h.node,e]; rfl
 rw[l];have a:L.id j=bf L.t L.tn i x:=by rw[<- (h.tid j b).1]; exact c
 constructor
 ·rintro rfl; exact a.symm
 intro d; exact h.inj j k b g (a.trans d)
theorem KI{x:Nat->Int}{a:Nat}{n:Int}(ha:a<6):ni (upd x a n)=ni x:=by
 have b : ∀ k,C (upd x a n) k=C x k:=fun k=>gy _ _ _ _ (by omega);have c : ∀ k,F (upd x a n) k=F x k:=fun k=>gy _ _ _ _ (by omega);unfold ni; simp only[b,c]
theorem Uq(h:bR v=true)(b:v.kind=4):1<=v.req:=by
 unfold bR at h;simp only[R_]at h;have a:=h.2;unfold dK at a;rw[b_ (by omega),b_ (by omega),b_ (by omega),d_ b]at a;simp only[R_,decide_eq_true_eq]at a;exact a.1.1
theorem acH{n k:Nat}{g:Nat->Nat->Int}{x:Nat->Int}(a:k<=n)(P:(Nat->Int)->Prop)(h : ∀ q,q<n->P (g q))(hx:P x) : ∀ q,q<n+1->P (cO g k x q):=fun q b=>by
 rcases dW a b with rfl|⟨j,hj,e,_,_⟩
 ·rw[dI]; exact hx
 ·rw[e]; exact h j hj
attribute [local irreducible] bV in
theorem MS(j:Inv0 L T)(h:yh L)(e:bR v=true)(b:v.kind=3)(a:iQ L v=0):yh (lS L v):=by
 unfold iQ at a;split at a; · cases a
 split at a; · cases a
 rename_i hp;have c:=nS e;have l:=kQ e (.inr (.inl b));unfold lS qx;have p:=BR (f:=fun x=>bC x v.o v.aT) (idx:=oh L v.node) (R:=L.R) (d:=v.aT) (fun x s=>by obtain⟨_,_,_,_,_,_,_,_,_,_,r,_⟩:=I4 s; exact r) _ a;refine⟨fun k b => ?_,fun q n => ?_⟩
 ·show ni ((mU L v).1 k)=mF L.t L.tn (cO L.g (down (fun i=>ER v (L.g i)) L.gn) (qb v)) (L.id k) (L.gn+1);rw[KH _ (Fx.yF _ _)];have:=p k;rw[show nT L.t L.tn (qb v) (L.id k)=v.aT*AV L.t L.tn v.node (L.id k)from rfl,<- h.us k b];unfold AV;rw[<- MR (idx:=oh L v.node) (k:=k) _ fun i m=>DY j b m];exact this
 exact acH (Fx.yF _ _) (fun y=>0<=bE L.t L.tn (y 2)/\1<=y 0/\y 0<=6/\0<=y 3/\y 3<=1125899906842624) h.gb
  ⟨AX (i:=0) (x:=v.node) (by omega),c.1,c.2.1,by show 0<=v.aT; omega,l.2⟩ q n
attribute [local irreducible] bV in
theorem MU(s:Inv0 L T)(h:yh L)(z:bR v=true)(c:v.kind=4)(b:iF L v=0):yh (jW L v):=by
 unfold iF at b;split at b; · cases b
 split at b; · cases b
 rename_i l;have F:=Uq z c
 have E:0<=L.grant v.o v.of:=by rcases ZX (L.grant v.o v.of)with h|h; · exact L_ (.inl h) l
                                ·exact h
 have D:L.g (zI L v) 4=0:=by
  by_cases e:L.g (zI L v) 4=0
  ·exact e
  ·exact L_ (.inr e) l
 have n:zI L v<L.gn:=by
  rcases jF (fun i=>decide (L.g i 0=v.o)&&decide (L.g i 1=v.of)) L.gn with ⟨k,c,e,_⟩|⟨e,_⟩
  ·have m:L.grant v.o v.of=(k:Int):=e;unfold zI; rw[m]; exact c
  ·have m:L.grant v.o v.of = -1:=e;omega
 unfold jW qx lU;unfold lU at b;generalize zI L v=q at *;have A:=BR (f:=fun x=>bF x v.o (L.g q 3)) (idx:=oh L (L.g q 2)) (R:=L.R) (d := -(L.g q 3)) (fun x C=>by obtain⟨_,_,_,_,_,_,_,_,_,B,_⟩:=I5 C; rw[B]; omega) _ b;have u:=h.gb q n;refine⟨fun k c => ?_,fun p l => ?_⟩
 ·show ni ((dz _ _ _ _).1 k)=mF L.t L.tn (aH L.g q (aH (L.g q) 4 v.req)) (L.id k) L.gn;rw[KG _ n,<- h.us k c,A k];have a:nT L.t L.tn (aH (L.g q) 4 v.req) (L.id k)=0:=by
   unfold nT; rw[b_]; show ¬ v.req=0; omega
  have r:nT L.t L.tn (L.g q) (L.id k)=L.g q 3*AV L.t L.tn (L.g q 2) (L.id k):=d_ D;rw[a,r];unfold AV;rw[<- MR (idx:=oh L (L.g q 2)) (k:=k) _ fun i w=>DY s c w,Int.neg_mul];omega
 show 0<=bE L.t L.tn (aH L.g q (aH (L.g q) 4 v.req) p 2)/\1<=aH L.g q (aH (L.g q) 4 v.req) p 0/\aH L.g q (aH (L.g q) 4 v.req) p 0<=6/\0<=aH L.g q (aH (L.g q) 4 v.req) p 3/\aH L.g q (aH (L.g q) 4 v.req) p 3<=1125899906842624;by_cases e:p=q
 ·subst e;have a : ∀ j,j≠4->aH L.g p (aH (L.g p) 4 v.req) p j=L.g p j:=fun j y=>by
   show(if p=p then aH (L.g p) 4 v.req else L.g p) j=_;rw[d_ rfl]; exact b_ y
  rw[a 2 (by omega),a 0 (by omega),a 3 (by omega)]; exact u
 have a:aH L.g q (aH (L.g q) 4 v.req) p=L.g p:=b_ e;rw[a]; exact h.gb p l
theorem I9{a:fQ}(h:yh L)(j:a.nn=L.nn)(l:a.id=L.id)(c:a.tn=L.tn)(d:a.t=L.t)(e:a.gn=L.gn)(f:a.g=L.g)(m : ∀ k,k<L.nn->ni (a.R k)=ni (L.R k)):yh a:=by
 refine⟨fun k b => ?_,fun q i => ?_⟩
 ·rw[j]at b; rw[l,c,d,e,f,m k b]; exact h.us k b
 rw[e]at i; rw[c,d,f]; exact h.gb q i
theorem Ur{q:Nat}{r:Nat->Int}{R:Nat->Nat->Int}(hr:ni r=ni (R q))(k:Nat):ni (aH R q r k)=ni (R k):=by
 unfold aH; split
 ·rename_i e; rw[e]; exact hr
 rfl
theorem oI.path{t t':Nat->Nat->Int}{tn:Nat}{id par z y:Int}(h:oI t t' tn id par)(A:1<=id)(r : ∀ i,i<tn->t i 1=0\/0<=bE t tn (t i 1))(p : ∃ D,D<=4/\bE t tn (bf t tn D z)<0)(C:0<=bE t tn z) :
 AV t' (tn+1) z y=AV t tn z y/\(y=id->AV t tn z y=0):=by
 obtain⟨D,w,g⟩:=p;obtain⟨K,x,c,a⟩:=vL D g;have f:K=bV t tn z:=vH a c g (by omega);have d : ∀ i,i<=K->bf t' (tn+1) i z=bf t tn i z:=fun i b=>h.iter i fun j B=>a j (by omega);have k:bE t' (tn+1) (bf t' (tn+1) K z)<0:=by
  rw[d K (z_ _)]
  rcases ZX (bE t' (tn+1) (bf t tn K z))with h1|h1
  ·exact h1
  ·exfalso
   rcases h.find.1 h1 with h2|h2
   ·omega
   ·cases K with
    | zero=>have:bE t tn z<0:=c; omega
    | succ K =>
      obtain⟨i,b,e⟩:=iC.1 (a K (by omega));have l:bf t tn (K+1) z=t i 1:=by
       show t (bE t tn (bf t tn K z)).toNat 1=t i 1;rw[<- e,vK h.u b]; rfl
      rw[l]at h2 c
      rcases r i b with h4|h4
      ·omega
      ·omega
 have m:K=bV t' (tn+1) z:=vH (fun i b=>by rw[d i (by omega)]; exact h.find.2 (.inl (a i b))) k k (by omega);have o : ∀ n,n<=K->Fb t' (tn+1) z y n=Fb t tn z y n:=by
  intro n
  induction n with
  | zero=>intro _; rfl
  | succ n ih=>intro q; unfold Fb; rw[ih (by omega),d n (by omega)]
 refine⟨?_,fun s => ?_⟩
 ·unfold AV; rw[<- f,<- m]; exact o K (z_ _)
 subst s;have : ∀ n,n<=K->Fb t tn z y n=0:=by
  intro n
  induction n with
  | zero=>intro _; rfl
  | succ n ih =>
    intro q; unfold Fb;rw[ih (by omega),b_]
    ·rfl
    ·intro e;have:=a n (by omega);rw[e]at this;have v:=vJ.2 h.no;omega
 unfold AV; rw[<- f]; exact this K (z_ _)
attribute [local irreducible] bV in
theorem MV(a:Inv0 L T)(h:yh L)(l:bR v=true)(s:v.kind=1)(r:jV L v=0):yh (qp L v):=by
 obtain⟨k,u,A,E,D,B,C,p,F,G,n⟩:=wN a l s r;have z:=lH l;rw[p];generalize iU v.o v.seq=x at *;have w : ∀ i,i<L.tn->L.t i 1=0\/0<=bE L.t L.tn (L.t i 1):=fun i c=>by
  have d:=c;rw[a.BQ]at d;rw[(a.tid i d).2]
  rcases a.up i d with e|⟨j,hj,e⟩
  ·exact .inl e
  ·exact .inr (iC.2 ⟨j,by rw[a.BQ]; exact hj,by rw[(a.tid j hj).1]; exact e⟩)
 have m : ∀ q,q<L.gn -> ∀ y,AV (oF L.t k x v.node) (L.tn+1) (L.g q 2) y=AV L.t L.tn (L.g q 2) y/\(y=x->AV L.t L.tn (L.g q 2) y=0):=fun q b y=>n.path A w (a.dep _) (h.gb q b).1;refine⟨fun i c => ?_,fun q b => ?_⟩
 ·show ni (cO L.R k (upd (fun _=>0) (aL v) v.aT) i)=mF (oF L.t k x v.node) (L.tn+1) L.g (cO L.id k x i) L.gn;rw[yP (t:=L.t) (tn:=L.tn) (g:=L.g) (y:=cO L.id k x i) L.gn fun q b=>by unfold nT; rw[(m q b _).1]]
  rcases dW u c with rfl|⟨j,hj,e,_,_⟩
  ·rw[dI,dI,KI z,G5 L.gn fun q b=>by unfold nT; rw[(m q b _).2 rfl,Int.mul_zero]; exact ite_self _];rfl
  rw[e,e]; exact h.us j hj
 have f:=h.gb q b;exact⟨n.find.2 (.inl f.1),f.2⟩
theorem G6(g:Inv0 L T)(h:yh L)(c:bR v=true)(a:dU L v=0):yh (iG L v):=by
 have m:=iW c;have l:=lH c;unfold dU at a;unfold iG;by_cases b:v.kind=1
 ·rw[d_ b]at a ⊢; exact MV g h c b a
 by_cases d:v.kind=2
 ·rw[b_ b,d_ d]at a ⊢;exact I9 h rfl rfl rfl rfl rfl rfl fun k _=>Ur (KI l) k
 by_cases e:v.kind=3
 ·rw[b_ b,b_ d,d_ e]at a ⊢; exact MS g h c e a
 by_cases f:v.kind=4
 ·rw[b_ b,b_ d,b_ e,d_ f]at a ⊢; exact MU g h c f a
 by_cases i:v.kind=5
 ·rw[b_ b,b_ d,b_ e,b_ f,d_ i]at a ⊢;unfold oH at a;split at a; · cases a
  split at a; · cases a
  obtain⟨_,_,_,_,_,_,_,_,_,_,j,_⟩:=AP a;exact I9 h rfl rfl rfl rfl rfl rfl fun k _=>Ur j.u k
 rw[b_ b,b_ d,b_ e,b_ f,b_ i];split
 ·exact I9 h rfl rfl rfl rfl rfl rfl fun _ _=>rfl
 exact I9 h rfl rfl rfl rfl rfl rfl fun _ _=>rfl
theorem Ut{t:Nat->Nat->Int}{tn D:Nat}{x:Int}(h:bE t tn (bf t tn D x)<0):bV t tn x<=D:=by
 rcases Nat.lt_or_ge D (bV t tn x)with h1|h1
 ·have:=AX h1; omega
 exact h1
theorem Inv0.agO(h:Inv0 L T)(x:Int):bV L.t L.tn x<=4:=by
 obtain⟨D,b,a⟩:=h.dep x;have:=Ut a; omega
theorem AY{x:Nat->Int}{p:Nat}{n c:Int}(h : ∀ a,a<54->x a<=c)(d:n<=c) : ∀ a,a<54->upd x p n a<=c:=fun a b=>by
 show(if a=p then n else x a)<=c;split
 ·exact d
 ·exact h a b
theorem Fe{f:(Nat->Int)->(Nat->Int) × Int}{idx:Nat->Nat}{R:Nat->Nat->Int}{n:Nat}{B d:Int}(o:0<=d)(m : ∀ x c,(f x).2=0->(∀ a,a<54->x a<=c) -> ∀ a,a<54->(f x).1 a<=c+d)(j : ∀ k,k<n -> ∀ a,a<54->R k a<=B) : ∀(K:Nat) k,k<n -> ∀ a,a<54->(dz f idx R K).1 k a<=B+d*(K:Int)
 | 0,k,hk,a,ha=>by have h:=j k hk a ha; show R k a<=B+d*0; omega
 | K+1,k,hk,a,ha=>by
   have b:=Fe o m j (idx:=idx) K;have e:d*((K+1:Nat):Int)=d*(K:Int)+d:=(by rw[Int.natCast_succ,Int.mul_add,Int.mul_one]);rw[e];unfold dz;by_cases l:(dz f idx R K).2=0
   ·rw[d_ l];by_cases g:(f ((dz f idx R K).1 (idx K))).2=0
    ·rw[d_ g];show(if k=idx K then _ else _:Nat->Int) a<=_;by_cases i:k=idx K
     ·rw[d_ i];have:=m _ (B+d*(K:Int)) g (by rw[<- i]; exact b k hk) a ha; omega
     ·rw[b_ i]; have:=b k hk a ha; omega
    ·rw[b_ g]; have:=b k hk a ha; show(dz f idx R K).1 k a<=_; omega
   ·rw[b_ l]; have:=b k hk a ha; omega
theorem Uu{i n c:Int}{x:Nat->Int}(g:n<=65536)(h:(bC x i n).2=0)(hx : ∀ a,a<54->x a<=c) : ∀ a,a<54->(bC x i n).1 a<=c+65536:=by
 obtain⟨a,f,_,_,_,_,_,_,_,_,_,e⟩:=I4 h;rw[e];have:=hx (6+a) (by omega);exact AY (fun b d=>by have:=hx b d; omega) (by omega)
theorem Uv{i n c:Int}{x:Nat->Int}(h:(bF x i n).2=0)(hx : ∀ a,a<54->x a<=c) : ∀ a,a<54->(bF x i n).1 a<=c+0:=by
 obtain⟨a,g,_,_,_,b,_,_,_,_,e⟩:=I5 h;rw[e,C_];have d:=hx (6+a) (by omega);have f:n<=x (6+a)-x (12+a):=b;exact AY hx (by omega)
theorem Ow(h:Qk L T){a:Nat}{r:Int}(hr:r<=256) : ∀ i,i<6 -> ∀ j,j<aH L.rn a (L.rn a+1) i->aH L.rq a (aH (L.rq a) (L.rn a) r) i j<=256:=fun i d j b=>by
 unfold aH at b ⊢;by_cases e:i=a
 ·subst e;rw[d_ rfl]at b ⊢;by_cases c:j=L.rn i
  ·rw[d_ c]; exact hr
  ·rw[b_ c]; exact h.rq i d j (by omega)
 ·rw[b_ e]at b ⊢; exact h.rq i d j b
attribute [local irreducible] bV in
theorem Ql(A:Inv0 L T)(h:Qk L T)(E:mG v)(D:bR v=true)(d:dU L v=0) :
 (∀ k,k<(iG L v).nn -> ∀ a,a<54->(iG L v).R k a<=2097152*((T+1:Nat):Int))/\(∀ i,i<6 -> ∀ j,j<(iG L v).rn i->(iG L v).rq i j<=256):=by
 have m:=iW D;have ab:=lH D;have V:(0:Int)<=(T:Int):=Int.natCast_nonneg _;have X:((T+1:Nat):Int)=(T:Int)+1:=Int.natCast_succ _;have u : ∀ k,k<L.nn -> ∀ a,a<54->L.R k a<=2097152*((T+1:Nat):Int):=fun k m a l=>by have:=h.rb k m a l; omega
 have G : ∀ q r,(∀ a,a<54->r a<=2097152*((T+1:Nat):Int)) -> ∀ k,k<L.nn -> ∀ a,a<54->aH L.R q r k a<=2097152*((T+1:Nat):Int):=fun q r O k m a l=>by
  unfold aH; split
  ·exact O a l
  ·exact u k m a l
 have P:=E.aT;unfold dU at d;unfold iG;by_cases s:v.kind=1
 ·rw[d_ s]at d ⊢;obtain⟨k,N,ae,Z,Y,Q,S,I,aa,ac,ad⟩:=wN A D s d;rw[I];refine⟨fun i M a l => ?_,h.rq⟩;show cO L.R k (upd (fun _=>0) (aL v) v.aT) i a<=_
  rcases dW N M with rfl|⟨j,hj,e,_,_⟩
  ·rw[dI];exact AY (c:=2097152*((T+1:Nat):Int)) (fun b _=>by omega) (by omega) a l
  rw[e]; exact u j hj a l
 by_cases z:v.kind=2
 ·rw[b_ s,d_ z]at d ⊢;unfold wM at d;split at d; · cases d
  rename_i n1;split at d; · cases d
  have w:=A.Ov n1;have J:=h.rb _ w (aL v) (by omega);exact⟨G _ _ (AY (fun b B=>u _ w b B) (by omega)),h.rq⟩
 by_cases C:v.kind=3
 ·rw[b_ s,b_ z,d_ C]at d ⊢;have y : ∀ k,k<L.nn -> ∀ a,a<54->(mU L v).1 k a<=2097152*((T+1:Nat):Int):=fun k m a l=>by
   have U:=A.agO v.node;have:=Fe (f:=fun x=>bC x v.o v.aT) (idx:=oh L v.node) (by decide) (fun x c=>Uu P) h.rb (bV L.t L.tn v.node) k m a l;unfold mU; omega
  unfold lS qx;generalize mU L v=W at y;exact⟨y,Ow h E.req⟩
 by_cases F:v.kind=4
 ·rw[b_ s,b_ z,b_ C,d_ F]at d ⊢;have y : ∀ k,k<L.nn -> ∀ a,a<54->(lU L v).1 k a<=2097152*((T+1:Nat):Int):=fun k m a l=>by
   have:=Fe (f:=fun x=>bF x v.o (L.g (zI L v) 3)) (idx:=oh L (L.g (zI L v) 2)) (M_ 0) (fun x c=>Uv) h.rb (bV L.t L.tn (L.g (zI L v) 2)) k m a l;unfold lU; omega
  unfold jW qx;generalize lU L v=W at y;exact⟨y,Ow h E.req⟩
 by_cases H:v.kind=5
 ·rw[b_ s,b_ z,b_ C,b_ F,d_ H]at d ⊢;unfold oH at d;split at d; · cases d
  rename_i n1;split at d; · cases d
  have w:=A.Ov n1;obtain⟨a,b,l,B,_,_,_,_,_,_,_,e⟩:=AP d;have J:=h.rb _ w (18+a*6+b) (by omega);have K:=G (L.node v.node).toNat _ (AY (x:=L.R (L.node v.node).toNat) (p:=18+a*6+b) (n:=L.R (L.node v.node).toNat (18+a*6+b)+v.aT) (fun b B=>u _ w b B) (by omega));refine⟨?_,h.rq⟩;show ∀ k,k<L.nn -> ∀ c,c<54->aH L.R (L.node v.node).toNat (yg L v).1 k c<=_;unfold yg;rw[e]; exact K
 rw[b_ s,b_ z,b_ C,b_ F,b_ H];split
 ·exact⟨u,h.rq⟩
 exact⟨u,h.rq⟩
theorem Qk.mono{T':Nat}(h:Qk L T)(e:T<=T'):Qk L T' where
 kt:=fun i c=>by have:=h.kt i c; omega
 rb:=fun k d a b=>by have:=h.rb k d a b; omega
 rq:=h.rq
theorem G7(j:mG v)(h:Inv L T):Inv (bU L v) (T+1):=by
 refine⟨Ac h.toInv0,?_,?_⟩ <;> unfold bU <;> by_cases a:bS L v=0
 ·rw[d_ a];unfold bS at a;split at a; · cases a
  rename_i d;split at a; · cases a
  split at a; · cases a
  split at a; · cases a
  have e:bR v=true:=by simpa using d
  have c:=G6 h.toInv0 h.s e a;exact⟨c.us,c.gb⟩
 ·rw[b_ a]; exact h.s
 ·rw[d_ a];unfold bS at a;split at a; · cases a
  rename_i d;split at a; · cases a
  split at a; · cases a
  split at a; · cases a
  have e:bR v=true:=by simpa using d
  have c:=Ql h.toInv0 h.b j e a;refine⟨fun i g => ?_,c.1,c.2⟩;have f:(GX (iG L v) v).known=aH L.known (aL v) (L.known (aL v)+1):=by unfold GX; simp only[pK]
  rw[f];have d:=h.b.kt i g;have k:=h.b.kt (aL v) (lH e);unfold aH;split <;> omega
 rw[b_ a]; exact h.b.mono (Nat.le_succ T)
theorem Inv.mono{T':Nat}(h:Inv L T)(a:T<=T'):Inv L T':=⟨h.toInv0.mono a,h.s,h.b.mono a⟩
end
end Rt
end
section
namespace Rt
def Q0(e:Nat->EvM):Nat->Value:=flat 14 fun k=>bQ (e k)
noncomputable def ou(e:Nat->EvM)(K:Nat->Int)(L:fQ):Nat->fQ
 | 0=>L
 | j+1=>if(e j).seq<=K (aL (e j))then bU (ou e K L j) (e j)else ou e K L j
def KJ(L M:fQ):Prop := ∀ i,i<6->L.known i=M.known i
open Classical in
noncomputable def iR(e:Nat->EvM)(n:Nat)(K:Nat->Int):Nat->fQ->fQ
 | 0,L=>L
 | f+1,L=>if KJ (ou e K L n) L then ou e K L n else iR e n K f (ou e K L n)
noncomputable def Fg(e:Nat->EvM)(n:Nat)(K:Nat->Int)(L:fQ):fQ:=iR e n K (n+1) L
section
variable {e:Nat->EvM} {K:Nat->Int} {L M M':fQ} {j n r:Nat}
theorem Uw(h:M=ou e K L j)(b:(e j).seq<=K (aL (e j)))(a:M'=bU M (e j)):M'=ou e K L (j+1):=by unfold ou; rw[d_ b,<- h,a]
theorem X7(h:M=ou e K L j)(a : ¬ (e j).seq<=K (aL (e j))):M=ou e K L (j+1):=by unfold ou; rw[b_ a,<- h]
theorem Qm(hr:r<=n)(h:M=ou e K L n)(a:KJ M L):iR e n K (n+1-r) L=M:=by
 rw[show n+1-r=(n-r)+1 by omega]; unfold iR; rw[<- h,d_ a]
theorem Ux(hr:r<=n)(h:M=ou e K L n)(a : ¬ KJ M L):iR e n K (n+1-(r+1)) M=iR e n K (n+1-r) L:=by
 rw[show n+1-r=(n-r)+1 by omega,show n+1-(r+1)=n-r by omega]
 conv=>rhs; unfold iR
 rw[<- h,b_ a]
theorem G8{m a:lD}:KJ m.core a.core <-> ∀ i,i<6->(rv .u64 m.s.known) i=(rv .u64 a.s.known) i:=by
 unfold KJ rv;simp only[Value.int.injEq,true_and]; exact Iff.rfl
end
theorem Ez.kd{K:Nat->Int}(h:Ez K):Fx.Kd (List.replicate 6 (some .u64)) (rv .u64 K):=Fx.Ro fun i a=>Fx.uN (by have:=h i a; omega)
end Rt
attribute [irreducible] Rt.iR
set_option maxRecDepth 20000 in
theorem X8(m:lD)(B p T:Nat)(O:Option Addr)(an E:Nat)(ev:Nat->EvM)(K:Nat->Int)(w:World)(hL:vP w B p m)(hI:Inv m.core T)(hA:ny w O an 14 (Q0 ev))(hwf : ∀ k,k<an->fT (ev k))(hmay : ∀ k,k<an->bR (ev k)=true)(hsm : ∀ k,k<an->mG (ev k))(han:an<=60)(hT:T<=890000) :
 Calls Tryz.prog 37 #[(pt p),.slice O (an) (E),.agg (aA 6 (rv .u64 K))] w fun e w' => ∃ p' m',e = .returned (pt p')/\m'.core=Fg ev an K m.core/\Inv m'.core (T+3660)/\vP w' B p' m'/\Below w.heap.size w w':=by
 refine Kent Tryz.func37 59 ?_;refine ay<|rF fun H w1 ng g s1 z1 => ?_;have⟨l,b1⟩:=fF s1.old hL (Below.refl w.heap.size w);have sw:=iB ng;have wu:=g.lt;refine av (.pointer none)<|aC<|Ws<|ay<|av (au 0)<|aC<|Wb<|Wo (fun f z => ∃ r:Nat,∃ x:Nat,∃ g:lD,∃ N:Nat,r<=an+1/\iR ev an K (an+1-r) g.core=Fg ev an K m.core/\Inv g.core N/\N<=T+r*60/\f 0=(pt x)/\f 1 = .slice O (an) (E)/\f 5=(pt H)/\f 7=au (r:Int)/\aQ z H 6 (rv .u64 K) 30/\vP z B x g/\Below w.heap.size w z) (fun f _=>(an+1-(intOf (f 7)).toNat)) ⟨0,p,m,T,by omega,rfl,hI,by omega,(by rfl),(by rfl),(by rfl),Fx.ic,g,l,b1⟩ ?_;rintro f1 w2 ⟨r,x,g,N,hr,hc1,S,hT1,h1,h2,h3,h4,m3,m4,b2⟩;refine Ws<|ay<|aR h4<|aR h2<|av (au an) ?_;by_cases c13:(r:Int)<=(an:Int)
 ·refine Lv aG (mZ c13)<|aC<|aO<|Wk<|sN<|Ws<|Wb<|Ws ?_;have agP:=m4.c;refine Wl<|aR h1<|av (pt x)<|av (pt x)<|av (pf x 12)<|Lv (.agg (aA 6 (rv .u64 g.s.known))) (gD agP.aI 12 (fun j V=>kM _ (by omega) (lu _ V (by omega))))<|xD 6 (rv .u64 (fun _=>0)) fun g2 w3 xW m5 s2 z2 => ?_;have⟨m6,m7,b3⟩:=kI s2.old m3 m4 b2;have sP:=jE xW b2.size;have⟨agk,agQ⟩:=vY xW m3.lt agP.lt;have Bl:=m5.lt;refine fI m5 0 fun w4 m9 s3 z3 => ?_;have m10:aQ w4 g2 6 (rv .u64 g.s.known) 30:=aW m9;have m11:=m6.dh s3 (by omega);have gM:=iw s3 m5.ty;have m12:=lN gM m7;have b4:=s3.below b3 b3.size (by omega);refine aC<|Ws<|ay<|av (au 0)<|aC<|Wb<|Wo (fun f z => ∃ j:Nat,∃ u:Nat,∃ l:lD,∃ A:Nat,j<=an/\l.core=ou ev K g.core j/\Inv l.core A/\A<=T+r*60+j/\f 0=(pt u)/\f 1 = .slice O (an) (E)/\f 5=(pt H)/\f 7=au (r:Int)/\f 8=(pt g2)/\f 9=au (j:Int)/\aQ z H 6 (rv .u64 K) 30/\aQ z g2 6 (rv .u64 g.s.known) 30/\vP z B u l/\Below w.heap.size w z) (fun f _=>(an-(intOf (f 9)).toNat)) ⟨0,x,g,N,by omega,rfl,S,by omega,h1,h2,h3,(h4.trans Fx.ic),(by rfl),Fx.ic,m11,m10,m12,b4⟩ ?_;rintro f2 t ⟨j,u,l,A,V,U,D,hT2,I,C,R,h8,h9,y,W,m15,J,G⟩;refine Ws<|ay<|aR y<|aR C<|av (au an) ?_;by_cases c24:(j:Int)<(an:Int)
  ·refine Lv aG (gU c24)<|aC<|aO<|Wk<|sN<|Ws<|Wb<|Ws ?_;obtain⟨a,ha,ho⟩:=fB (iJ (hmay j (by omega)));have eN:aL (ev j)=a:=(by unfold aL; omega);refine zQ<|eG C<|eG y ?_;obtain⟨F,L,eq1,Z⟩:=(hA.up G rfl) (by omega);have anW:F<t.heap.size:=Z.lt (by omega);refine Qv (pf F (14*j+L)) (fun b d=>cZ 14 (hx:=(rfl.trans (K_ (fun q=>Value.slice q (an) (E)) eq1))))<|aU (pf F (14*j+L+1))<|Qv (aD ((ev j).seq)) (fun b d=>aM (Z.dr d) (14*j+1) (Fx.dF (k:=j) (j:=1) (by omega) (by omega) rfl))<|eG C<|eG y<|Qv (pf F (14*j+L)) (fun b d=>cZ 14 (hx:=(rfl.trans (K_ (fun q=>Value.slice q (an) (E)) eq1))))<|aU (pf F (14*j+L))<|Qv (au ((ev j).o)) (fun b d=>aM (Z.dr d) (14*j) (Fx.dF (k:=j) (j:=0) (by omega) (by omega) rfl))<|Qv (au a) (fun b d=>gF)<|Qv (pf H a) (fun b d=>jC 6 1 (hx:=R))<|Qv (aD (K a)) (fun b d=>aM (W.aI.dr d) a) ?_;by_cases P:((ev j).seq)<=(K a)
   ·refine Qv aG (fun b d=>mZ P)<|Qn ?_;rintro _ ⟨v,rfl⟩;obtain⟨DJ,rW⟩ : ∃ b,b=World.drewN t v:=⟨_,rfl⟩;rw[<- rW];have s4:Stp t.heap.size t DJ:=(by rw[rW]; exact Sb (jM t v));have⟨m18,m19,m20,m21,b6⟩:=sH s4.old W m15 J Z G;clear rW;refine sN<|aO<|Wl<|aR I<|aR C<|aR y<|Lv (pf F (14*j+L)) (cZ 14 (hx:=(rfl.trans (K_ (fun q=>Value.slice q (an) (E)) eq1))))<|Lv (.agg (aA 14 (bQ (ev j)))) (gD m21 (14*j) (fun jq hjq=>Fx.kY (k:=j) (by omega) hjq))<|lV (Oq l B u A (ev j) _ m20 (hwf j (by omega)) D.w (by omega)) ?_;rintro e9 w6 ⟨M,m3,he,hc3,hL1,hb1⟩;refine⟨.tuple #[(pt M),au (bS l.core (ev j))],he,?_⟩;clear he;have⟨m22,m23,b7⟩:=kI hb1 m18 m19 b6;refine av (.tuple #[(pt M),au (bS l.core (ev j))])<|av (pt M)<|av (au (bS l.core (ev j)))<|av (pt M)<|Ln<|bM<|sN<|Wl<|aR y<|Lv (au ((j:Int)+1)) dZ<|av (au ((j:Int)+1))<|Ln<|fZ ⟨j+1,M,m3,A+1,by omega,(Uw U (by rw[eN]; exact P) hc3),(by rw[hc3]; exact G7 (hsm j (by omega)) D),by omega,(by rfl),C,R,(h8.trans Fx.ic),h9,Fx.ic,m22,m23,hL1,b7⟩ ?_;show(an-(intOf (au ((j:Int)+1))).toNat)<_;simp only[y,intOf]; omega
   refine Qv aF (fun b d=>nG P)<|Qn ?_;rintro _ ⟨v,rfl⟩;obtain⟨wq2,wK⟩ : ∃ b,b=World.drewN t v:=⟨_,rfl⟩;rw[<- wK];have s6:Stp t.heap.size t wq2:=(by rw[wK]; exact Sb (jM t v));have⟨nA,oo,pE,b8⟩:=qj s6.old W m15 J G;clear wK;refine sN<|aK<|Wk<|bM<|sN<|Wl<|aR y<|Lv (au ((j:Int)+1)) dZ<|av (au ((j:Int)+1))<|Ln<|fZ ⟨j+1,u,l,A,by omega,(X7 U (by rw[eN]; exact P)),D,by omega,I,C,R,(h8.trans Fx.ic),h9,Fx.ic,nA,oo,pE,b8⟩ ?_;show(an-(intOf (au ((j:Int)+1))).toNat)<_;simp only[y,intOf]; omega
  refine Lv aF (gV c24)<|aC<|aK<|Wx<|cB<|gG<|cK<|sN<|Ws ?_;have anX:=J.c;refine zQ<|eG I<|aU (pt u)<|aU (pt u)<|aU (pf u 12)<|Qv (.agg (aA 6 (rv .u64 l.s.known))) (fun b d=>gD (anX.aI.dr d) 12 (fun j V=>kM _ (by omega) (lu _ V (by omega))))<|Qv (.agg (aA 6 (rv .u64 g.s.known))) (fun b d=>gD (m15.aI.dr d) 0 (ha:=h9)) ?_;by_cases Q : ∀ i,i<6->(rv .u64 l.s.known) i=(rv .u64 g.s.known) i
  ·refine Qv aG (fun b d=>Fx.xL (n:=6) (ks:=List.replicate 6 (some .u64)) (X:=rv .u64 l.s.known) (Y:=rv .u64 g.s.known) 12 true rfl rfl rfl (Fx.WU Q) (Ez.kd D.kn) (Ez.kd S.kn) rfl (by kernel_rfl) (by kernel_rfl) (by kernel_rfl) (by kernel_rfl) (by kernel_rfl))<|Qn ?_;rintro _ ⟨v,rfl⟩;obtain⟨Qa,EY⟩ : ∃ b,b=World.drewN t v:=⟨_,rfl⟩;rw[<- EY];have s7:Stp t.heap.size t Qa:=(by rw[EY]; exact Sb (jM t v));have⟨mJ,b9⟩:=fF s7.old J G;clear EY;refine sN<|aO<|ay<|aR I<|av (pt u)<|aC<|Wr<|bL<|sR<|qc<|bL<|sR<|aJ (pt u) ?_;exact⟨u,l,rfl,((Qm (n:=an) (r:=r) (by omega) (by rw[show an=j by omega]; exact U) (G8.2 Q)).symm.trans hc1),D.mono (by omega),mJ,b9⟩
  refine Qv aF (fun b d=>Fx.xL (n:=6) (ks:=List.replicate 6 (some .u64)) (X:=rv .u64 l.s.known) (Y:=rv .u64 g.s.known) 12 false rfl rfl rfl (Fx.nob Q) (Ez.kd D.kn) (Ez.kd S.kn) rfl (by kernel_rfl) (by kernel_rfl) (by kernel_rfl) (by kernel_rfl) (by kernel_rfl))<|Qn ?_;rintro _ ⟨v,rfl⟩;obtain⟨wq4,EZ⟩ : ∃ b,b=World.drewN t v:=⟨_,rfl⟩;rw[<- EZ];have s8:Stp t.heap.size t wq4:=by rw[EZ]; exact Sb (jM t v)
  have⟨qO,pW,b10⟩:=kI s8.old W J G;clear EZ;refine sN<|aK<|Wk<|bM<|sN<|Wl<|aR h8<|Lv (au ((r:Int)+1)) dZ<|av (au ((r:Int)+1))<|Ln<|fZ ⟨r+1,u,l,A,by omega,(Ux (by omega) (by rw[show an=j by omega]; exact U) (fun h=>Q (G8.1 h))).trans hc1,D,by omega,I,C,R,Fx.ic,qO,pW,b10⟩ ?_;show(an+1-(intOf (au ((r:Int)+1))).toNat)<_;simp only[h4,intOf]; omega
 refine Lv aF (nG c13)<|aC<|aK<|Wx<|cB<|gG<|cK<|sN<|ay<|aR h1<|av (pt x)<|aC<|Wr<|aJ (pt x) ?_;exact⟨x,g,rfl,(by rw[<- hc1,show an+1-r=0 by omega]; unfold iR; rfl),S.mono (by omega),m4,b2⟩
end
section
namespace Rt
def zeroE:EvM:=⟨0,0,fun _=>0,0,0,0,0,0,0⟩
def fO(ev:Nat->EvM):Nat->Nat->Int
 | 0,_=>0
 | k+1,i=>fO ev k i+if aL (ev k)=i then 1 else 0
structure KL(ev:Nat->EvM)(an:Nat)(K:Nat->Int):Prop where
 le : ∀ i,i<6->K i<=fO ev an i
 cl : ∀ k,k<an->(ev k).seq<=K (aL (ev k)) -> ∀ i,i<6->(ev k).deps i<=K i
structure Cz(n an:Nat)(ev:Nat->EvM)(kn:Nat->Nat->Int):Prop where
 rd : ∀ k,k<an->dH (fO ev k) (ev k)=true
 reg : ∀ k,k<an->aL (ev k)<n
 own : ∀ o,o<n->kn o o=fO ev an o
 kc : ∀ o,o<n->KL ev an (kn o)
section
variable {ev:Nat->EvM} {an n j k i:Nat} {K:Nat->Int} {kn kn':Nat->Nat->Int} {v:EvM} {L:fQ}
theorem Uy : ∀ d k i,fO ev k i<=fO ev (k+d) i
 | 0,_,_=>M_ _
 | d+1,k,i=>by have:=Uy d k i; show _<=fO ev (k+d) i+_; split <;> omega
theorem cnt_mono(h:j<=k):fO ev j i<=fO ev k i:=by have:=Uy (ev:=ev) (k-j) j i; rwa [show j+(k-j)=k by omega]at this
theorem DZ(h:j<k):fO ev j (aL (ev j))+1<=fO ev k (aL (ev j)):=by
 have a:fO ev (j+1) (aL (ev j))<=fO ev k (aL (ev j)):=cnt_mono (by omega);have b:fO ev (j+1) (aL (ev j))=fO ev j (aL (ev j))+1:=by show _+(if _ then _ else _)=_; rw[d_ rfl]
 omega
theorem Fh : ∀ k i,0<=fO ev k i
 | 0,_=>M_ _
 | k+1,i=>by have:=Fh k i; unfold fO; split <;> omega
theorem Fj(h:dH K v=true):bR v=true/\v.seq=K (aL v)+1 /\ ∀ i,i<6->v.deps i<=K i:=by
 unfold dH at h;simp only[R_,decide_eq_true_eq]at h;refine⟨h.1.1,h.1.2,fun i a => ?_⟩;have:=h.2;unfold xY at this;rw[List.all_eq_true]at this;exact h_ (this i (N_.2 a))
theorem Ja(h1:bR v=true)(a:v.seq=K (aL v)+1)(b : ∀ i,i<6->v.deps i<=K i):dH K v=true:=by
 unfold dH;simp only[R_,decide_eq_true_eq];refine⟨⟨h1,a⟩,?_⟩;unfold xY;rw[List.all_eq_true];intro i c;exact f_ (b i (N_.1 c))
theorem Cz.seq(h:Cz n an ev kn)(a:k<an):(ev k).seq=fO ev k (aL (ev k))+1:=(Fj (h.rd k a)).2.1
theorem Cz.MW(h:Cz n an ev kn)(a:k<an):(ev k).seq<=fO ev an (aL (ev k)):=by rw[h.seq a]; exact DZ a
theorem Cz.uniq(h:Cz n an ev kn)(c:j<an)(d:k<an)(b:aL (ev j)=aL (ev k))(a:(ev j).seq=(ev k).seq):j=k:=by
 rw[h.seq c,h.seq d]at a
 rcases Nat.lt_trichotomy j k with h1|h1|h1
 ·have:=DZ (ev:=ev) h1; rw[b]at this a; omega
 ·exact h1
 have:=DZ (ev:=ev) h1; rw[<- b]at this a; omega
theorem Cz.step(h:Cz n an ev kn)(c:KL ev an K)(d:j<an)(hr:dH K (ev j)=true):KL ev an (aH K (aL (ev j)) (K (aL (ev j))+1)):=by
 obtain⟨_,l,m⟩:=Fj hr;have g : ∀ i,K i<=aH K (aL (ev j)) (K (aL (ev j))+1) i:=fun i=>by unfold aH; split <;> (try subst_vars) <;> omega
 refine⟨fun i a => ?_,fun k f b i a => ?_⟩
 ·unfold aH; split
  ·rename_i e; rw[e,<- l]; exact h.MW d
  exact c.le i a
 by_cases e:(ev k).seq<=K (aL (ev k))
 ·exact Q_ (c.cl k f e i a) (g i)
 unfold aH at b;split at b
 ·rename_i e2;rw[e2]at e;have:k=j:=h.uniq f d e2 (by omega);subst this;exact Q_ (m i a) (g i)
 exact L_ b e
theorem jG(h:bS L v=0):dH L.known v=true:=by
 unfold bS at h;split at h; · cases h
 split at h; · cases h
 split at h; · cases h
 rename_i h3
 cases e:dH L.known v with
 | true=>rfl
 | false=>exact L_ e h3
theorem qV(L:fQ)(v:EvM):(bS L v=0/\(bU L v).known=aH L.known (aL v) (L.known (aL v)+1))\/(bS L v≠0/\bU L v=L):=by
 by_cases h:bS L v=0
 ·refine .inl ⟨h,?_⟩;unfold bU; rw[d_ h];show aH (iG L v).known _ _=_;rw[pK]
 refine .inr ⟨h,?_⟩;unfold bU; rw[b_ h]
def KnO(ev:Nat->EvM)(an o:Nat)(K:Nat->Int):Prop:=KL ev an K/\K o=fO ev an o
theorem Cz.apply(h:Cz n an ev kn){o:Nat}(a:KnO ev an o L.known)(c:j<an):KnO ev an o (bU L (ev j)).known:=by
 rcases qV L (ev j)with ⟨f,b⟩|⟨_,b⟩
 ·have d:=jG f;rw[b];refine⟨h.step a.1 c d,?_⟩;unfold aH;split
  ·rename_i e;have:=(Fj d).2.1;have g:=h.MW c;rw[<- e]at this g;have:=a.2;omega
  exact a.2
 rw[b]; exact a
theorem Cz.pass(h:Cz n an ev kn){o:Nat}{b:Nat->Int}(a:KnO ev an o L.known) : ∀ j,j<=an->KnO ev an o (ou ev b L j).known
 | 0,_=>a
 | j+1,hj=>by
   unfold ou;split
   ·exact h.apply (h.pass a j (by omega)) (by omega)
   ·exact h.pass a j (by omega)
theorem Cz.iR(h:Cz n an ev kn){o:Nat}{a:Nat->Int} : ∀ f L,KnO ev an o L.known->KnO ev an o (iR ev an a f L).known
 | 0,L,hL=>by unfold Rt.iR; exact hL
 | f+1,L,hL=>by
   unfold Rt.iR;split
   ·exact h.pass hL an (z_ _)
   ·exact h.iR f _ (h.pass hL an (z_ _))
theorem Cz.learn(h:Cz n an ev kn){o:Nat}(g:o<n){b:Nat->Int}(i:L.known=kn o)(c : ∀ q,q≠o->kn' q=kn q)(d:kn' o=(Fg ev an b L).known):Cz n an ev kn':=by
 have f:KnO ev an o (Fg ev an b L).known:=h.iR (an+1) L (by rw[i]; exact⟨h.kc o g,h.own o g⟩);refine⟨h.rd,h.reg,fun q a => ?_,fun q a => ?_⟩
 ·by_cases e:q=o
  ·subst e; rw[d]; exact f.2
  rw[c q e]; exact h.own q a
 by_cases e:q=o
 ·subst e; rw[d]; exact f.1
 rw[c q e]; exact h.kc q a
theorem AZ : ∀ k,k<=an -> ∀ i,fO (aH ev an v) k i=fO ev k i
 | 0,_,_=>rfl
 | k+1,hk,i=>by
   have e:aH ev an v k=ev k:=(by unfold aH; rw[b_ (by omega)]);show fO (aH ev an v) k i+(if aL (aH ev an v k)=i then 1 else 0)=fO ev k i+if aL (ev k)=i then 1 else 0;rw[e,AZ k (by omega) i]
theorem Ox(i:Nat):fO (aH ev an v) (an+1) i=fO ev an i+if aL v=i then 1 else 0:=by
 show fO (aH ev an v) an i+(if aL (aH ev an v an)=i then 1 else 0)=_;rw[AZ an (z_ _)];unfold aH; rw[d_ rfl]
theorem Cz.event(h:Cz n an ev kn){o:Nat}(m:o<n)(hr:dH (kn o) v=true)(d:aL v=o)(y:v.deps=kn o)(g : ∀ q,q≠o->kn' q=kn q)(j:kn' o=aH (kn o) o (kn o o+1)):Cz n (an+1) (aH ev an v) kn':=by
 obtain⟨u,t,z⟩:=Fj hr;rw[d]at t;have s : ∀ k,k<an->aH ev an v k=ev k:=fun k l=>by unfold aH; rw[b_ (by omega)]
 have r:aH ev an v an=v:=by unfold aH; rw[d_ rfl]
 have p:=h.own o m;refine⟨fun k l => ?_,fun k l => ?_,fun q c => ?_,fun q c=>⟨fun i b => ?_,fun k l a i b => ?_⟩⟩
 ·have e:fO (aH ev an v) k=fO ev k:=funext fun i=>AZ k (by omega) i;rw[e];by_cases f:k=an
  ·subst f; rw[r];refine Ja u (by rw[d,t,p]) fun i b => ?_;exact Q_ (z i b) ((h.kc o m).le i b)
  rw[s k (by omega)]; exact h.rd k (by omega)
 ·by_cases f:k=an
  ·subst f; rw[r,d]; exact m
  rw[s k (by omega)]; exact h.reg k (by omega)
 ·rw[Ox,d];by_cases e:q=o
  ·subst e; rw[j,d_ rfl]; unfold aH; rw[d_ rfl,p]
  rw[g q e,b_ (fun x=>e x.symm),h.own q c,C_]
 ·rw[Ox,d];by_cases e:q=o
  ·subst e; rw[j]; unfold aH;split
   ·rename_i ei; subst ei; rw[d_ rfl,p]; exact M_ _
   have:=(h.kc q c).le i b; split <;> omega
  rw[g q e]; have:=(h.kc q c).le i b; split <;> omega
 by_cases f:k=an
 ·subst f;rw[r]at a ⊢;by_cases e:q=o
  ·subst e; rw[j,y]; unfold aH; split <;> (try subst_vars) <;> omega
  rw[g q e,d,t]at a;have:=(h.kc q c).le o;have w:o<6:=by have:=lH u; omega
  have:=this w;omega
 rw[s k (by omega)]at a ⊢;by_cases e:q=o
 ·subst e;rw[j]at a ⊢;have A : ∀ i,kn q i<=aH (kn q) q (kn q q+1) i:=fun i=>by unfold aH; split <;> (try subst_vars) <;> omega
  refine Q_ ((h.kc q c).cl k (by omega) ?_ i b) (A i);unfold aH at a;split at a
  ·rename_i e3; have:=h.MW (k:=k) (by omega); rw[e3]at this ⊢; omega
  exact a
 rw[g q e]at a ⊢; exact(h.kc q c).cl k (by omega) a i b
theorem Cz.zero(n:Nat)(h : ∀ o,o<n->kn o=fun _=>0):Cz n 0 ev kn:=⟨fun _ h=>L_ h (u_ _),fun _ h=>L_ h (u_ _),fun o a=>by rw[h o a]; rfl,fun o a=>⟨fun i _=>by rw[h o a]; exact M_ _,fun _ h=>L_ h (u_ _)⟩⟩
end
end Rt
end
end Go.Proofs.YtahbiajdgealnaaGreatDoor
namespace Go.Proofs.YtahbiajdgealnaaGreatDoor
open Go.RowKit
namespace Fx
section
variable {S S':Nat->Prop}
theorem jN.trans(w w' c:World)(h:jN S w w')(k:jN S w' c):jN S w c:=⟨k.os.trans h.os,k.tape.trans h.tape,k.output.trans h.output,m_ h.size k.size,fun i b a=>(k.block i (n_ b h.size) a).trans (h.block i b a)⟩
theorem jN.mono{w w':World}(h:jN S w w')(a : ∀ k,S k->S' k):jN S' w w':=⟨h.os,h.tape,h.output,h.size,fun i b c=>h.block i b fun d=>c (a i d)⟩
theorem jN.Bv{g:Nat}{w w':World}(h:Stp g w w'):jN (fun k=>k=g) w w':=(uO _ w).then h (.inl rfl)
end
end Fx
end Go.Proofs.YtahbiajdgealnaaGreatDoor
namespace Go.Proofs.YtahbiajdgealnaaGreatDoor
open Go.RowKit Rt
open Fx (eP eX fK bB gQ gP dD dO gH jo eT jr fV jv iY Lv sN Ln Ws Qv Wl Rp Wc Qs Wr Sb Lk Wk rC rV sR Rs Rn Rd Rk Wb Wx Wo Dy Wt qI Qn FW Bh yD yZ Db Dw qy iw za nu uP uO vX wV yY Dl Ar rv aA aQ bI aN ev cO Stp dJ aW flat dB Mp fu aX gX iK bD down iM jN iN ny bJ bH cells_one iP bW xE unseen jH iA bO dM bL bM cB cK gG fZ qc gT)
section
set_option linter.unusedVariables false
set_option maxRecDepth 20000
structure dQ where
 inn:Nat->Bool
 left:Nat->Bool
 known:Nat->Int
 own:Nat->Int
 T:dL
 R:Nat->Nat->Int
 gn:Nat
 g:Nat->Nat->Int
 an:Nat
 ao:Nat->Int
 ar:Nat->Int
 tp:Nat
 mb:Nat
 pb:Nat
 rb:Nat
 gb:Nat
 ab:Nat
def vM(m:dQ):Nat->Value:=fun p=>if p<6 then .bool (m.inn p)else if p<12 then .bool (m.left (p-6))else if p<18 then .int .u64 (m.known (p-12))else if p=18 then .pointer (some ⟨m.tp,0,none⟩)else if p=19 then .map (some m.pb)else if p=20 then .map (some m.rb)else if p<27 then .int .i64 (m.own (p-21))else if p=27 then .map (some m.gb)else .map (some m.ab)
section
variable {m:dQ} {p q:Nat}
theorem BS(h:p<6):vM m p = .bool (m.inn p):=by unfold vM; rw[d_ h]
theorem A8(h:p<6)(e:q=p+6):vM m q = .bool (m.left p):=by subst e; unfold vM; rw[b_ (by omega),d_ (by omega),Nat.add_sub_cancel]
theorem vN(h:p<6)(e:q=p+12):vM m q = .int .u64 (m.known p):=by subst e; unfold vM; rw[b_ (by omega),b_ (by omega),d_ (by omega),Nat.add_sub_cancel]
theorem Jb(h:p<6)(e:q=p+21):vM m q = .int .i64 (m.own p):=by subst e; unfold vM; rw[b_ (by omega),b_ (by omega),b_ (by omega),b_ (by omega),b_ (by omega),b_ (by omega),d_ (by omega),Nat.add_sub_cancel]
theorem Uz{i:Nat}(hi:i<6)(b:Bool):dB (vM m) i (.bool b)=vM { m with inn:=aH m.inn i b }:=by
 funext p
 unfold dB;by_cases e:p=i
 ·subst e; rw[d_ rfl,BS hi]; simp[aH]
 rw[b_ e]; unfold vM;by_cases h:p<6
 ·rw[d_ h,d_ h]; simp[aH,e]
 rw[b_ h,b_ h]
theorem UA{i:Nat}(hi:i<6)(e0:q=i+6)(b:Bool):dB (vM m) q (.bool b)=vM { m with left:=aH m.left i b }:=by
 subst e0
 funext p
 unfold dB;by_cases e:p=i+6
 ·subst e; rw[d_ rfl,A8 hi rfl]; simp[aH]
 rw[b_ e]; unfold vM;by_cases h:p<6
 ·rw[d_ h,d_ h]
 rw[b_ h,b_ h];by_cases a:p<12
 ·rw[d_ a,d_ a]; simp[aH,show ¬ p-6=i by omega]
 rw[b_ a,b_ a]
theorem Qo{i:Nat}(hi:i<6)(e0:q=i+12)(x:Int):dB (vM m) q (.int .u64 x)=vM { m with known:=aH m.known i x }:=by
 subst e0
 funext p
 unfold dB;by_cases e:p=i+12
 ·subst e; rw[d_ rfl,vN hi rfl]; simp[aH]
 rw[b_ e]; unfold vM;by_cases h:p<6
 ·rw[d_ h,d_ h]
 rw[b_ h,b_ h];by_cases a:p<12
 ·rw[d_ a,d_ a]
 rw[b_ a,b_ a];by_cases b:p<18
 ·rw[d_ b,d_ b]; simp[aH,show ¬ p-12=i by omega]
 rw[b_ b,b_ b]
theorem X9{i:Nat}(hi:i<6)(e0:q=i+21)(x:Int):dB (vM m) q (.int .i64 x)=vM { m with own:=aH m.own i x }:=by
 subst e0
 funext p
 unfold dB;by_cases e:p=i+21
 ·subst e; rw[d_ rfl,Jb hi rfl]; simp[aH]
 rw[b_ e]; unfold vM;by_cases h:p<6
 ·rw[d_ h,d_ h]
 rw[b_ h,b_ h];by_cases a:p<12
 ·rw[d_ a,d_ a]
 rw[b_ a,b_ a];by_cases b:p<18
 ·rw[d_ b,d_ b]
 rw[b_ b,b_ b];by_cases c:p=18
 ·rw[d_ c,d_ c]
 rw[b_ c,b_ c];by_cases d:p=19
 ·rw[d_ d,d_ d]
 rw[b_ d,b_ d];by_cases f:p=20
 ·rw[d_ f,d_ f]
 rw[b_ f,b_ f];by_cases g:p<27
 ·rw[d_ g,d_ g]; simp[aH,show ¬ p-21=i by omega]
 rw[b_ g,b_ g]
end
def wO(R:Nat->Nat->Int):Nat->Value:=fun i => .agg (aA 54 (rv .i64 (R i)))
def Dr(T:dL):Nat->Value:=fun j => .int .u64 (T.p j)
def uF(g:Nat->Nat->Int):Nat->Value:=fun i => .agg (aA 5 (iZ (g i)))
def Dt:Nat->Value:=fun _ => .bool true
structure QlN(m:dQ):Prop where
 mp:m.mb≠m.pb
 mr:m.mb≠m.rb
 mg:m.mb≠m.gb
 ma:m.mb≠m.ab
 pr:m.pb≠m.rb
 pg:m.pb≠m.gb
 pa:m.pb≠m.ab
 rg:m.rb≠m.gb
 ra:m.rb≠m.ab
 ga:m.gb≠m.ab
structure lI(w:World)(B lp:Nat)(m:dQ):Prop where
 c:aQ w lp 29 (vM m) 106
 t:rP w B m.tp m.mb m.T
 p:Mp w m.pb m.T.n m.T.x (Dr m.T)
 r:Mp w m.rb m.T.n m.T.x (wO m.R)
 g:gX w m.gb m.gn (fun i=>m.g i 0) (fun i=>m.g i 1) (uF m.g)
 a:gX w m.ab m.an m.ao m.ar Dt
 ne:QlN m
 lB:B<=lp
 pB:B<=m.pb
 rB:B<=m.rb
 gB:B<=m.gb
 aB:B<=m.ab
def Fp(m:dQ)(lp:Nat)(k:Nat):Prop:=k=lp\/k=m.mb\/k=m.pb\/k=m.rb\/k=m.gb\/k=m.ab
section
variable {w w':World} {B lp:Nat} {m:dQ}
theorem lI.up(h:lI w B lp m)(b:Below w.heap.size w w'):lI w' B lp m := { h with c:=h.c.dh (Sb b) (t_ h.c.lt),t:=h.t.up b,p:=h.p.up b,r:=h.r.up b,g:=h.g.up b,a:=h.a.up b }
instance:Rt.Tr w w' (lI w B lp m) (lI w' B lp m):=⟨fun b h=>h.up b⟩
theorem lI.jZ{d:List TypeId}(h:lI w B lp m)(b:iP d w w')(e:(d.contains 106 || d.contains 135)=false):lI w' B lp m:=by
 rw[Bool.or_eq_false_iff]at e;exact { h with c:=h.c.jZ b e.1,t:=h.t.jZ b e.2,p:=h.p.jZ b trivial,r:=h.r.jZ b trivial,g:=h.g.jZ b trivial,a:=h.a.jZ b trivial }
instance {a:List TypeId}:Rt.Tc a w w' (lI w B lp m) (lI w' B lp m) (!(a.contains 106 || a.contains 135)):=⟨fun b h e=>h.jZ b (by simpa using e)⟩
theorem rP.keep{b a:Nat}{T:dL}(h:rP w B b a T)(c:w'.heap[b]? = w.heap[b]?)(d:w'.heap[a]? = w.heap[a]?):rP w' B b a T:=⟨c.trans h.blk,h.map.keep d,h.inv,h.gt,h.gm⟩
theorem lI.keep(h:lI w B lp m)(b : ∀ k,k=lp\/k=m.tp\/k=m.mb\/k=m.pb\/k=m.rb\/k=m.gb\/k=m.ab->w'.heap[k]? = w.heap[k]?):lI w' B lp m := { h with
 c:=(b _ (.inl rfl)).trans h.c,t:=rP.keep h.t (b _ (.inr (.inl rfl))) (b _ (.inr (.inr (.inl rfl)))),p:=h.p.keep (b _ (.inr (.inr (.inr (.inl rfl))))),r:=h.r.keep (b _ (.inr (.inr (.inr (.inr (.inl rfl)))))),
 g:=h.g.keep (b _ (.inr (.inr (.inr (.inr (.inr (.inl rfl))))))),a:=h.a.keep (b _ (.inr (.inr (.inr (.inr (.inr (.inr rfl))))))) }
theorem lI.chg{S:Nat->Prop}(h:lI w B lp m)(f:jN S w w')(d : ∀ k,k=m.tp\/Fp m lp k -> ¬ S k):lI w' B lp m:=by
 have b : ∀ k,k<w.heap.size -> ¬ S k->w'.heap[k]? = w.heap[k]? := f.block;refine h.keep fun k e => ?_
 rcases e with rfl|rfl|rfl|rfl|rfl|rfl|rfl
 ·exact b _ h.c.lt (d _ (.inr (.inl rfl)))
 ·exact b _ h.t.blk.lt (d _ (.inl rfl))
 ·exact b _ h.t.lt (d _ (.inr (.inr (.inl rfl))))
 ·exact b _ h.p.lt (d _ (.inr (.inr (.inr (.inl rfl)))))
 ·exact b _ h.r.lt (d _ (.inr (.inr (.inr (.inr (.inl rfl))))))
 ·exact b _ h.g.lt (d _ (.inr (.inr (.inr (.inr (.inr (.inl rfl)))))))
 exact b _ h.a.lt (d _ (.inr (.inr (.inr (.inr (.inr (.inr rfl)))))))
theorem lI.weak{b:Nat}(h:lI w B lp m)(a:b<=B):lI w b lp m := { h with t:=h.t.weak a,lB:=m_ a h.lB,pB:=m_ a h.pB,rB:=m_ a h.rB,gB:=m_ a h.gB,aB:=m_ a h.aB }
theorem lI.lt(h:lI w B lp m):lp<w.heap.size:=h.c.lt
theorem lI.ltS(h:lI w B lp m){k:Nat}(b:Fp m lp k):B<=k/\k<w.heap.size:=by
 rcases b with rfl|rfl|rfl|rfl|rfl|rfl
 ·exact⟨h.lB,h.c.lt⟩
 ·exact⟨h.t.gm,h.t.lt⟩
 ·exact⟨h.pB,h.p.lt⟩
 ·exact⟨h.rB,h.r.lt⟩
 ·exact⟨h.gB,h.g.lt⟩
 exact⟨h.aB,h.a.lt⟩
end
namespace Rt
def zq(x:Nat->Int):Nat->Int->Nat
 | 0,_=>0
 | n+1,k=>if x n=k then n else zq x n k
theorem mK{x:Nat->Int}{j:Nat}{k:Int} : ∀ {n:Nat},(∀ a b,a<n->b<n->x a=x b->a=b)->j<n->x j=k->zq x n k=j
 | 0,_,h,_=>L_ h (u_ _)
 | n+1,hi,hj,e=>by
   unfold zq;by_cases c:x n=k
   ·rw[d_ c]; exact hi n j (by omega) hj (c.trans e.symm)
   ·rw[b_ c];refine mK (fun a b d f=>hi a b (by omega) (by omega)) ?_ e
    rcases Nat.lt_or_ge j n with h|h
    ·exact h
    ·obtain rfl:j=n:=(by omega);exact L_ e c
end Rt
def dQ.idx(m:dQ)(k:Int):Nat:=zq m.T.x m.T.n k
def UC(m:dQ)(lp a:Nat)(k:Nat):Prop:=Fp m lp k\/a<=k
structure UD(w:World)(B lp:Nat)(m m':dQ)(b0:Nat)(fv:Value)(fi:Nat)(cap:Array Value):Prop where
 e:fv = .func (.func fi) #[] cap
 f : ∃ fn c, Tryz.prog.funcs[fi]? = some fn ∧ (fn.name == "runtime.NumGoroutine") = false ∧ fn.body = some c
 s : ∀ w2,Below w.heap.size w w2->Calls Tryz.prog fi cap w2 fun e w3=>e = .returned (.tuple #[])/\lI w3 B lp m'/\jN (UC m lp b0) w2 w3
def Q5(w:World)(B lp:Nat)(m f:dQ)(b:Int)(e:Ending)(w':World):Prop :=
 (∃ a d c,e = .returned (.tuple #[a,.int .i64 b])/\a.oneCell'=true/\(b=0->UD w' B lp m f w.heap.size a d c))/\Below w.heap.size w w'
theorem lI.Jc{w w':World}{B lp g n d:Nat}{m:dQ}{x:Nat->Value}{T:TypeId}(h:lI w B lp m)(b:aQ w g n x T)(f:T≠106)(i:jN (UC m lp d) w w')(j:g<d):aQ w' g n x T:=b.chg i fun e=>by
 rcases e with (rfl|rfl|rfl|rfl|rfl|rfl)|e
 ·exact f (Fx.Ty.only h.c.ty b.ty)
 ·exact h.t.map.rG b.ty
 ·exact h.p.rG b.ty
 ·exact h.r.rG b.ty
 ·exact h.g.rG b.ty
 ·exact h.a.rG b.ty
 ·omega
theorem Fx.Oy{P:Program}{f:Nat->Value}{w:World}{o:Oper}{g:Nat}{t:Operand}{b:List Operand}{args:List Value}{d:Array TypeId}{cap all:Array Value}(l:o.op = .call { callee := .value t,args:=b.toArray,argTypes:=d })(m:ev f t = .func (.func g) #[] cap)(hx:b.map (ev f)=args)(j:args.toArray++cap=all)
 (k : ∃ a c, P.funcs[g]? = some a ∧ (a.name == "runtime.NumGoroutine") = false ∧ a.body = some c) : (execOp (ev f) o).run P w = .ok (.enter g all) w := by
 obtain⟨a,c,e,h,i⟩:=k;exact Fx.Gp l m hx (by rw[<- j]; simp) e h i
namespace Fx
theorem It.dR{w w':World}{r b n g:Nat}{S:Nat->Bool}(h:It w r b n S)(a:Pp g w w')(c:b≠g)(d:r≠g):It w' r b n S:=h.keep (a.s.block b h.QV c) (a.s.block r h.lt d)
theorem Ai.dR{w w':World}{r b i g:Nat}(h:Ai w r b i)(a:Pp g w w')(c:b≠g)(d:r≠g):Ai w' r b i:=h.keep (a.s.block b h.QV c) (a.s.block r h.lt d)
end Fx
end
end Go.Proofs.YtahbiajdgealnaaGreatDoor
namespace Go.Proofs.YtahbiajdgealnaaGreatDoor.Fx
open Go.RowKit
section
variable {P:Program} {n0:Nat} {Q:Post} {f:Nat->Value} {w:World} {ops:Array Oper} {rest:List Oper} {o:Oper}
theorem MX{T E:TypeId}{x:Operand}{b off n s:Nat}(d:o.op = .slice T x none none none)(hx:ev f x = .pointer (some ⟨b,off,none⟩))(c:P.underlying T=some (.array n E))(e:(P.info? E).map (·.size)=some s) :
 Runs P f o w (.slice (some ⟨b,off,none⟩) n n):=by
 obtain⟨i,a,g⟩:=Option.map_eq_some_iff.1 e;unfold Runs execOp;simp only[d,hx,Option.map_none];by_cases h:n=0
 ·subst h; simp[Instr.sliceAt,Instr.sureAddr,underlying,c,Instr.sliceBounds,sizeOf,typeInfo,a]
 simp[Instr.sliceAt,Instr.sureAddr,underlying,c,Instr.sliceBounds,sizeOf,typeInfo,a,Addr.add,g]
end
end Go.Proofs.YtahbiajdgealnaaGreatDoor.Fx
namespace Go.Proofs.YtahbiajdgealnaaGreatDoor
open Go.RowKit Rt
open Fx (eP eX fK bB gQ gP dD dO gH jo eT jr fV jv iY Lv sN Ln Ws Qv Wl Rp Wc Qs Wr Sb Lk Wk rC rV sR Rs Rn Rd Rk Wb Wx Wo Dy Wt qI Qn FW Bh yD yZ Db Dw qy iw za nu uP uO vX wV yY Dl Ar rv aA aQ bI aN ev cO Stp dJ aW flat dB Mp fu aX gX iK bD down iM jN iN ny bJ bH cells_one iP bW xE unseen jH iA bO dM bL bM cB cK gG fZ qc gT)
namespace Rt
def kR(v:EvM)(l:Int):Bool:=decide (l<=v.aT)&&decide (v.aT<=1125899906842624)
def qW(v:EvM):EvM:=⟨v.o,v.seq,v.deps,v.kind,0,v.dst,0,v.req,v.of⟩
def yj(v:EvM):Bool:=decide (0<v.req)
def MZ(v:EvM):EvM:=⟨v.o,v.seq,v.deps,v.kind,v.node,v.dst,v.aT,0,v.of⟩
def acJ(v:EvM):EvM:=⟨v.o,v.seq,v.deps,v.kind,v.node,v.dst,v.aT,0,0⟩
def toB(v:EvM):Bool:=pG v.dst && !decide (v.dst=v.o)
def KM(v:EvM):EvM:=⟨v.o,v.seq,v.deps,v.kind,v.node,0,v.aT,v.req,v.of⟩
end Rt
def Rt.Du(v:EvM):Bool:=decide (0<v.req)&&(decide (0<v.of) && !decide (v.of=v.req))
theorem A9(n:Int)(w:World) :
 Calls Tryz.prog 88 #[au n] w fun e w'=>e = .returned (.bool (pG n))/\w'=w:=by
 refine Kent Tryz.func88 9 ?_;refine ay<|av aF<|aC<|ay<|av (au n) ?_;by_cases a:1<=n
 ·refine Lv aG (ko a)<|av aG<|av (au n) ?_;by_cases b:n<=6
  ·refine Lv aG (mZ b)<|av aG<|av aG<|aC<|Wr<|aJ aG ?_;exact⟨gY (by simp only[pG]; first|(symm; simp; omega)|(symm; simp; done)),rfl⟩
  refine Lv aF (nG b)<|av aF<|av aF<|aC<|Wr<|aJ aF ?_;exact⟨gY (by simp only[pG]; first|(symm; simp; omega)|(symm; simp; done)),rfl⟩
 refine Lv aF (jT a)<|av aF<|bX<|bX<|av aF<|av aF<|aC<|Wr<|aJ aF ?_;exact⟨gY (by simp only[pG]; first|(symm; simp; omega)|(symm; simp; done)),rfl⟩
theorem Jd(l:Int)(v:EvM)(g:Nat)(w:World)(a:aQ w g 14 (bQ v) 160) :
 Calls Tryz.prog 114 #[(pt g),au l] w fun e w'=>e = .returned (.bool (kR v l))/\aQ w' g 14 (bQ (qW v)) 160/\Stp g w w':=by
 have P:=a.lt;refine Kent Tryz.func114 30 ?_;refine ay<|av aF<|aC<|ay<|av (pt g)<|av (pt g)<|av (pt g)<|av (pf g 11)<|Lv (au v.aT) (aM a.aI 11)<|av (au l) ?_;by_cases c:l<=v.aT
 ·refine Lv aG (ko c)<|av aG<|av (pt g)<|av (pt g)<|av (pt g)<|av (pf g 11)<|Lv (au v.aT) (aM a.aI 11) ?_;by_cases d:v.aT<=1125899906842624
  ·refine Lv aG (mZ d)<|av aG<|av aG<|aC<|ay<|av (pt g)<|av (pt g)<|av (pt g)<|av (pt g)<|av (pf g 9)<|jh a 9 (aD 0) fun J p D Q => ?_;have t:aQ J g 14 (bQ (⟨v.o,v.seq,v.deps,v.kind,0,v.dst,v.aT,v.req,v.of⟩:EvM)) 160:=p.congr (fun j b=>by rcases j with _|_|_|_|_|_|_|_|_|_|_|_|_|_|j <;> first|rfl|omega)
   have f:=(nu g w).then D (by omega);refine av (pt g)<|av (pt g)<|av (pf g 11)<|jh t 11 (au 0) fun K u E R => ?_;have x:aQ K g 14 (bQ (⟨v.o,v.seq,v.deps,v.kind,0,v.dst,0,v.req,v.of⟩:EvM)) 160:=u.congr (fun j b=>by rcases j with _|_|_|_|_|_|_|_|_|_|_|_|_|_|j <;> first|rfl|omega)
   have h:=f.then E (by omega);refine aC<|ay<|av aG<|av aG<|aC<|Wr<|aJ aG ?_;exact⟨gY (by simp only[kR]; first|(symm; simp; omega)|(symm; simp; done)),x,h⟩
  refine Lv aF (nG d)<|av aF<|av aF<|aC<|ay<|av (pt g)<|av (pt g)<|av (pt g)<|av (pt g)<|av (pf g 9)<|jh a 9 (aD 0) fun L y F S => ?_;have z:aQ L g 14 (bQ (⟨v.o,v.seq,v.deps,v.kind,0,v.dst,v.aT,v.req,v.of⟩:EvM)) 160:=y.congr (fun j b=>by rcases j with _|_|_|_|_|_|_|_|_|_|_|_|_|_|j <;> first|rfl|omega)
  have i:=(nu g w).then F (by omega);refine av (pt g)<|av (pt g)<|av (pf g 11)<|jh z 11 (au 0) fun M A G T => ?_;have B:aQ M g 14 (bQ (⟨v.o,v.seq,v.deps,v.kind,0,v.dst,0,v.req,v.of⟩:EvM)) 160:=A.congr (fun j b=>by rcases j with _|_|_|_|_|_|_|_|_|_|_|_|_|_|j <;> first|rfl|omega)
  have k:=i.then G (by omega);refine aC<|ay<|av aF<|av aF<|aC<|Wr<|aJ aF ?_;exact⟨gY (by simp only[kR]; first|(symm; simp; omega)|(symm; simp; done)),B,k⟩
 refine Lv aF (jT c)<|av aF<|bX<|bX<|bX<|bX<|bX<|bX<|av aF<|av aF<|aC<|ay<|av (pt g)<|av (pt g)<|av (pt g)<|av (pt g)<|av (pf g 9)<|jh a 9 (aD 0) fun N C H U => ?_;have q:aQ N g 14 (bQ (⟨v.o,v.seq,v.deps,v.kind,0,v.dst,v.aT,v.req,v.of⟩:EvM)) 160:=C.congr (fun j b=>by rcases j with _|_|_|_|_|_|_|_|_|_|_|_|_|_|j <;> first|rfl|omega)
 have m:=(nu g w).then H (by omega);refine av (pt g)<|av (pt g)<|av (pf g 11)<|jh q 11 (au 0) fun O r I V => ?_;have s:aQ O g 14 (bQ (⟨v.o,v.seq,v.deps,v.kind,0,v.dst,0,v.req,v.of⟩:EvM)) 160:=r.congr (fun j b=>by rcases j with _|_|_|_|_|_|_|_|_|_|_|_|_|_|j <;> first|rfl|omega)
 have n:=m.then I (by omega);refine aC<|ay<|av aF<|av aF<|aC<|Wr<|aJ aF ?_;exact⟨gY (by simp only[kR]; first|(symm; simp; omega)|(symm; simp; done)),s,n⟩
theorem Oz(v:EvM)(g:Nat)(w:World)(a:aQ w g 14 (bQ v) 160) :
 Calls Tryz.prog 115 #[(pt g)] w fun e w'=>e = .returned (.bool (yj v))/\aQ w' g 14 (bQ (MZ v)) 160/\Stp g w w':=by
 have r:=a.lt;refine Kent Tryz.func115 15 ?_;refine ay<|av aF<|aC<|ay<|av (pt g)<|av (pt g)<|av (pt g)<|av (pf g 12)<|Lv (aD v.req) (aM a.aI 12) ?_;by_cases b:0<v.req
 ·refine Lv aG (lW b)<|av aG<|aC<|ay<|av (pt g)<|av (pt g)<|av (pt g)<|av (pf g 12)<|jh a 12 (aD 0) fun p h m s => ?_;have i:aQ p g 14 (bQ (⟨v.o,v.seq,v.deps,v.kind,v.node,v.dst,v.aT,0,v.of⟩:EvM)) 160:=h.congr (fun j f=>by rcases j with _|_|_|_|_|_|_|_|_|_|_|_|_|_|j <;> first|rfl|omega)
  have c:=(nu g w).then m (by omega);refine aC<|ay<|av aG<|av aG<|aC<|Wr<|aJ aG ?_;exact⟨gY (by simp only[yj]; first|(symm; simp; omega)|(symm; simp; done)),i,c⟩
 refine Lv aF (lX b)<|av aF<|aC<|ay<|av (pt g)<|av (pt g)<|av (pt g)<|av (pf g 12)<|jh a 12 (aD 0) fun q k n t => ?_;have l:aQ q g 14 (bQ (⟨v.o,v.seq,v.deps,v.kind,v.node,v.dst,v.aT,0,v.of⟩:EvM)) 160:=k.congr (fun j f=>by rcases j with _|_|_|_|_|_|_|_|_|_|_|_|_|_|j <;> first|rfl|omega)
 have d:=(nu g w).then n (by omega);refine aC<|ay<|av aF<|av aF<|aC<|Wr<|aJ aF ?_;exact⟨gY (by simp only[yj]; first|(symm; simp; omega)|(symm; simp; done)),l,d⟩
theorem anY(v:EvM)(g:Nat)(w:World)(h:aQ w g 14 (bQ v) 160) :
 Calls Tryz.prog 116 #[(pt g)] w fun e w'=>e = .returned (.bool (Du v))/\aQ w' g 14 (bQ (acJ v)) 160/\Stp g w w':=by
 have lg:=h.lt;refine Kent Tryz.func116 32 ?_;refine ay<|av aF<|aC<|Ws ?_;refine zQ<|aU (pt g)<|aU (pt g)<|aU (pt g)<|aU (pf g 13)<|Qv (aD v.of) (fun b d=>aM (h.aI.dr d) 13) ?_;by_cases r:0<v.of
 ·refine Qv aG (fun b d=>lW r)<|aU aG<|aU (pt g)<|aU (pt g)<|aU (pt g)<|aU (pf g 13)<|Qv (aD v.of) (fun b d=>aM (h.aI.dr d) 13)<|aU (pt g)<|aU (pt g)<|aU (pt g)<|aU (pf g 12)<|Qv (aD v.req) (fun b d=>aM (h.aI.dr d) 12) ?_;by_cases q:v.of=v.req
  ·refine Qv aF (fun b d=>kr q)<|aU aF<|aU aF<|Qn ?_;rintro _ ⟨f,rfl⟩;obtain⟨Z,i⟩ : ∃ b,b=World.drewN w f:=⟨_,rfl⟩;rw[<- i];have y:Stp w.heap.size w Z:=(by rw[i]; exact Sb (jM w f));have H:=bG y.old h;have B:=(nu g w).then y (.inr (nu g w).size);clear i;refine sN<|ay<|av (pt g)<|av (pt g)<|av (pt g)<|av (pf g 13)<|jh H 13 (aD 0) fun W K Q z1 => ?_;have L:aQ W g 14 (bQ (⟨v.o,v.seq,v.deps,v.kind,v.node,v.dst,v.aT,v.req,0⟩:EvM)) 160:=K.congr (fun j s=>by rcases j with _|_|_|_|_|_|_|_|_|_|_|_|_|_|j <;> first|rfl|omega)
   have C:=B.then Q (by omega);refine aC<|ay<|av (pt g)<|lV (Oz (⟨v.o,v.seq,v.deps,v.kind,v.node,v.dst,v.aT,v.req,0⟩:EvM) g _ L) ?_;rintro e w2 ⟨a,u,R⟩;have m:=C.then R (by omega);by_cases c:yj (⟨v.o,v.seq,v.deps,v.kind,v.node,v.dst,v.aT,v.req,0⟩:EvM)=true
   ·refine⟨.bool true,by rw[a,c],?_⟩;clear a;refine av aG<|av aF<|av aF<|av aF<|aC<|Wr<|aJ aF ?_;exact⟨gY (by simp only[Du,yj]at *; first|(symm; simp; omega)|(symm; simp at *; omega)|(symm; simp at *; done)),u,m⟩
   rw[S_]at c;refine⟨.bool false,by rw[a,c],?_⟩;clear a;refine av aF<|bX<|av aF<|av aF<|aC<|Wr<|aJ aF ?_;exact⟨gY (by simp only[Du,yj]at *; first|(symm; simp; omega)|(symm; simp at *; omega)|(symm; simp at *; done)),u,m⟩
  refine Qv aG (fun b d=>nH q)<|aU aG<|aU aG<|Qn ?_;rintro _ ⟨f,rfl⟩;obtain⟨aa,k⟩ : ∃ b,b=World.drewN w f:=⟨_,rfl⟩;rw[<- k];have z:Stp w.heap.size w aa:=by rw[k]; exact Sb (jM w f)
  have M:=bG z.old h;have D:=(nu g w).then z (.inr (nu g w).size);clear k;refine sN<|ay<|av (pt g)<|av (pt g)<|av (pt g)<|av (pf g 13)<|jh M 13 (aD 0) fun X N S z2 => ?_;have O:aQ X g 14 (bQ (⟨v.o,v.seq,v.deps,v.kind,v.node,v.dst,v.aT,v.req,0⟩:EvM)) 160:=N.congr (fun j s=>by rcases j with _|_|_|_|_|_|_|_|_|_|_|_|_|_|j <;> first|rfl|omega)
  have E:=D.then S (by omega);refine aC<|ay<|av (pt g)<|lV (Oz (⟨v.o,v.seq,v.deps,v.kind,v.node,v.dst,v.aT,v.req,0⟩:EvM) g _ O) ?_;rintro e w4 ⟨a,x,T⟩;have n:=E.then T (by omega);by_cases c:yj (⟨v.o,v.seq,v.deps,v.kind,v.node,v.dst,v.aT,v.req,0⟩:EvM)=true
  ·refine⟨.bool true,by rw[a,c],?_⟩;clear a;refine av aG<|av aG<|av aG<|av aG<|aC<|Wr<|aJ aG ?_;exact⟨gY (by simp only[Du,yj]at *; first|(symm; simp; omega)|(symm; simp at *; omega)|(symm; simp at *; done)),x,n⟩
  rw[S_]at c;refine⟨.bool false,by rw[a,c],?_⟩;clear a;refine av aF<|bX<|av aF<|av aF<|aC<|Wr<|aJ aF ?_;exact⟨gY (by simp only[Du,yj]at *; first|(symm; simp; omega)|(symm; simp at *; omega)|(symm; simp at *; done)),x,n⟩
 refine Qv aF (fun b d=>lX r)<|aU aF<|aP<|aP<|aP<|aP<|aP<|aP<|aP<|aP<|aP<|aP<|aP<|aU aF<|aU aF<|Qn ?_;rintro _ ⟨f,rfl⟩;obtain⟨ab,l⟩ : ∃ b,b=World.drewN w f:=⟨_,rfl⟩;rw[<- l];have A:Stp w.heap.size w ab:=by rw[l]; exact Sb (jM w f)
 have P:=bG A.old h;have F:=(nu g w).then A (.inr (nu g w).size);clear l;refine sN<|ay<|av (pt g)<|av (pt g)<|av (pt g)<|av (pf g 13)<|jh P 13 (aD 0) fun Y I U z3 => ?_;have J:aQ Y g 14 (bQ (⟨v.o,v.seq,v.deps,v.kind,v.node,v.dst,v.aT,v.req,0⟩:EvM)) 160:=I.congr (fun j s=>by rcases j with _|_|_|_|_|_|_|_|_|_|_|_|_|_|j <;> first|rfl|omega)
 have G:=F.then U (by omega);refine aC<|ay<|av (pt g)<|lV (Oz (⟨v.o,v.seq,v.deps,v.kind,v.node,v.dst,v.aT,v.req,0⟩:EvM) g _ J) ?_;rintro e w6 ⟨a,t,V⟩;have p:=G.then V (by omega);by_cases c:yj (⟨v.o,v.seq,v.deps,v.kind,v.node,v.dst,v.aT,v.req,0⟩:EvM)=true
 ·refine⟨.bool true,by rw[a,c],?_⟩;clear a;refine av aG<|av aF<|av aF<|av aF<|aC<|Wr<|aJ aF ?_;exact⟨gY (by simp only[Du,yj]at *; first|(symm; simp; omega)|(symm; simp at *; omega)|(symm; simp at *; done)),t,p⟩
 rw[S_]at c;refine⟨.bool false,by rw[a,c],?_⟩;clear a;refine av aF<|bX<|av aF<|av aF<|aC<|Wr<|aJ aF ?_;exact⟨gY (by simp only[Du,yj]at *; first|(symm; simp; omega)|(symm; simp at *; omega)|(symm; simp at *; done)),t,p⟩
theorem agR(v:EvM)(g:Nat)(w:World)(a:aQ w g 14 (bQ v) 160) :
 Calls Tryz.prog 117 #[(pt g)] w fun e w'=>e = .returned (.bool (toB v))/\aQ w' g 14 (bQ (KM v)) 160/\Stp g w w':=by
 have Q:=a.lt;refine Kent Tryz.func117 28 ?_;refine ay<|av aF<|aC<|Ws ?_;refine mO<|aU (pt g)<|aU (pt g)<|aU (pt g)<|aU (pf g 10)<|Qv (au v.dst) (fun d b=>aM (a.cb b) 10) ?_;by_cases c:(pG v.dst)=true
 ·refine pU (fun _ _=>A9 v.dst _) aG (by rw[c])<|aU aG<|aU (pt g)<|aU (pt g)<|aU (pt g)<|aU (pf g 10)<|Qv (au v.dst) (fun d b=>aM (a.cb b) 10)<|aU (pt g)<|aU (pt g)<|aU (pt g)<|aU (pt g)<|Qv (au v.o) (fun d b=>aM (a.cb b) 0) ?_;by_cases f:v.dst=v.o
  ·refine Qv aF (fun d b=>kr f)<|aU aF<|aU aF<|Qn ?_;intro N h;have E:Stp w.heap.size w N:=Sb h;have t:=bG h a;have m:=(nu g w).then E (.inr (nu g w).size);refine sN<|ay<|av (pt g)<|av (pt g)<|av (pt g)<|av (pf g 10)<|jh t 10 (au 0) fun K u F R => ?_;have x:aQ K g 14 (bQ (⟨v.o,v.seq,v.deps,v.kind,v.node,0,v.aT,v.req,v.of⟩:EvM)) 160:=u.congr (fun j l=>by rcases j with _|_|_|_|_|_|_|_|_|_|_|_|_|_|j <;> first|rfl|omega)
   have n:=m.then F (by omega);refine aC<|ay<|av aF<|av aF<|aC<|Wr<|aJ aF ?_;exact⟨gY (by unfold toB; rw[c]; first|(symm; simp; omega)|(symm; simp; done)),x,n⟩
  refine Qv aG (fun d b=>nH f)<|aU aG<|aU aG<|Qn ?_;intro O i;have G:Stp w.heap.size w O:=Sb i;have y:=bG i a;have p:=(nu g w).then G (.inr (nu g w).size);refine sN<|ay<|av (pt g)<|av (pt g)<|av (pt g)<|av (pf g 10)<|jh y 10 (au 0) fun L z H S => ?_;have A:aQ L g 14 (bQ (⟨v.o,v.seq,v.deps,v.kind,v.node,0,v.aT,v.req,v.of⟩:EvM)) 160:=z.congr (fun j l=>by rcases j with _|_|_|_|_|_|_|_|_|_|_|_|_|_|j <;> first|rfl|omega)
  have q:=p.then H (by omega);refine aC<|ay<|av aG<|av aG<|aC<|Wr<|aJ aG ?_;exact⟨gY (by unfold toB; rw[c]; first|(symm; simp; omega)|(symm; simp; done)),A,q⟩
 rw[S_]at c;refine pU (fun _ _=>A9 v.dst _) aF (by rw[c])<|aU aF<|aP<|aP<|aP<|aP<|aP<|aP<|aP<|aP<|aP<|aP<|aP<|aU aF<|aU aF<|Qn ?_;intro P k;have I:Stp w.heap.size w P:=Sb k;have B:=bG k a;have r:=(nu g w).then I (.inr (nu g w).size);refine sN<|ay<|av (pt g)<|av (pt g)<|av (pt g)<|av (pf g 10)<|jh B 10 (au 0) fun M C J T => ?_;have D:aQ M g 14 (bQ (⟨v.o,v.seq,v.deps,v.kind,v.node,0,v.aT,v.req,v.of⟩:EvM)) 160:=C.congr (fun j l=>by rcases j with _|_|_|_|_|_|_|_|_|_|_|_|_|_|j <;> first|rfl|omega)
 have s:=r.then J (by omega);refine aC<|ay<|av aF<|av aF<|aC<|Wr<|aJ aF ?_;exact⟨gY (by unfold toB; rw[c]; first|(symm; simp; omega)|(symm; simp; done)),D,s⟩
namespace Rt
def mH(v:EvM):Bool :=
 if v.kind=1 then kR v 0 else if v.kind=2 then kR v 1 else if v.kind=3 then kR v 1&&yj v else if v.kind=4 then Du v else if v.kind=5 then kR v 1&&toB v else if v.kind=6 then toB v else decide (v.kind=7)
def qE(v:EvM):EvM :=
 if v.kind=1 then qW v else if v.kind=2 then qW v else if v.kind=3 then MZ (qW v)else if v.kind=4 then acJ v else if v.kind=5 then KM (qW v)else if v.kind=6 then KM v else v
def UE(v:EvM):EvM:=⟨v.o,v.seq,v.deps,v.kind,0,0,0,0,0⟩
theorem acK(a b:EvM):(∀ i,i<14->bQ a i=bQ b i)<->a.o=b.o/\a.seq=b.seq/\(∀ i,i<6->a.deps i=b.deps i)/\a.kind=b.kind/\a.node=b.node/\a.dst=b.dst/\a.aT=b.aT/\a.req=b.req/\a.of=b.of:=by
 constructor
 ·intro h;have f:Value.int .i64 a.o=au b.o:=h 0 (by decide);have g:Value.int .u64 a.seq=aD b.seq:=h 1 (by decide);have p:Value.int .u8 a.kind = .int .u8 b.kind:=h 8 (by decide);have q:Value.int .u64 a.node=aD b.node:=h 9 (by decide);have j:Value.int .i64 a.dst=au b.dst:=h 10 (by decide);have k:Value.int .i64 a.aT=au b.aT:=h 11 (by decide);have l:Value.int .u64 a.req=aD b.req:=h 12 (by decide);have m:Value.int .u64 a.of=aD b.of:=h 13 (by decide);simp only[Value.int.injEq,true_and]at f g p q j k l m;refine⟨f,g,fun i r => ?_,p,q,j,k,l,m⟩;have n:=h (i+2) (by omega);rw[lZ a rfl r,lZ b rfl r]at n
  simpa using n
 rintro ⟨f,g,n,p,q,j,k,l,m⟩ i r;unfold bQ;rw[f,g,p,q,j,k,l,m];by_cases c:i=0
 ·rw[d_ c,d_ c]
 by_cases d:i=1
 ·rw[b_ c,d_ d,b_ c,d_ d]
 by_cases e:i<8
 ·rw[b_ c,b_ d,d_ e,b_ c,b_ d,d_ e,n _ (by omega)]
 rw[b_ c,b_ d,b_ e,b_ c,b_ d,b_ e]
theorem G9{v:EvM}(a:mH v=true):(∀ i,i<14->bQ (qE v) i=bQ (UE v) i)<->rQ v=true:=by
 have h:=a;rw[acK];unfold mH at h;unfold qE rQ kK UE;simp only[R_,decide_eq_true_eq];split at h
 ·rename_i k; simp[k,qW,and_assoc]
 split at h
 ·rename_i k1 k; simp[k,qW,and_assoc]
 split at h
 ·rename_i k1 k2 k; simp[k,qW,MZ,and_assoc]
 split at h
 ·rename_i k1 k2 k3 k; simp[k,acJ,and_assoc]
 split at h
 ·rename_i k1 k2 k3 k4 k; simp[k,qW,KM,and_assoc]
 split at h
 ·rename_i k1 k2 k3 k4 k5 k; simp[k,KM,and_assoc]
 rename_i k1 k2 k3 k4 k5 k6; simp[k1,k2,k3,k4,k5,k6,and_assoc]
theorem CO{v:EvM}(h:rQ v=true):dK v=mH v:=by
 unfold rQ kK at h;unfold dK mH someE kR Du toB lQ yj;simp only[R_,decide_eq_true_eq]at h;split <;> try rfl
 rename_i k1;split <;> try rfl
 rename_i k2;split
 ·congr 1
 rename_i k3;split
 ·rename_i k4; rw[Bool.eq_iff_iff]; simp only[R_,decide_eq_true_eq,Bool.not_eq_true',decide_eq_false_iff_not]; omega
 split <;> rfl
def M4(x:Nat->Int):Nat->Int
 | 0=>x 0
 | k+1=>if x (k+1)>M4 x k then x (k+1)else M4 x k
theorem UF(x:Nat->Int) : ∀ n i,i<=n->x i<=M4 x n
 | 0,i,h=>by rw[show i=0 by omega]; exact M_ _
 | n+1,i,h=>by
   unfold M4;by_cases e:i=n+1
   ·subst e; split <;> omega
   ·have:=UF x n i (by omega); split <;> omega
theorem UG(x:Nat->Int) : ∀ n,∃ i,i<=n/\M4 x n=x i
 | 0=>⟨0,z_ _,rfl⟩
 | n+1=>by
   unfold M4;split
   ·exact⟨n+1,z_ _,rfl⟩
   ·obtain⟨i,a,e⟩:=UG x n; exact⟨i,by omega,e⟩
theorem acL{v:EvM}(h:1099511627776<=M4 v.deps 5):zU v=false:=by
 obtain⟨i,a,e⟩:=UG v.deps 5;exact GH (k:=i) (by omega) (by omega)
theorem Je{v:EvM}(h : ¬ 1099511627776<=M4 v.deps 5):zU v=true :=
 wD (k:=6) (by omega) fun i a=>by have:=UF v.deps 5 i (by omega); omega
def agS(v:EvM)(b:Bool)(a:EvM):Prop:=b=mH v/\(b=true->a=qE v)
end Rt
set_option maxHeartbeats 1000000 in
theorem acM(v:EvM)(g:Nat)(w:World)(k:aQ w g 14 (bQ v) 160) :
 Calls Tryz.prog 90 #[(pt g)] w fun e w' => ∃ b O,e = .returned (.bool b)/\aQ w' g 14 (bQ O) 160/\Stp g w w'/\agS v b O:=by
 have X:=k.lt;refine Kent Tryz.func90 46 ?_;refine ay<|av aF<|aC<|Ws<|ay<|av (pt g)<|av (pt g)<|av (pt g)<|av (pf g 8)<|Lv (.int .u8 (v.kind)) (aM k.aI 8)<|aC<|Wb<|ay ?_;by_cases c:v.kind=1
 ·refine Lv aG (eF c)<|av aG<|aC<|aO<|ay<|av (pt g)<|lV (Jd 0 v g _ k) ?_;rintro e Y ⟨a,G,P⟩;have y:=(nu g w).then P (by omega);by_cases p:kR v 0=true
  ·refine⟨.bool true,by rw[a,p],?_⟩;clear a;refine av aG (aC (Wr (bL (sR (aJ aG (⟨_,_,rfl,G,y,Eq.symm (by unfold mH; rw[d_ c,(show kR v 0=true from p)]; try rfl),fun d => ?_⟩))))))
   unfold qE; rw[d_ c]; try rfl
  rw[S_]at p;refine⟨.bool false,by rw[a,p],?_⟩;clear a;refine av aF (aC (Wr (bL (sR (aJ aF (⟨_,_,rfl,G,y,Eq.symm (by unfold mH; rw[d_ c,(show kR v 0=false from p)]; try rfl),fun d => ?_⟩))))))
  cases d
 refine Lv aF (fE c)<|av aF<|aC<|aK<|ay ?_;by_cases f:v.kind=2
 ·refine Lv aG (eF f)<|av aG<|aC<|aO<|ay<|av (pt g)<|lV (Jd 1 v g _ k) ?_;rintro e Z ⟨a,H,Q⟩;have z:=(nu g w).then Q (by omega);by_cases q:kR v 1=true
  ·refine⟨.bool true,by rw[a,q],?_⟩;clear a;refine av aG (aC (Wr (bL (sR (aJ aG (⟨_,_,rfl,H,z,Eq.symm (by unfold mH; rw[b_ c,d_ f,(show kR v 1=true from q)]; try rfl),fun d => ?_⟩))))))
   unfold qE; rw[b_ c,d_ f]; try rfl
  rw[S_]at q;refine⟨.bool false,by rw[a,q],?_⟩;clear a;refine av aF (aC (Wr (bL (sR (aJ aF (⟨_,_,rfl,H,z,Eq.symm (by unfold mH; rw[b_ c,d_ f,(show kR v 1=false from q)]; try rfl),fun d => ?_⟩))))))
  cases d
 refine Lv aF (fE f)<|av aF<|aC<|aK<|ay ?_;by_cases h:v.kind=3
 ·refine Lv aG (eF h)<|av aG<|aC<|aO<|ay<|av (pt g)<|lV (Jd 1 v g _ k) ?_;rintro e w3 ⟨a,I,R⟩;have A:=(nu g w).then R (by omega);by_cases m:kR v 1=true
  ·refine⟨.bool true,by rw[a,m],?_⟩;clear a;refine av aG<|av (pt g)<|lV (Oz (⟨v.o,v.seq,v.deps,v.kind,0,v.dst,0,v.req,v.of⟩:EvM) g _ I) ?_;rintro e w4 ⟨a,J,S⟩;have B:=A.then S (by omega);by_cases r:yj (⟨v.o,v.seq,v.deps,v.kind,0,v.dst,0,v.req,v.of⟩:EvM)=true
   ·refine⟨.bool true,by rw[a,r],?_⟩;clear a;refine av aG (av aG (aC (Wr (bL (sR (aJ aG (⟨_,_,rfl,J,B,Eq.symm (by unfold mH; rw[b_ c,b_ f,d_ h,(show kR v 1=true from m),(show yj v=true from r)]; try rfl),fun d => ?_⟩)))))))
    unfold qE; rw[b_ c,b_ f,d_ h]; try rfl
   rw[S_]at r;refine⟨.bool false,by rw[a,r],?_⟩;clear a;refine av aF (av aF (aC (Wr (bL (sR (aJ aF (⟨_,_,rfl,J,B,Eq.symm (by unfold mH; rw[b_ c,b_ f,d_ h,(show kR v 1=true from m),(show yj v=false from r)]; try rfl),fun d => ?_⟩)))))))
   cases d
  rw[S_]at m;refine⟨.bool false,by rw[a,m],?_⟩;clear a;refine av aF (bX (bX (av aF (av aF (aC (Wr (bL (sR (aJ aF (⟨_,_,rfl,I,A,Eq.symm (by unfold mH; rw[b_ c,b_ f,d_ h,(show kR v 1=false from m)]; try rfl),fun d => ?_⟩))))))))))
  cases d
 refine Lv aF (fE h)<|av aF<|aC<|aK<|ay ?_;by_cases i:v.kind=4
 ·refine Lv aG (eF i)<|av aG<|aC<|aO<|ay<|av (pt g)<|lV (anY v g _ k) ?_;rintro e w5 ⟨a,K,T⟩;have C:=(nu g w).then T (by omega);by_cases s:Du v=true
  ·refine⟨.bool true,by rw[a,s],?_⟩;clear a;refine av aG (aC (Wr (bL (sR (aJ aG (⟨_,_,rfl,K,C,Eq.symm (by unfold mH; rw[b_ c,b_ f,b_ h,d_ i,(show Du v=true from s)]; try rfl),fun d => ?_⟩))))))
   unfold qE; rw[b_ c,b_ f,b_ h,d_ i]; try rfl
  rw[S_]at s;refine⟨.bool false,by rw[a,s],?_⟩;clear a;refine av aF (aC (Wr (bL (sR (aJ aF (⟨_,_,rfl,K,C,Eq.symm (by unfold mH; rw[b_ c,b_ f,b_ h,d_ i,(show Du v=false from s)]; try rfl),fun d => ?_⟩))))))
  cases d
 refine Lv aF (fE i)<|av aF<|aC<|aK<|ay ?_;by_cases j:v.kind=5
 ·refine Lv aG (eF j)<|av aG<|aC<|aO<|ay<|av (pt g)<|lV (Jd 1 v g _ k) ?_;rintro e w6 ⟨a,L,U⟩;have D:=(nu g w).then U (by omega);by_cases n:kR v 1=true
  ·refine⟨.bool true,by rw[a,n],?_⟩;clear a;refine av aG<|av (pt g)<|lV (agR (⟨v.o,v.seq,v.deps,v.kind,0,v.dst,0,v.req,v.of⟩:EvM) g _ L) ?_;rintro e w7 ⟨a,M,V⟩;have E:=D.then V (by omega);by_cases t:toB (⟨v.o,v.seq,v.deps,v.kind,0,v.dst,0,v.req,v.of⟩:EvM)=true
   ·refine⟨.bool true,by rw[a,t],?_⟩;clear a;refine av aG (av aG (aC (Wr (bL (sR (aJ aG (⟨_,_,rfl,M,E,Eq.symm (by unfold mH; rw[b_ c,b_ f,b_ h,b_ i,d_ j,(show kR v 1=true from n),(show toB v=true from t)]; try rfl),fun d => ?_⟩)))))))
    unfold qE; rw[b_ c,b_ f,b_ h,b_ i,d_ j]; try rfl
   rw[S_]at t;refine⟨.bool false,by rw[a,t],?_⟩;clear a;refine av aF (av aF (aC (Wr (bL (sR (aJ aF (⟨_,_,rfl,M,E,Eq.symm (by unfold mH; rw[b_ c,b_ f,b_ h,b_ i,d_ j,(show kR v 1=true from n),(show toB v=false from t)]; try rfl),fun d => ?_⟩)))))))
   cases d
  rw[S_]at n;refine⟨.bool false,by rw[a,n],?_⟩;clear a;refine av aF (bX (bX (av aF (av aF (aC (Wr (bL (sR (aJ aF (⟨_,_,rfl,L,D,Eq.symm (by unfold mH; rw[b_ c,b_ f,b_ h,b_ i,d_ j,(show kR v 1=false from n)]; try rfl),fun d => ?_⟩))))))))))
  cases d
 refine Lv aF (fE j)<|av aF<|aC<|aK<|ay ?_;by_cases l:v.kind=6
 ·refine Lv aG (eF l)<|av aG<|aC<|aO<|ay<|av (pt g)<|lV (agR v g _ k) ?_;rintro e w8 ⟨a,N,W⟩;have F:=(nu g w).then W (by omega);by_cases u:toB v=true
  ·refine⟨.bool true,by rw[a,u],?_⟩;clear a;refine av aG (aC (Wr (bL (sR (aJ aG (⟨_,_,rfl,N,F,Eq.symm (by unfold mH; rw[b_ c,b_ f,b_ h,b_ i,b_ j,d_ l,(show toB v=true from u)]; try rfl),fun d => ?_⟩))))))
   unfold qE; rw[b_ c,b_ f,b_ h,b_ i,b_ j,d_ l]; try rfl
  rw[S_]at u;refine⟨.bool false,by rw[a,u],?_⟩;clear a;refine av aF (aC (Wr (bL (sR (aJ aF (⟨_,_,rfl,N,F,Eq.symm (by unfold mH; rw[b_ c,b_ f,b_ h,b_ i,b_ j,d_ l,(show toB v=false from u)]; try rfl),fun d => ?_⟩))))))
  cases d
 refine Lv aF (fE l)<|av aF<|aC<|aK<|Wk<|bM<|sN<|ay<|av (pt g)<|av (pt g)<|av (pt g)<|av (pf g 8)<|Lv (.int .u8 (v.kind)) (aM k.aI 8) ?_;by_cases x:v.kind=7
 ·refine Lv aG (eF x) (av aG (aC (Wr (aJ aG (⟨_,_,rfl,k,(nu g w),Eq.symm (by unfold mH; rw[b_ c,b_ f,b_ h,b_ i,b_ j,b_ l,f_ x]; try rfl),fun d => ?_⟩)))))
  unfold qE; rw[b_ c,b_ f,b_ h,b_ i,b_ j,b_ l]; try rfl
 refine Lv aF (fE x) (av aF (aC (Wr (aJ aF (⟨_,_,rfl,k,(nu g w),Eq.symm (by unfold mH; rw[b_ c,b_ f,b_ h,b_ i,b_ j,b_ l,g_ x]; try rfl),fun d => ?_⟩)))))
 cases d
theorem agT(x:Nat->Int)(b off:Nat)(w:World)(hx:iK w b off 6 (rv .u64 x)) :
 Calls Tryz.prog 89 #[.slice (some ⟨b,off,none⟩) (6) (6)] w fun e w'=>e = .returned (aD (M4 x 5))/\Below w.heap.size w w':=by
 have o:=hx.lt (by omega);refine Kent Tryz.func89 25 ?_;refine ay<|av (aD 0)<|aC<|Ws<|ay<|av (.slice (some ⟨b,off,none⟩) (6) (6))<|av (au 6)<|Lv aF Ei<|aC<|aK<|Wk<|sN<|ay<|av (.slice (some ⟨b,off,none⟩) (6) (6))<|Lv (pf b off) (cZ 1)<|Lv (aD (x 0)) (aM hx 0)<|av (aD (x 0))<|aC<|Ws<|ay<|av (au 1)<|aC<|Wb<|Wo (fun f j => ∃ k:Nat,k<=5/\f 0 = .slice (some ⟨b,off,none⟩) (6) (6)/\f 3=aD (M4 x k)/\f 4=au ((k:Int)+1)/\iK j b off 6 (rv .u64 x)/\Below w.heap.size w j) (fun f _=>(6-(intOf (f 4)).toNat)) ⟨0,by omega,(by rfl),rfl,Fx.ic,hx,(Below.refl w.heap.size w)⟩ ?_;rintro m p ⟨k,n,c,h,a,i,d⟩;refine Ws<|ay<|aR a<|aR c<|av (au 6) ?_;by_cases g:((k:Int)+1)<6
 ·refine Lv aG (gU g)<|aC<|aO<|Wk<|sN<|Ws<|Wb<|Wl<|aR h<|aR c<|aR a<|Lv (pf b (k+off+1)) (cZ 1)<|Lv (aD (x (k+1))) (aM i (k+1))<|Lv (aD (M4 x (k+1))) (Fx.Zp rfl rfl rfl)<|av (aD (M4 x (k+1)))<|Ln<|bM<|sN<|Wl<|aR a<|Lv (au ((k:Int)+2)) dZ<|av (au ((k:Int)+2))<|Ln<|fZ ⟨k+1,by omega,c,rfl,Fx.ic,i,d⟩ ?_;show(6-(intOf (au ((k:Int)+2))).toNat)<_;simp only[a,intOf]; omega
 refine Lv aF (gV g)<|aC<|aK<|Wx<|cB<|gG<|cK<|sN<|ay<|aR h<|av (aD (M4 x k))<|aC<|Wr<|aJ (aD (M4 x k)) ?_;have l:k=5:=by omega
 exact⟨by rw[l],d⟩
theorem OA{ks:List (Option IntKind)}{x y:Nat->Value}(h:Fx.Kd ks y)(e : ∀ j,j<ks.length->x j=y j):Fx.Kd ks x:=fun i a=>by rw[e i a]; exact h i a
namespace Rt
theorem KN{v:EvM}(h:fT v):fT (UE v):=by
 have z:ku 0:=⟨by decide,by decide⟩;have y:xG 0:=⟨by decide,by decide⟩;exact⟨h.o,h.seq,h.deps,h.kind,z,y,y,z,z⟩
theorem KO{v:EvM}(h:fT v):fT (qE v):=by
 have z:ku 0:=⟨by decide,by decide⟩;have y:xG 0:=⟨by decide,by decide⟩;unfold qE;split
 ·exact⟨h.o,h.seq,h.deps,h.kind,z,h.dst,y,h.req,h.of⟩
 split
 ·exact⟨h.o,h.seq,h.deps,h.kind,z,h.dst,y,h.req,h.of⟩
 split
 ·exact⟨h.o,h.seq,h.deps,h.kind,z,h.dst,y,z,h.of⟩
 split
 ·exact⟨h.o,h.seq,h.deps,h.kind,h.node,h.dst,h.aT,z,z⟩
 split
 ·exact⟨h.o,h.seq,h.deps,h.kind,z,y,y,h.req,h.of⟩
 split
 ·exact⟨h.o,h.seq,h.deps,h.kind,h.node,y,h.aT,h.req,h.of⟩
 exact h
end Rt
set_option maxHeartbeats 2000000 in
theorem He(v:EvM)(w:World)(G:fT v) :
 Calls Tryz.prog 62 #[.agg (aA 14 (bQ v))] w fun e w'=>e = .returned (.bool (bR v))/\Below w.heap.size w w':=by
 refine Kent Tryz.func62 55 ?_;refine ay<|rF fun g w1 ng t s1 z1 => ?_;have B:=bG s1.old (Below.refl w.heap.size w);have sw:=iB ng;have wu:=t.lt;refine av aF<|aC<|Ws<|Ws ?_;refine mO<|aU (pt g)<|Qv (au v.o) (fun f d=>aM (t.cb d) 0) ?_;by_cases l:(pG v.o)=true
 ·obtain⟨a,ha,ea⟩:=fB l;refine pU (fun _ _=>A9 v.o _) aG (by rw[l])<|aU aF<|aU aF<|aU (pf g 1)<|Qv (aD v.seq) (fun f d=>aM (t.cb d) 1) ?_;by_cases N:v.seq<1
  ·refine Qv aG (fun f d=>gU N)<|aU aG<|aU aG<|aP<|aP<|aP<|aU aG<|aU aG<|aP<|aP<|aP<|aP<|aP<|aP<|aP<|aP<|aP<|aP<|aU aG<|Qn ?_;intro Xg tH;have⟨k,U⟩:=fF tH t B;refine sN<|aO<|ay<|av aF<|aC<|Wr<|sR<|aJ aF ?_;have k:decide (1<=v.seq)=false:=g_ (by omega);exact⟨gY (Eq.symm (by unfold bR; rw[l,k]; try rfl)),U⟩
  refine Qv aF (fun f d=>gV N)<|aU aF<|aU aF<|aU (pf g 1)<|Qv (aD v.seq) (fun f d=>aM (t.cb d) 1) ?_;by_cases O:1099511627776<=v.seq
  ·refine Qv aG (fun f d=>ko O)<|aU aG<|aU aG<|aP<|aP<|aP<|aP<|aP<|aP<|aP<|aP<|aP<|aP<|aU aG<|Qn ?_;intro ZG wX;have⟨m,V⟩:=fF wX t B;refine sN<|aO<|ay<|av aF<|aC<|Wr<|sR<|aJ aF ?_;have k:decide (1<=v.seq)=true:=f_ (by omega);have m:decide (v.seq<1099511627776)=false:=g_ (by omega);exact⟨gY (Eq.symm (by unfold bR; rw[l,k,m]; try rfl)),V⟩
  refine Qv aF (fun f d=>jT O)<|aU aF<|aU aF<|aU (pt g)<|Qv (au v.o) (fun f d=>aM (t.cb d) 0)<|Qv (au a) (fun f d=>gF)<|aU (pf g 2)<|Qv (pf g (a+2)) (fun f d=>jC 6 1)<|Qv (aD (v.deps a)) (fun f d=>aM (t.cb d) (a+2) (lZ _ (by omega) (by omega)))<|aU (pf g 1)<|Qv (aD v.seq) (fun f d=>aM (t.cb d) 1)<|Qv (aD (v.seq-1)) (fun f d=>gF) ?_;by_cases y:(v.deps a)=(v.seq-1)
  ·refine Qv aF (fun f d=>kr y)<|aU aF<|Qn ?_;intro wb3 wY;have⟨q,W⟩:=fF wY t B;refine sN<|aK<|Wk<|sN<|Ws<|ay<|av (pf g 2)<|Lv (.slice (some ⟨g,2,none⟩) (6) (6)) (Fx.MX rfl rfl Tryz.underlying30 (s:=1) (by kernel_rfl))<|dX (agT v.deps g 2 _ (fun j x=>by have Q:=q.aI (2+j) (by omega); rw[E_]at Q; rw[Q,lZ v (p:=2+j) (j:=j) (by omega) x]; rfl)) _ rfl ?_;intro w2 hb1;have⟨r,I⟩:=fF hb1 q W;by_cases A:1099511627776<=(M4 v.deps 5)
   ·refine Lv aG (ko A)<|aC<|aO<|ay<|av aF<|aC<|Wr<|sR<|aJ aF ?_;have k:decide (1<=v.seq)=true:=f_ (by omega);have m:decide (v.seq<1099511627776)=true:=f_ (by omega);have q:decide (v.deps (v.o-1).toNat=v.seq-1)=true:=f_ (by rw[show(v.o-1).toNat=a by omega]; exact y);have r:=acL A;exact⟨gY (Eq.symm (by unfold bR; rw[l,k,m,q,r]; try rfl)),I⟩
   refine Lv aF (jT A)<|aC<|aK<|Wk<|sN<|ay<|Lv (.agg (aA 14 (bQ v))) (gD r.aI 0)<|av (.agg (aA 14 (bI (fun c=>if c<1 then au 0 else if c<8 then aD 0 else if c<9 then .int .u8 (0)else if c<10 then aD 0 else if c<12 then au 0 else aD 0) 0 14 (bQ v))))<|rF fun z w3 P u s6 z2 => ?_;have⟨C,Z⟩:=fF s6.old r I;have sP:=jE P I.size;have TI:=dn P r.lt;have Bl:=u.lt;refine av (pt z)<|aC<|Ws ?_;have L:aQ w3 z 14 (bQ v) 160:=u.congr (fun j x=>by rcases j with _|_|_|_|_|_|_|_|_|_|_|_|_|_|j <;> first|rfl|omega)
   refine Ar [0,1,2,3,4,5,7,9,11,13,6,8,10,12,14,15,16,17,18] [0,3,0,0,0,0,4,0,4,0,4,0,4,0,4,0,0,0,0] (Fx.FX [160]) Fx.FX.refl Fx.FX.trans (fH := [(2,1,[1]),(3,1,[2,1]),(4,1,[2,1]),(5,1,[2,1]),(7,1,[2,1]),(9,1,[2,1]),(11,1,[2,1]),(13,1,[2,1]),(6,1,[2,1]),(8,1,[2,1]),(10,1,[2,1]),(12,1,[2,1]),(14,1,[2,1]),(15,1,[2,1]),(16,1,[2,1]),(17,1,[2,1]),(18,1,[1])]) (by kernel_rfl) (by kernel_rfl) (by kernel_rfl) (by kernel_rfl) (by kernel_rfl) fun qA dS iy => ?_;have⟨m9,m10,M⟩:=kI dS C L Z;refine aZ (pt z)<|gI<|lV (acM v z _ m10) ?_;rintro e w4 ⟨b,v',E,R,S,F,hkv⟩;have H:=m9.dh S (by omega);have J:=S.below M M.size (by omega)
   cases b
   ·refine⟨.bool false,E,?_⟩;clear E;refine Ln<|aZ aF<|Rk (by rfl)<|Rk (by rfl)<|Rk (by rfl)<|Rk (by rfl)<|Rk (by rfl)<|Rk (by rfl)<|Rk (by rfl)<|Rk (by rfl)<|Rk (by rfl)<|Rk (by rfl)<|Rk (by rfl)<|Rk (by rfl)<|Rk (by rfl)<|Rk (by rfl)<|aZ aF<|aZ aF<|bP<|Wr<|aJ aF ?_;have k:decide (1<=v.seq)=true:=f_ (by omega);have m:decide (v.seq<1099511627776)=true:=f_ (by omega);have q:decide (v.deps (v.o-1).toNat=v.seq-1)=true:=f_ (by rw[show(v.o-1).toNat=a by omega]; exact y);have r:=Je A;have u:rQ v=true->dK v=false:=fun h=>by rw[CO h,<- F]
    have C:(rQ v&&dK v)=false:=by cases h:rQ v with|false=>rfl|true=>exact u h
    have L:(true&&true&&true&&true&&true&&rQ v&&dK v)=false:=C;exact⟨gY (Eq.symm (by unfold bR; rw[l,k,m,q,r,L]; try rfl)),J⟩
   refine⟨.bool true,E,?_⟩;clear E;rw[hkv rfl]at R;refine Ln<|aZ aG<|aZ (pt z)<|aZ (pt z)<|aZ (pt z)<|aZ (pt g)<|aZ (pf g 1)<|aZ (pf g 2)<|aZ (pf g 8)<|Rs (.agg (aA 14 (bQ (qE v)))) (gD R.aI 0) ?_;refine Rs (au v.o) (aM H.aI 0) ?_;refine Rs (aD v.seq) (aM H.aI 1) ?_;refine Rs (.agg (aA 6 (rv .u64 v.deps))) (gD H.aI 2 (fun j x=>lZ _ (by omega) x)) ?_;refine Rs (.int .u8 (v.kind)) (aM H.aI 8) ?_;refine aZ (.agg (aA 14 (bI (bI (bI (bI (fun c=>if c<1 then au 0 else if c<8 then aD 0 else if c<9 then .int .u8 (0)else if c<10 then aD 0 else if c<12 then au 0 else aD 0) 0 1 (fun _=>au v.o)) 1 1 (fun _=>aD v.seq)) 2 6 (rv .u64 v.deps)) 8 1 (fun _ => .int .u8 (v.kind))))) ?_;by_cases D : ∀ i,i<14->(bQ (qE v)) i=(bI (bI (bI (bI (fun c=>if c<1 then au 0 else if c<8 then aD 0 else if c<9 then .int .u8 (0)else if c<10 then aD 0 else if c<12 then au 0 else aD 0) 0 1 (fun _=>au v.o)) 1 1 (fun _=>aD v.seq)) 2 6 (rv .u64 v.deps)) 8 1 (fun _ => .int .u8 (v.kind))) i
   ·refine Rp aG (fun f=>Fx.xL (n:=14) (ks := [(some .i64),(some .u64),(some .u64),(some .u64),(some .u64),(some .u64),(some .u64),(some .u64),(some .u8),(some .u64),(some .i64),(some .i64),(some .u64),(some .u64)]) (X:=bQ (qE v)) (Y:=bI (bI (bI (bI (fun c=>if c<1 then au 0 else if c<8 then aD 0 else if c<9 then .int .u8 (0)else if c<10 then aD 0 else if c<12 then au 0 else aD 0) 0 1 (fun _=>au v.o)) 1 1 (fun _=>aD v.seq)) 2 6 (rv .u64 v.deps)) 8 1 (fun _ => .int .u8 (v.kind))) 12 true rfl rfl rfl (Fx.WU D) (Cy (KO G)) (OA (Cy (KN G)) (fun j x=>by rcases j with _|_|_|_|_|_|_|_|_|_|_|_|_|_|j <;> first|rfl|exact L_ x (by simp))) rfl (by kernel_rfl) (by kernel_rfl) (by kernel_rfl) (by kernel_rfl) (by kernel_rfl))<|aZ aG<|aZ aG<|bP<|Wr<|aJ aG ?_
    have k:decide (1<=v.seq)=true:=f_ (by omega);have m:decide (v.seq<1099511627776)=true:=f_ (by omega);have q:decide (v.deps (v.o-1).toNat=v.seq-1)=true:=f_ (by rw[show(v.o-1).toNat=a by omega]; exact y);have r:=Je A;have u:=(G9 F.symm).1 (fun i K=>(D i K).trans (by rcases i with _|_|_|_|_|_|_|_|_|_|_|_|_|_|i <;> first|rfl|omega))
    have C:=(CO u).trans F.symm;exact⟨gY (Eq.symm (by unfold bR; rw[l,k,m,q,r,u,C]; try rfl)),J⟩
   refine Rp aF (fun f=>Fx.xL (n:=14) (ks := [(some .i64),(some .u64),(some .u64),(some .u64),(some .u64),(some .u64),(some .u64),(some .u64),(some .u8),(some .u64),(some .i64),(some .i64),(some .u64),(some .u64)]) (X:=bQ (qE v)) (Y:=bI (bI (bI (bI (fun c=>if c<1 then au 0 else if c<8 then aD 0 else if c<9 then .int .u8 (0)else if c<10 then aD 0 else if c<12 then au 0 else aD 0) 0 1 (fun _=>au v.o)) 1 1 (fun _=>aD v.seq)) 2 6 (rv .u64 v.deps)) 8 1 (fun _ => .int .u8 (v.kind))) 12 false rfl rfl rfl (Fx.nob D) (Cy (KO G)) (OA (Cy (KN G)) (fun j x=>by rcases j with _|_|_|_|_|_|_|_|_|_|_|_|_|_|j <;> first|rfl|exact L_ x (by simp))) rfl (by kernel_rfl) (by kernel_rfl) (by kernel_rfl) (by kernel_rfl) (by kernel_rfl))<|aZ aF<|aZ aF<|bP<|Wr<|aJ aF ?_
   have k:decide (1<=v.seq)=true:=f_ (by omega);have m:decide (v.seq<1099511627776)=true:=f_ (by omega);have q:decide (v.deps (v.o-1).toNat=v.seq-1)=true:=f_ (by rw[show(v.o-1).toNat=a by omega]; exact y);have r:=Je A;have u:rQ v=false:=Bool.eq_false_iff.2 (fun h=>D (fun i K=>((G9 F.symm).2 h i K).trans (by rcases i with _|_|_|_|_|_|_|_|_|_|_|_|_|_|i <;> first|rfl|omega)))
   exact⟨gY (Eq.symm (by unfold bR; rw[l,k,m,q,r,u]; try rfl)),J⟩
  refine Qv aG (fun f d=>nH y)<|aU aG<|Qn ?_;intro wb4 Az;have b9:=bG Az B;refine sN<|aO<|ay<|av aF<|aC<|Wr<|sR<|aJ aF ?_;have k:decide (1<=v.seq)=true:=f_ (by omega);have m:decide (v.seq<1099511627776)=true:=f_ (by omega);have q:decide (v.deps (v.o-1).toNat=v.seq-1)=false:=g_ (by rw[show(v.o-1).toNat=a by omega]; exact y);exact⟨gY (Eq.symm (by unfold bR; rw[l,k,m,q]; try rfl)),b9⟩
 rw[S_]at l;refine pU (fun _ _=>A9 v.o _) aF (by rw[l])<|aU aG<|aU aG<|aP<|aP<|aP<|aU aG<|aU aG<|aP<|aP<|aP<|aU aG<|aU aG<|aP<|aP<|aP<|aP<|aP<|aP<|aP<|aP<|aP<|aP<|aU aG<|Qn ?_;intro wb5 Eu;have T:=bG Eu B;refine sN<|aO<|ay<|av aF<|aC<|Wr<|sR<|aJ aF ?_;exact⟨gY (Eq.symm (by unfold bR; rw[l]; try rfl)),T⟩
namespace Rt
def uG(a b:Int):Int:=if b>a then b else a
def vx(X:Nat->Nat->Int):Nat->Value:=fun p=>aD (X (p / 6) (p % 6))
theorem UH(X:Nat->Nat->Int){i p j:Nat}(a:p=6*i)(b:j<6):vx X (p+j)=rv .u64 (X i) j:=by
 subst a;show Value.int .u64 (X ((6*i+j) / 6) ((6*i+j) % 6))=aD (X i j);rw[show(6*i+j) / 6=i by omega,show(6*i+j) % 6=j by omega]
def zJ(c:Int->Int->Int)(X:Nat->Nat->Int):Nat->Nat->Int
 | 0=>X 0
 | k+1=>fun p=>c (zJ c X k p) (X (k+1) p)
def OB(c:Int->Int->Int)(X:Nat->Nat->Int):Nat->Nat->Int
 | 0=>fun _=>0
 | k+1=>zJ c X k
def Vcs(w:World)(a:Option Addr)(n cap:Nat)(X:Nat->Nat->Int):Prop:=0<n->n<=cap /\ ∃ b c,a=some ⟨b,c,none⟩/\iK w b c (6*n) (vx X)
def yt(x:Nat->Int)(k:Nat):Nat->Int:=fun p=>if p<k then x p else 0
theorem M5(x:Nat->Int)(k:Nat):upd (yt x k) k (x k)=yt x (k+1):=by
 funext p; unfold upd yt
 by_cases h:p=k
 ·subst h; rw[d_ rfl,d_ (by omega)]
 rw[b_ h];by_cases a:p<k
 ·rw[d_ a,d_ (by omega)]
 rw[b_ a,b_ (by omega)]
theorem Qp(x:Nat->Int):aA 6 (rv .u64 (yt x 6))=aA 6 (rv .u64 x):=Fx.eZ fun p a=>K_ (Value.int .u64) (by unfold yt; rw[d_ a])
end Rt
theorem agU(a b:Int)(w:World) :
 Calls Tryz.prog 128 #[aD a,aD b] w fun e w'=>e = .returned (aD (uG a b))/\w'=w:=by
 refine Kent Tryz.func128 8 ?_;refine ay<|av (aD 0)<|aC<|ay<|av (aD a)<|av (aD b)<|Lv (aD (uG a b)) (Fx.Zp rfl rfl rfl)<|av (aD (uG a b))<|aC<|Wr<|aJ (aD (uG a b)) ?_;exact⟨rfl,rfl⟩
theorem UJ(x y:Nat->Int)(c go gv q:Nat)(w:World)(k:q<6)(i:aQ w c 1 (fun _ => .func (.func 128) #[] #[]) 193)(d:aQ w go 6 (rv .u64 x) 30)(j:aQ w gv 6 (rv .u64 y) 30) :
 Calls Tryz.prog 140 #[au (q:Int),(pt c),(pt go),(pt gv)] w fun e w'=>e = .returned (aD (uG (x q) (y q)))/\Below w.heap.size w w':=by
 refine Kent Tryz.func140 14 ?_;refine ay<|av (aD 0)<|aC<|Ws ?_;refine mO<|Qv (.func (.func 128) #[] #[]) (fun b a=>aM (i.cb a) 0)<|aU (au q)<|Qv (pf go q) (fun b a=>jC 6 1)<|Qv (aD (x q)) (fun b a=>aM (d.cb a) q)<|aU (au q)<|Qv (pf gv q) (fun b a=>jC 6 1)<|Qv (aD (y q)) (fun b a=>aM (j.cb a) q)<|FW (v:=aD (uG (x q) (y q))) (by rfl) (fun b a=>Fx.Gp (args := [aD (x q),aD (y q)]) rfl rfl rfl (all := #[aD (x q),aD (y q)]) rfl Tryz.func128 rfl rfl) rfl (fun b a=>(agU (x q) (y q) _).mono fun e v2 h=>⟨h.1,by rw[h.2]; exact a⟩) ?_;refine aU (aD (uG (x q) (y q)))<|Qn ?_;intro m g;have⟨l,f⟩:=fF g d (Below.refl w.heap.size w);refine sN<|Wr<|aJ (aD (uG (x q) (y q))) ?_;exact⟨rfl,f⟩
theorem M7(x y:Nat->Int)(b go gv:Nat)(w:World)(v:aQ w b 1 (fun _ => .func (.func 128) #[] #[]) 193)(A:aQ w go 6 (rv .u64 x) 30)(B:aQ w gv 6 (rv .u64 y) 30) :
 Calls Tryz.prog 139 #[.func (.func 140) #[] #[(pt b),(pt go),(pt gv)]] w fun e w'=>e = .returned (.agg (aA 6 (rv .u64 (fun p=>uG (x p) (y p)))))/\Below w.heap.size w w':=by
 refine Kent Tryz.func139 14 ?_;refine ay<|Db (m:=6) (y:=rv .u64 (fun _=>0)) (by rfl) rfl (by kernel_rfl) rfl fun a Z t C Y z1 => ?_;have⟨S,V,W,D⟩:=qj Y.old v A B (Below.refl w.heap.size w);have sw:=iB t;have⟨nK,Oe,xC⟩:=Iy t v.lt A.lt B.lt;have wu:=C.lt;refine aC<|Ws<|ay<|av (au 0)<|aC<|Wb ?_;have X:aQ Z a 6 (rv .u64 (yt (fun p=>uG (x p) (y p)) 0)) 30:=C;refine Wo (fun f g => ∃ k:Nat,k<=6/\f 0 = .func (.func 140) #[] #[(pt b),(pt go),(pt gv)]/\f 2=(pt a)/\f 4=au (k:Int)/\aQ g b 1 (fun _ => .func (.func 128) #[] #[]) 193/\aQ g go 6 (rv .u64 x) 30/\aQ g gv 6 (rv .u64 y) 30/\aQ g a 6 (rv .u64 (yt (fun p=>uG (x p) (y p)) k)) 30/\Below w.heap.size w g) (fun f _=>(6-(intOf (f 4)).toNat)) ⟨0,by omega,(by rfl),(by rfl),Fx.ic,S,V,W,X,D⟩ ?_;rintro f1 w2 ⟨k,hk,u,c,d,l,n,o,q,j⟩;refine ay ?_;by_cases s:(k:Int)<6
 ·refine Lv aG (gU s (hx:=d))<|aC<|Ws<|aO<|Wk<|sN<|Ws<|Wb<|ay<|aR d<|av (au k)<|aC<|Wl<|av (au k)<|aR u<|av (au k)<|Bh (by rfl) (Fx.Gp (args := [au (k:Int)]) rfl rfl rfl (all := #[au (k:Int),(pt b),(pt go),(pt gv)]) rfl Tryz.func140 rfl rfl) rfl<|(UJ x y b go gv k _ (by omega) l n o).mono ?_;rintro e w3 ⟨z,H⟩;refine⟨aD (uG (x k) (y k)),by rw[z],?_⟩;clear z;have⟨I,J,K,L,r⟩:=sH H l n o q j;refine Lv (pf a k) (jC 6 1 (hx:=c))<|jh L k (aD (uG (x k) (y k))) fun w4 M h z2 => ?_;have N:aQ w4 a 6 (rv .u64 (upd (yt (fun p=>uG (x p) (y p)) k) k (uG (x k) (y k)))) 30:=M.to (Fx.yC _ _ _ _);have O:=I.dh h (by omega);have P:=J.dh h (by omega);have Q:=K.dh h (by omega);have E:=h.below r r.size (by omega);refine Ln<|bM<|sN<|Wl<|Lv (au ((k:Int)+1)) (dZ (hx:=d))<|av (au ((k:Int)+1))<|Ln ?_;have R:=N.to (K_ (rv .u64) (M5 (fun p=>uG (x p) (y p)) k));refine fZ ⟨k+1,by omega,u,c,Fx.ic,O,P,Q,R,E⟩ ?_;show(6-(intOf (au ((k:Int)+1))).toNat)<_;simp only[d,intOf]; omega
 refine Lv aF (gV s (hx:=d))<|aC<|Ws<|aK<|Wx<|cB<|gG<|cK<|sN<|ay<|Lv (.agg (aA 6 (rv .u64 (yt (fun p=>uG (x p) (y p)) k)))) (gD q.aI 0 (ha:=c))<|fI q 0 (ha:=c) fun w5 T i z3 => ?_;have U:aQ w5 a 6 (rv .u64 (yt (fun p=>uG (x p) (y p)) k)) 30:=aW T;have m22:=l.dh i (by omega);have m23:=n.dh i (by omega);have m24:=o.dh i (by omega);have F:=i.below j j.size (by omega);refine aC (Wr (⟨.agg (aA 6 (rv .u64 (yt (fun p=>uG (x p) (y p)) k))),rV Tryz.results139 ⟨_,c,aX U.aI (by kernel_rfl) (by kernel_rfl)⟩,?_⟩));have G:k=6:=by omega
 exact⟨by rw[G,Qp],F⟩
namespace Rt
def V2(x y:Nat->Int):Nat->Nat->Int
 | 0=>x
 | 1=>y
 | _=>fun _=>0
end Rt
theorem KP(a:Option Addr)(cap:Nat)(w:World) :
 Calls Tryz.prog 127 #[.slice a (0) (cap),.func (.func 128) #[] #[]] w fun e w'=>e = .returned (.agg (aA 6 (rv .u64 (fun _=>0))))/\Below w.heap.size w w':=by
 refine Kent Tryz.func127 26 ?_;refine ay<|zO (.func (.func 128) #[] #[]) fun t C j b p E => ?_;have c:=bG p.old (Below.refl w.heap.size w);have u:=iB j;have A:=b.lt;refine xD 6 (rv .u64 (fun _=>0)) fun k D f g q F => ?_;have⟨l,d⟩:=fF q.old b c;have v:=jE f c.size;have z:=dn f b.lt;have B:=g.lt;refine aC<|Ws<|ay<|av (.slice a (0) (cap))<|av (au 0)<|Lv aG (eF rfl)<|aC<|aO<|ay<|Lv (.agg (aA 6 (rv .u64 (fun _=>0)))) (Fx.vU (vs := []) (s:=1) (m:=6) (x:=rv .u64 (fun _=>0)) rfl rfl Tryz.underlying30 (by kernel_rfl) (by kernel_rfl) (by rfl))<|fI g 0 fun r n h G => ?_;have o:aQ r k 6 (rv .u64 (fun _=>0)) 30:=aW n;have y:=l.dh h (by omega);have i:=h.below d d.size (by omega);refine aC (Wr (sR (⟨.agg (aA 6 (rv .u64 (fun _=>0))),rV Tryz.results127 ⟨_,rfl,aX o.aI (by kernel_rfl) (by kernel_rfl)⟩,?_⟩)));exact⟨rfl,i⟩
theorem KQ(b off m cap:Nat)(X:Nat->Nat->Int)(w:World)(hcap:m+1<=cap)(hm:m<=1000000)(hx:iK w b off (6*(m+1)) (vx X)) :
 Calls Tryz.prog 127 #[.slice (some ⟨b,off,none⟩) (m+1) (cap),.func (.func 128) #[] #[]] w fun e w'=>e = .returned (.agg (aA 6 (rv .u64 (zJ uG X m))))/\Below w.heap.size w w':=by
 have lb:=hx.lt (by omega);refine Kent Tryz.func127 26 ?_;refine ay<|zO (.func (.func 128) #[] #[]) fun c w1 Q F s1 z1 => ?_;have⟨T,K⟩:=fF s1.old hx (Below.refl w.heap.size w);have sw:=iB Q;have nK:b≠c:=by rw[Q]; exact t_ (hx.lt (by omega))
 have wu:=F.lt;refine xD 6 (rv .u64 (fun _=>0)) fun r w2 z I s2 z2 => ?_;have⟨J,Z,L⟩:=kI s2.old T F K;have sP:=jE z K.size;have agV:b≠r:=by rw[z]; exact t_ (T.lt (by omega))
 have ZV:=dn z F.lt;have Bl:=I.lt;refine aC<|Ws<|ay<|av (.slice (some ⟨b,off,none⟩) (m+1) (cap))<|av (au ((m+1:Nat):Int))<|Lv aF afi<|aC<|aK<|Wk<|sN<|ay<|av (.slice (some ⟨b,off,none⟩) (m+1) (cap))<|Lv (pf b off) (cZ 6)<|Lv (.agg (aA 6 (rv .u64 (X 0)))) (gD J 0 (fun j E=>UH _ (i:=0) (p:=0) (by omega) E))<|xD 6 (rv .u64 (fun _=>0)) fun a w3 A m6 s3 z3 => ?_;have⟨m7,m8,m9,M⟩:=qj s3.old J Z I L;have Dz:=jE A L.size;have asE:b≠a:=by rw[A]; exact t_ (J.lt (by omega))
 have⟨agW,agX⟩:=vY A Z.lt I.lt;have LK:=m6.lt;refine fI m6 0 fun w4 m10 x z4 => ?_;have m11:aQ w4 a 6 (rv .u64 (X 0)) 30:=aW m10;have m12:=m7.dh x (by omega);have m13:=m8.dh x (by omega);have m14:=m9.dh x (by omega);have b4:=x.below M M.size (by omega);refine aC<|Ws<|ay<|av (.slice (some ⟨b,off,none⟩) (m+1) (cap))<|Lv (.slice (if cap=1 then some ⟨b,off,none⟩else some ⟨b,off+6,none⟩) (m) (cap-1)) (Fx.zM (j:=1) (b:=b) (off:=off) (len:=m+1) (cap:=cap) (s:=6) rfl rfl rfl Tryz.underlying191 (by kernel_rfl) (by omega) rfl rfl rfl)<|av (au m)<|av (au 0)<|aC<|Wb ?_;have m15:aQ w4 a 6 (rv .u64 (zJ uG X 0)) 30:=m11;refine Wo (fun f n => ∃ k:Nat,k<=m/\f 3=(pt c)/\f 4=(pt r)/\f 5=(pt a)/\f 16 = .slice (if cap=1 then some ⟨b,off,none⟩else some ⟨b,off+6,none⟩) (m) (cap-1)/\f 17=au (m:Int)/\f 18=au (k:Int)/\iK n b off (6*(m+1)) (vx X)/\aQ n c 1 (fun _ => .func (.func 128) #[] #[]) 193/\aQ n r 6 (rv .u64 (fun _=>0)) 30/\aQ n a 6 (rv .u64 (zJ uG X k)) 30/\Below w.heap.size w n) (fun f _=>(m-(intOf (f 18)).toNat)) ⟨0,by omega,(by rfl),(by rfl),(by rfl),(by rfl),Fx.ic,Fx.ic,m12,m13,m14,m15,b4⟩ ?_;rintro f1 w5 ⟨k,hk,R,C,t,S,D,g,u,G,H,v,o⟩;refine ay ?_;by_cases P:(k:Int)<(m:Int)
 ·refine Lv aG (gU P (hx:=g) (hy:=D))<|aC<|Ws<|aO<|Wk<|sN<|Ws<|Wb<|ay<|Lv (pf b (6*k+off+6)) (cZ 6 (hx:=(S.trans (K_ (fun q=>Value.slice q (m) (cap-1)) (b_ (by omega))))) (hi:=g))<|Lv (.agg (aA 6 (rv .u64 (X (k+1))))) (gD u (6*k+6) (fun j E=>UH _ (i:=k+1) (p:=6*k+6) (by omega) E))<|xD 6 (rv .u64 (fun _=>0)) fun d w6 B U s5 z5 => ?_;have⟨m21,m22,m23,m24,N⟩:=sH s5.old u G H v o;have WI:=jE B o.size;have anZ:b≠d:=by rw[B]; exact t_ (u.lt (by omega))
  have⟨aoa,aob,aoc⟩:=Iy B G.lt H.lt v.lt;have Ug:=U.lt;refine fI U 0 fun w7 nA h z6 => ?_;have V:aQ w7 d 6 (rv .u64 (X (k+1))) 30:=aW nA;have pE:=m21.dh h (by omega);have W:=m22.dh h (by omega);have pF:=m23.dh h (by omega);have Y:=m24.dh h (by omega);have b7:=h.below N N.size (by omega);refine aC<|Wl<|Lv (.func (.func 140) #[] #[(pt c),(pt a),(pt d)]) (Fx.nD (us := []) (vs := [(pt c),(pt a),(pt d)]) rfl rfl (Fx.NA R t rfl))<|dX (M7 (zJ uG X k) (X (k+1)) c a d _ W Y V) _ rfl ?_;intro w8 hb1;have⟨mJ,m32,qO,nX,pW,O⟩:=ql hb1 pE W pF Y V b7;refine fI nX 0 (ha:=t) fun w9 qm l z7 => ?_;have rJ:aQ w9 a 6 (rv .u64 (fun p=>uG ((zJ uG X k) p) ((X (k+1)) p))) 30:=aW qm;have qP:=mJ.dh l (by omega);have pX:=m32.dh l (by omega);have sD:=qO.dh l (by omega);have nY:=pW.dh l (by omega);have b9:=l.below O O.size (by omega);refine Ln<|bM<|sN<|Wl<|Lv (au ((k:Int)+1)) (dZ (hx:=g))<|av (au ((k:Int)+1))<|Ln<|fZ ⟨k+1,by omega,R,C,t,S,(D.trans Fx.ic),Fx.ic,qP,pX,sD,rJ,b9⟩ ?_;show(m-(intOf (au ((k:Int)+1))).toNat)<_;simp only[g,intOf]; omega
 refine Lv aF (gV P (hx:=g) (hy:=D))<|aC<|Ws<|aK<|Wx<|cB<|gG<|cK<|sN<|ay<|Lv (.agg (aA 6 (rv .u64 (zJ uG X k)))) (gD v.aI 0 (ha:=t))<|fI H 0 (ha:=C) fun um mW y z8 => ?_;have nC:aQ um r 6 (rv .u64 (zJ uG X k)) 30:=aW mW;have sI:=u.dh y (by omega);have qZ:=G.dh y (by omega);have nZ:=v.dh y (by omega);have b10:=y.below o o.size (by omega);refine aC (Wr (⟨.agg (aA 6 (rv .u64 (zJ uG X k))),rV Tryz.results127 ⟨_,C,aX nC.aI (by kernel_rfl) (by kernel_rfl)⟩,?_⟩));have ek:k=m:=by omega
 exact⟨by rw[ek],b10⟩
theorem M8(a:Option Addr)(n cap:Nat)(X:Nat->Nat->Int)(w:World)(g:n<=1000000)(h:Vcs w a n cap X) :
 Calls Tryz.prog 127 #[.slice a n cap,.func (.func 128) #[] #[]] w fun e w'=>e = .returned (.agg (aA 6 (rv .u64 (OB uG X n))))/\Below w.heap.size w w':=by
 cases n with
 | zero=>exact KP a cap w
 | succ m=>obtain⟨c,b,f,rfl,d⟩:=h (by omega); exact KQ b f m cap X w c (by omega) d
theorem acN{w w':World}{a:Option Addr}{n cap:Nat}{X:Nat->Nat->Int}(h:Vcs w a n cap X)(f:Below w.heap.size w w'):Vcs w' a n cap X:=fun d=>by
 obtain⟨g,b,i,e,c⟩:=h d;exact⟨g,b,i,e,c.below f (c.lt (by omega))⟩
theorem acO(a:Option Addr)(n cap:Nat)(X:Nat->Nat->Int)(w:World)(k:n<=1000000)(h:Vcs w a n cap X) :
 Calls Tryz.prog 119 #[.slice a (n) (cap)] w fun e w'=>e = .returned (.agg (aA 6 (rv .u64 (OB uG X n))))/\Below w.heap.size w w':=by
 refine Kent Tryz.func119 5 ?_;refine ay<|Db (m:=6) (y:=rv .u64 (fun _=>0)) (by rfl) rfl (by kernel_rfl) rfl fun i v g d q z => ?_;have b:=bG q.old (Below.refl w.heap.size w);have t:=iB g;have u:=d.lt;refine aC<|ay<|av (.slice a (n) (cap))<|dX (M8 a n cap X _ k (acN h b)) _ rfl ?_;intro x j;have⟨l,c⟩:=fF j d b;refine fI l 0 fun s o r A => ?_;have p:aQ s i 6 (rv .u64 (OB uG X n)) 30:=aW o;have f:=r.below c c.size (by omega);refine aC (Wr (⟨.agg (aA 6 (rv .u64 (OB uG X n))),rV Tryz.results119 ⟨_,rfl,aX p.aI (by kernel_rfl) (by kernel_rfl)⟩,?_⟩));exact⟨rfl,f⟩
namespace Rt
theorem agY(x y:Nat->Int):bI (bI (fun j=>rv .u64 (fun _=>0) (j % 6)) (0*6) 6 (rv .u64 x)) (1*6) 6 (rv .u64 y)=vx (V2 x y):=by
 funext p
 unfold bI;by_cases b:1*6<=p/\p<1*6+6
 ·rw[d_ b];show _=Value.int .u64 (V2 x y (p / 6) (p % 6));rw[show p / 6=1 by omega,show p-1*6=p % 6 by omega]; rfl
 rw[b_ b];by_cases a:0*6<=p/\p<0*6+6
 ·rw[d_ a];show _=Value.int .u64 (V2 x y (p / 6) (p % 6));rw[show p / 6=0 by omega,show p-0*6=p % 6 by omega]; rfl
 rw[b_ a];show _=Value.int .u64 (V2 x y (p / 6) (p % 6));obtain⟨q,c⟩ : ∃ q,p / 6=q+2:=⟨p / 6-2,by omega⟩;rw[c]; rfl
end Rt
namespace Rt
def hasB(K:Nat->Int)(o a:Int):Bool:=pG o&&decide (0<a)&&decide (a<=K (o-1).toNat)
theorem Hf{a b:Nat->Int}:xY a b=true <-> ∀ i,i<6->rv .u64 (fun p=>uG (a p) (b p)) i=rv .u64 b i:=by
 unfold xY;rw[List.all_eq_true];have e : ∀ i,rv .u64 (fun p=>uG (a p) (b p)) i=rv .u64 b i<->a i<=b i:=fun i=>by
  show Value.int .u64 (uG (a i) (b i))=aD (b i)<->_;simp only[Value.int.injEq,true_and]; unfold uG; split <;> omega
 constructor
 ·intro h i c; have:=h i (N_.2 c); rw[e]; exact h_ this
 intro h i c; have:=h i (N_.1 c); rw[e]at this; exact f_ this
def Kr(K:Nat->Int):Prop := ∀ i,i<6->ku (K i)
theorem Kr.kd{K:Nat->Int}(h:Kr K):Fx.Kd (List.replicate 6 (some .u64)) (rv .u64 K):=Fx.Ro fun i a=>Fx.uN (h i a)
theorem Kr.mx{K L:Nat->Int}(h:Kr K)(b:Kr L):Kr (fun p=>uG (K p) (L p)):=fun i a=>by
 have c:=h i a; have d:=b i a; show ku (uG (K i) (L i)); unfold uG; split <;> assumption
end Rt
theorem Ya{w:World}{g:Nat}{T:TypeId}{x:Nat->Value}(D K:Nat->Int)(h:aQ w g (2*6) x T)(e:x=vx (V2 D K)) :
 Calls Tryz.prog 119 #[bK g 2 2] w fun e w'=>e = .returned (.agg (aA 6 (rv .u64 fun p=>uG (D p) (K p))))/\Below w.heap.size w w' :=
 acO (some ⟨g,0,none⟩) 2 2 (V2 D K) w (by omega) (fun _=>⟨z_ _,g,0,rfl,(h.to e).aI⟩)
theorem UK(n:Int)(w:World) :
 Calls Tryz.prog 118 #[au n] w fun e w'=>e = .returned (.bool (pG n))/\w'=w:=by
 refine Kent Tryz.func118 9 ?_;refine ay<|av aF<|aC<|ay<|av (au n) ?_;by_cases a:1<=n
 ·refine Lv aG (ko a)<|av aG<|av (au n) ?_;by_cases b:n<=6
  ·refine Lv aG (mZ b)<|av aG<|av aG<|aC<|Wr<|aJ aG ?_;exact⟨gY (by simp only[pG]; first|(symm; simp; omega)|(symm; simp; done)),rfl⟩
  refine Lv aF (nG b)<|av aF<|av aF<|aC<|Wr<|aJ aF ?_;exact⟨gY (by simp only[pG]; first|(symm; simp; omega)|(symm; simp; done)),rfl⟩
 refine Lv aF (jT a)<|av aF<|bX<|bX<|av aF<|av aF<|aC<|Wr<|aJ aF ?_;exact⟨gY (by simp only[pG]; first|(symm; simp; omega)|(symm; simp; done)),rfl⟩
theorem ZY(K:Nat->Int)(o q:Int)(w:World) :
 Calls Tryz.prog 91 #[.agg (aA 6 (rv .u64 K)),au o,aD q] w fun e w'=>e = .returned (.bool (hasB K o q))/\Below w.heap.size w w':=by
 refine Kent Tryz.func91 21 ?_;refine ay<|rF fun k s j i l t => ?_;have f:=bG l.old (Below.refl w.heap.size w);have p:=iB j;have r:=i.lt;refine av aF<|aC<|ay<|av (au o) ?_;by_cases b:(pG o)=true
 ·obtain⟨a,n,m⟩:=fB b;refine lM (UK o _) aG (by rw[b])<|av aG<|av (aD q) ?_;by_cases c:0<q
  ·refine Lv aG (lW c)<|av aG<|av aG<|av (au o)<|Lv (au a) gF<|Lv (pf k a) (jC 6 1)<|Lv (aD (K a)) (aM i.aI a)<|av (aD q) ?_;by_cases g:q<=(K a)
   ·refine Lv aG (ko g)<|av aG<|av aG<|aC<|Wr<|aJ aG ?_;have d:decide (0<q)=true:=f_ c;have h:decide (q<=K (o-1).toNat)=true:=f_ (by rw[show(o-1).toNat=a by omega]; exact g);exact⟨gY (Eq.symm (by unfold hasB; rw[b,d,h]; try rfl)),f⟩
   refine Lv aF (jT g)<|av aF<|av aF<|aC<|Wr<|aJ aF ?_;have d:decide (0<q)=true:=f_ c;have h:decide (q<=K (o-1).toNat)=false:=g_ (by rw[show(o-1).toNat=a by omega]; exact g);exact⟨gY (Eq.symm (by unfold hasB; rw[b,d,h]; try rfl)),f⟩
  refine Lv aF (lX c)<|av aF<|av aF<|bX<|bX<|bX<|bX<|bX<|bX<|av aF<|av aF<|aC<|Wr<|aJ aF ?_;have d:decide (0<q)=false:=g_ c;exact⟨gY (Eq.symm (by unfold hasB; rw[b,d]; try rfl)),f⟩
 rw[S_]at b;refine lM (UK o _) aF (by rw[b])<|av aF<|bX<|bX<|av aF<|av aF<|bX<|bX<|bX<|bX<|bX<|bX<|av aF<|av aF<|aC<|Wr<|aJ aF ?_;exact⟨gY (Eq.symm (by unfold hasB; rw[b]; try rfl)),f⟩
theorem UL(D K:Nat->Int)(w:World)(o:Kr D)(b:Kr K) :
 Calls Tryz.prog 92 #[.agg (aA 6 (rv .u64 D)),.agg (aA 6 (rv .u64 K))] w fun e w'=>e = .returned (.bool (xY D K))/\Below w.heap.size w w':=by
 refine Kent Tryz.func92 11 ?_;refine ay<|rF fun M w1 E d I z1 => ?_;have f:=bG I.old (Below.refl w.heap.size w);have Q:=iB E;have W:=d.lt;refine rF fun N w2 l r J z2 => ?_;have⟨H,B⟩:=fF J.old d f;have R:=jE l f.size;have T:=dn l d.lt;have Z:=r.lt;refine av aF<|aC<|Ws ?_;refine jO [0,1,4,2,3,5,6] [4,4,2,2,1,0,0] [(2,0,[0]),(3,0,[2,0]),(2,1,[1]),(3,1,[2,1]),(3,2,[2]),(5,2,[3,2]),(6,2,[2]),(5,3,[3]),(6,3,[3])] fun qA F P => ?_;have⟨t,c,g⟩:=kI F H r B;refine Rs (.agg (aA 6 (rv .u64 D))) (gD t.aI 0) ?_;refine Rs (.agg (aA 6 (rv .u64 K))) (gD c.aI 0) ?_;refine Rd (v := .agg (aA 6 (rv .u64 K))) (by rfl) (by rfl) (uP _) (fun A G=>eT (x:=rv .u64 K) (y:=rv .u64 K) rfl rfl (by kernel_rfl) (by kernel_rfl) (c.aI.below G (by have:=c.lt; omega)) (i:=0) (by omega) (by omega) (fun j _=>by rw[E_])) ?_;refine Cw<|yD (vs := [(0,.agg (aA 6 (rv .u64 D))),(1,.agg (aA 6 (rv .u64 K)))]) (s:=6) (zc:=rv .u64 (fun _=>0)) (y:=bI (bI (fun j=>(rv .u64 (fun _=>0)) (j % 6)) (0*6) 6 (rv .u64 D)) (1*6) 6 (rv .u64 K)) (by rfl) rfl rfl Tryz.underlying191 (by kernel_rfl) (by rfl) (by rfl) (by kernel_rfl) (by rw[bD (off:=0*6) (s:=6) (y:=rv .u64 D) rfl (bH _ _) (by rfl)]; rw[bD (off:=1*6) (s:=6) (y:=rv .u64 K) rfl (bH _ _) (by rfl)]; rfl) rfl fun O w3 m u z z3 => ?_;have C:=bG z.old g;have S:=jE m g.size;have⟨U,V⟩:=vY m t.lt c.lt;have aa:=u.lt;refine Ln ⟨z.old,?_⟩;refine Cw<|dX (Ya D K u (agY D K)) _ rfl ?_;intro w4 q;have L:=Sb q;have k:=bG q C;refine Ln ⟨L.old,?_⟩;by_cases a : ∀ i,i<6->(rv .u64 (fun p=>uG (D p) (K p))) i=(rv .u64 K) i
 ·refine Rp aG (fun A=>Fx.xL (n:=6) (ks:=List.replicate 6 (some .u64)) (X:=rv .u64 (fun p=>uG (D p) (K p))) (Y:=rv .u64 K) 12 true rfl rfl rfl (Fx.WU a) (o.mx b).kd b.kd rfl (by kernel_rfl) (by kernel_rfl) (by kernel_rfl) (by kernel_rfl) (by kernel_rfl))<|aZ aG<|bP<|Wr<|aJ aG ?_;exact⟨gY (Eq.symm (Hf.2 a)),k⟩
 refine Rp aF (fun A=>Fx.xL (n:=6) (ks:=List.replicate 6 (some .u64)) (X:=rv .u64 (fun p=>uG (D p) (K p))) (Y:=rv .u64 K) 12 false rfl rfl rfl (Fx.nob a) (o.mx b).kd b.kd rfl (by kernel_rfl) (by kernel_rfl) (by kernel_rfl) (by kernel_rfl) (by kernel_rfl))<|aZ aF<|bP<|Wr<|aJ aF ?_;exact⟨gY (Eq.symm (Bool.eq_false_iff.2 (fun h=>a (Hf.1 h)))),k⟩
theorem Rt.KR{K:Nat->Int}{v:EvM}(h:bR v=true):mh K v=hasB K v.o v.seq:=by
 have a:=iJ h; have b:=(DI h).1;unfold mh hasB; rw[h,a,show decide (0<v.seq)=true from f_ (by omega)]; rfl
theorem UM(K:Nat->Int)(v:EvM)(w:World)(k:fT v) :
 Calls Tryz.prog 63 #[.agg (aA 6 (rv .u64 K)),.agg (aA 14 (bQ v))] w fun e w'=>e = .returned (.bool (mh K v))/\Below w.heap.size w w':=by
 refine Kent Tryz.func63 15 ?_;refine ay<|rF fun B H q c z O => ?_;have f:=bG z.old (Below.refl w.heap.size w);have C:=iB q;have F:=c.lt;refine rF fun j I i d A P => ?_;have⟨x,g⟩:=fF A.old c f;have D:=jE i f.size;have E:=dn i c.lt;have G:=d.lt;refine av aF<|aC<|ay<|Lv (.agg (aA 14 (bQ v))) (gD d.aI 0) ?_;by_cases a:(bR v)=true
 ·refine dX (He v _ k) aG (by rw[a]) ?_;intro J r;have⟨y,l,h⟩:=kI r x d g;refine av aG<|Lv (.agg (aA 6 (rv .u64 K))) (gD y.aI 0)<|av (pt j)<|Lv (au v.o) (aM l.aI 0)<|av (pf j 1)<|Lv (aD v.seq) (aM l.aI 1) ?_;by_cases b:(hasB K v.o v.seq)=true
  ·refine dX (ZY K v.o v.seq _) aG (by rw[b]) ?_;intro L s;have m:=bG s h;refine av aG<|av aG<|aC<|Wr<|aJ aG ?_;exact⟨gY (Eq.symm ((KR a).trans b)),m⟩
  rw[S_]at b;refine dX (ZY K v.o v.seq _) aF (by rw[b]) ?_;intro M t;have n:=bG t h;refine av aF<|av aF<|aC<|Wr<|aJ aF ?_;exact⟨gY (Eq.symm ((KR a).trans b)),n⟩
 rw[S_]at a;refine dX (He v _ k) aF (by rw[a]) ?_;intro N u;have p:=bG u g;refine av aF<|bX<|bX<|bX<|bX<|bX<|bX<|av aF<|av aF<|aC<|Wr<|aJ aF ?_;exact⟨gY (Eq.symm (by unfold mh; rw[a]; rfl)),p⟩
theorem OC(K:Nat->Int)(v:EvM)(w:World)(i:fT v)(q:Kr K) :
 Calls Tryz.prog 64 #[.agg (aA 6 (rv .u64 K)),.agg (aA 14 (bQ v))] w fun e w'=>e = .returned (.bool (dH K v))/\Below w.heap.size w w':=by
 refine Kent Tryz.func64 24 ?_;refine ay<|rF fun z Q y l F W => ?_;have m:=bG F.old (Below.refl w.heap.size w);have L:=iB y;have O:=l.lt;refine rF fun k R p c G X => ?_;have⟨r,h⟩:=fF G.old l m;have M:=jE p m.size;have N:=dn p l.lt;have P:=c.lt;refine av aF<|aC<|Ws ?_;refine mO<|Qv (.agg (aA 14 (bQ v))) (fun d b=>gD (c.cb b) 0) ?_;by_cases f:(bR v)=true
 ·obtain⟨a,I,H⟩:=fB (iJ f);have J:=DI f;refine ze (fun _ _=>He v _ i) aG (by rw[f])<|aU aG<|aU (pt k)<|Qv (au v.o) (fun d b=>aM (c.cb b) 0)<|Qv (au a) (fun d b=>gF)<|Qv (pf z a) (fun d b=>jC 6 1)<|Qv (aD (K a)) (fun d b=>aM (r.cb b) a)<|aU (pf k 1)<|Qv (aD v.seq) (fun d b=>aM (c.cb b) 1)<|Qv (aD (v.seq-1)) (fun d b=>gF) ?_;by_cases n:(K a)=(v.seq-1)
  ·refine Qv aG (fun d b=>eF n)<|aU aG<|aU aG<|aU (pf k 2)<|Qv (.agg (aA 6 (rv .u64 v.deps))) (fun d b=>gD (c.cb b) 2 (fun j E=>lZ _ (by omega) E))<|Qv (.agg (aA 6 (rv .u64 K))) (fun d b=>gD (r.cb b) 0) ?_;by_cases g:(xY v.deps K)=true
   ·refine ze (fun _ _=>UL v.deps K _ i.deps q) aG (by rw[g])<|aU aG<|aU aG<|Qn ?_;intro S A;have s:=bG A h;refine sN<|Wr<|aJ aG ?_;have c:decide (v.seq=K (v.o-1).toNat+1)=true:=f_ (by rw[show(v.o-1).toNat=a by omega]; omega);exact⟨gY (Eq.symm (by unfold dH; rw[f,c,g]; try rfl)),s⟩
   rw[S_]at g;refine ze (fun _ _=>UL v.deps K _ i.deps q) aF (by rw[g])<|aU aF<|aU aF<|Qn ?_;intro T B;have t:=bG B h;refine sN<|Wr<|aJ aF ?_;have c:decide (v.seq=K (v.o-1).toNat+1)=true:=f_ (by rw[show(v.o-1).toNat=a by omega]; omega);exact⟨gY (Eq.symm (by unfold dH; rw[f,c,g]; try rfl)),t⟩
  refine Qv aF (fun d b=>fE n)<|aU aF<|aU aF<|aP<|aP<|aP<|aP<|aU aF<|aU aF<|Qn ?_;intro U C;have u:=bG C h;refine sN<|Wr<|aJ aF ?_;have c:decide (v.seq=K (v.o-1).toNat+1)=false:=g_ (by rw[show(v.o-1).toNat=a by omega]; omega);exact⟨gY (Eq.symm (by unfold dH; rw[f,c]; try rfl)),u⟩
 rw[S_]at f;refine ze (fun _ _=>He v _ i) aF (by rw[f])<|aU aF<|aP<|aP<|aP<|aP<|aP<|aP<|aP<|aP<|aP<|aU aF<|aU aF<|aP<|aP<|aP<|aP<|aU aF<|aU aF<|Qn ?_;intro V D;have x:=bG D h;refine sN<|Wr<|aJ aF ?_;exact⟨gY (Eq.symm (by unfold dH; rw[f]; try rfl)),x⟩
set_option maxRecDepth 20000
namespace Rt
def jm(m:dQ)(v:EvM):Int:=if m.T.has v.node=false then 9 else if 140737488355328<m.R (m.idx v.node) (aL v)+v.aT then 6 else 0
def BU(m:dQ)(k:Int)(r:Nat->Int):dQ := { m with R:=aN m.R (m.idx k) r }
def uH(m:dQ)(v:EvM):dQ:=BU m v.node (upd (m.R (m.idx v.node)) (aL v) (m.R (m.idx v.node) (aL v)+v.aT))
def rZ(m:dQ)(v:EvM):(Nat->Int) × Int:=dw (m.R (m.idx v.node)) v.o v.dst v.aT
def jX(m:dQ)(v:EvM):Int:=if m.T.has v.node=false then 9 else if m.inn (v.dst-1).toNat=false then 10 else(rZ m v).2
def CP(m:dQ)(v:EvM):dQ:=BU m v.node (rZ m v).1
def Hg(m:dQ)(v:EvM):dQ := { m with inn:=aH m.inn (v.dst-1).toNat true }
def BX(m:dQ)(v:EvM):dQ := { m with left:=aH m.left (aL v) true }
theorem D5{R:Nat->Nat->Int}{j:Nat}{r:Nat->Int} : ∀ n x w b,Mp w b n x (aN (wO R) j (.agg (aA 54 (rv .i64 r))))->Mp w b n x (wO (aN R j r)):=fun n x w b h=>h.uS fun i _=>⟨rfl,by unfold wO aN; split <;> rfl⟩
end Rt
theorem Gd:Fx.wm Tryz.prog 113:=⟨by kernel_rfl,by kernel_rfl,by kernel_rfl⟩
theorem UN(m:dQ)(lp B:Nat)(w:World)(h:lI w B lp m)(v:EvM)(Y:bR v=true)(b:Nat)(D:b<6)(X:v.dst=(b:Int)+1)(i:Nat)(f:Nat)(l:aQ w i 1 (fun _=>(pt lp)) 37)(k:aQ w f 14 (bQ v) 32) :
 Calls Tryz.prog 183 #[(pt i),(pt f)] w fun e w'=>e = .returned (.tuple #[])/\lI w' B lp (Hg m v)/\jN (Fp m lp) w w':=by
 have x:=h.c;have C:=h.t;have z:=h.p;have A:=h.r;have y:=h.g;have u:=h.a;have d:=h.ne;have lC:=h.c.lt;have lT:=h.t.lt;have lP:=h.p.lt;have lR:=h.r.lt;have lG:=h.g.lt;have lA:=h.a.lt;have Zz:=l.lt;have Z0:=k.lt;have E:(v.dst-1).toNat=b:=by omega
 refine Kent Tryz.func183 9 ?_;refine jO [1,0,4,5,2,3,6,7] [4,0,4,0,0,0,0,3] [(7,0,[0]),(7,2,[2])] fun W j Z => ?_;have U:Stp w.heap.size w W:=Sb j;have⟨n,M,N,O,P,Q,R,S⟩:=mP j x C z A y u l k;have q:=(uO (Fp m lp) w).then U (.inr (uO (Fp m lp) w).size);refine aZ (pf f 10)<|Rs (pt lp) (aM R.aI 0) ?_;refine aZ (pt lp)<|aZ (pt lp)<|Rs (au v.dst) (aM S.aI 10) ?_;refine Rp (au b) (fun _=>gF)<|Rp (pf lp b) (fun _=>jC 6 1)<|gI<|jh n b aG fun V T o z1 => ?_;have G:aQ V lp 29 (vM { m with inn:=aH m.inn b true }) 106:=T.to (Uz D _);have F:=iw o n.ty;have⟨H,I,J,K,L⟩:=qL F M N O P Q;have s:=q.then o (.inl (.inl rfl));refine Ln (Rn (⟨.tuple #[],iM Tryz.results183,?_⟩));unfold Hg; rw[E];exact⟨rfl,{ c:=G,t:=H,p:=I,r:=J,g:=K,a:=L,ne:=⟨d.mp,d.mr,d.mg,d.ma,d.pr,d.pg,d.pa,d.rg,d.ra,d.ga⟩,lB:=h.lB,pB:=h.pB,rB:=h.rB,gB:=h.gB,aB:=h.aB },s⟩
theorem Qq(m:dQ)(lp B:Nat)(w:World)(h:lI w B lp m)(v:EvM)(H:bR v=true)(f:Nat)(d:Nat)(l:aQ w f 1 (fun _=>(pt lp)) 37)(k:aQ w d 14 (bQ v) 32) :
 Calls Tryz.prog 184 #[(pt f),(pt d)] w fun e w'=>e = .returned (.tuple #[])/\lI w' B lp (BX m v)/\jN (Fp m lp) w w':=by
 have y:=h.c;have D:=h.t;have A:=h.p;have C:=h.r;have z:=h.g;have x:=h.a;have b:=h.ne;have lC:=h.c.lt;have lT:=h.t.lt;have lP:=h.p.lt;have lR:=h.r.lt;have lG:=h.g.lt;have lA:=h.a.lt;have Zz:=l.lt;have Z0:=k.lt;obtain⟨a,E,Z⟩ : ∃ a:Nat,a<6/\v.o=(a:Int)+1:=fB (iJ H);have G:aL v=a:=by unfold aL; omega
 refine Kent Tryz.func184 9 ?_;refine jO [1,0,4,5,2,3,6,7] [4,0,4,0,0,0,0,3] [(7,0,[0]),(7,2,[2])] fun Y j aa => ?_;have W:Stp w.heap.size w Y:=Sb j;have⟨n,O,P,Q,R,S,T,U⟩:=mP j y D A C z x l k;have s:=(uO (Fp m lp) w).then W (.inr (uO (Fp m lp) w).size);refine aZ (pt d)<|Rs (pt lp) (aM T.aI 0) ?_;refine aZ (pt lp)<|aZ (pf lp 6)<|Rs (au v.o) (aM U.aI 0) ?_;refine Rp (au a) (fun _=>gF)<|Rp (pf lp (a+6)) (fun _=>jC 6 1)<|gI<|jh n (a+6) aG fun X V q z1 => ?_;have I:aQ X lp 29 (vM { m with left:=aH m.left a true }) 106:=V.to (UA (i:=a) E (by omega) _);have F:=iw q n.ty;have⟨J,K,L,M,N⟩:=qL F O P Q R S;have u:=s.then q (.inl (.inl rfl));refine Ln (Rn (⟨.tuple #[],iM Tryz.results184,?_⟩));unfold BX; rw[G];exact⟨rfl,{ c:=I,t:=J,p:=K,r:=L,g:=M,a:=N,ne:=⟨b.mp,b.mr,b.mg,b.ma,b.pr,b.pg,b.pa,b.rg,b.ra,b.ga⟩,lB:=h.lB,pB:=h.pB,rB:=h.rB,gB:=h.gB,aB:=h.aB },u⟩
theorem Qr(m:dQ)(lp B:Nat)(w:World)(h:lI w B lp m)(v:EvM)(hv:bR v=true)(P:m.T.has v.node=true)(r:Nat->Int)(k:Nat)(j:Nat)(f:Nat)(hr:aQ w k 54 (rv .i64 (r)) 59)(s:aQ w j 1 (fun _=>(pt lp)) 37)(o:aQ w f 14 (bQ v) 32) :
 Calls Tryz.prog 173 #[(pt k),(pt j),(pt f)] w fun e w'=>e = .returned (.tuple #[])/\lI w' B lp (BU m v.node r)/\jN (Fp m lp) w w':=by
 have J:=h.c;have O:=h.t;have M:=h.p;have N:=h.r;have K:=h.g;have I:=h.a;have b:=h.ne;have lC:=h.c.lt;have lT:=h.t.lt;have lP:=h.p.lt;have lR:=h.r.lt;have lG:=h.g.lt;have lA:=h.a.lt;have lgr:=hr.lt;have Zz:=s.lt;have Z0:=o.lt;obtain⟨u,q,i⟩:=gJ P;have H:m.idx v.node=u:=mK h.t.inv.inj q i;refine Kent Tryz.func173 10 ?_;refine jO [4,0,1,2,3,5,6,7] [4,0,0,4,0,4,4,3] [(7,0,[0]),(7,3,[3]),(7,5,[5]),(7,6,[6])] fun qA l iy => ?_;have s1:Stp w.heap.size w qA:=Sb l;have⟨y,Z,m3,z,m5,m6,A,C,D⟩:=Bq l J O M N K I hr s o;have F:=(uO (Fp m lp) w).then s1 (.inr (uO (Fp m lp) w).size);refine aZ (pf f 9)<|Rs (pt lp) (aM C.aI 0) ?_;refine aZ (pt lp)<|aZ (pf lp 20)<|Rs (.map (some m.rb)) (aM y.aI 20) ?_;refine Rs (aD v.node) (aM D.aI 9) ?_;refine Rs (.agg (aA 54 (rv .i64 (r)))) (gD A.aI 0) ?_;refine gI<|Fx.L.aaQ (by rfl) rfl rfl rfl rfl rfl z Tryz.underlying101 Tryz.underlying28 q i fun w1 Q E z1 => ?_;have d:=z.Bt E;have S:=y.dR d;have U:=Z.dR d (b.mr);have V:=m3.dR d (b.pr);have W:=m5.dR d (Ne.symm b.rg);have X:=m6.dR d (Ne.symm b.ra);have m16:=A.dR d;have m17:=C.dR d;have m18:=D.dR d;have G:=F.then E (.inl (.inr (.inr (.inr (.inl rfl)))));have Y:Mp w1 m.rb m.T.n m.T.x (wO (aN m.R u (r))):=D5 _ _ _ _ Q;refine Ln (Rn (⟨.tuple #[],iM Tryz.results173,?_⟩));unfold BU; rw[H];exact⟨rfl,{ c:=S,t:=U,p:=V,r:=Y,g:=W,a:=X,ne:=⟨b.mp,b.mr,b.mg,b.ma,b.pr,b.pg,b.pa,b.rg,b.ra,b.ga⟩,lB:=h.lB,pB:=h.pB,rB:=h.rB,gB:=h.gB,aB:=h.aB },G⟩
theorem UO(m:dQ)(lp B:Nat)(w:World)(h:lI w B lp m)(v:EvM)(hv:bR v=true)(P:m.T.has v.node=true)(r:Nat->Int)(k:Nat)(j:Nat)(f:Nat)(hr:aQ w k 54 (rv .i64 (r)) 59)(s:aQ w j 1 (fun _=>(pt lp)) 37)(o:aQ w f 14 (bQ v) 32) :
 Calls Tryz.prog 182 #[(pt k),(pt j),(pt f)] w fun e w'=>e = .returned (.tuple #[])/\lI w' B lp (BU m v.node r)/\jN (Fp m lp) w w':=by
 have J:=h.c;have O:=h.t;have M:=h.p;have N:=h.r;have K:=h.g;have I:=h.a;have b:=h.ne;have lC:=h.c.lt;have lT:=h.t.lt;have lP:=h.p.lt;have lR:=h.r.lt;have lG:=h.g.lt;have lA:=h.a.lt;have lgr:=hr.lt;have Zz:=s.lt;have Z0:=o.lt;obtain⟨u,q,i⟩:=gJ P;have H:m.idx v.node=u:=mK h.t.inv.inj q i;refine Kent Tryz.func182 10 ?_;refine jO [4,0,1,2,3,5,6,7] [4,0,0,4,0,4,4,3] [(7,0,[0]),(7,3,[3]),(7,5,[5]),(7,6,[6])] fun qA l iy => ?_;have s1:Stp w.heap.size w qA:=Sb l;have⟨y,Z,m3,z,m5,m6,A,C,D⟩:=Bq l J O M N K I hr s o;have F:=(uO (Fp m lp) w).then s1 (.inr (uO (Fp m lp) w).size);refine aZ (pf f 9)<|Rs (pt lp) (aM C.aI 0) ?_;refine aZ (pt lp)<|aZ (pf lp 20)<|Rs (.map (some m.rb)) (aM y.aI 20) ?_;refine Rs (aD v.node) (aM D.aI 9) ?_;refine Rs (.agg (aA 54 (rv .i64 (r)))) (gD A.aI 0) ?_;refine gI<|Fx.L.aaQ (by rfl) rfl rfl rfl rfl rfl z Tryz.underlying101 Tryz.underlying28 q i fun w1 Q E z1 => ?_;have d:=z.Bt E;have S:=y.dR d;have U:=Z.dR d (b.mr);have V:=m3.dR d (b.pr);have W:=m5.dR d (Ne.symm b.rg);have X:=m6.dR d (Ne.symm b.ra);have m16:=A.dR d;have m17:=C.dR d;have m18:=D.dR d;have G:=F.then E (.inl (.inr (.inr (.inr (.inl rfl)))));have Y:Mp w1 m.rb m.T.n m.T.x (wO (aN m.R u (r))):=D5 _ _ _ _ Q;refine Ln (Rn (⟨.tuple #[],iM Tryz.results182,?_⟩));unfold BU; rw[H];exact⟨rfl,{ c:=S,t:=U,p:=V,r:=Y,g:=W,a:=X,ne:=⟨b.mp,b.mr,b.mg,b.ma,b.pr,b.pg,b.pa,b.rg,b.ra,b.ga⟩,lB:=h.lB,pB:=h.pB,rB:=h.rB,gB:=h.gB,aB:=h.aB },G⟩
set_option maxRecDepth 20000
namespace Rt
theorem OD{v:EvM}(h:bR v=true)(c:v.kind=5) : ∃ b:Nat,b<6/\v.dst=(b:Int)+1:=by
 unfold bR at h;simp only[R_]at h;have a:=h.2;unfold dK at a;rw[b_ (by omega),b_ (by omega),b_ (by omega),b_ (by omega),d_ c]at a;unfold lQ at a;simp only[R_]at a;exact fB a.2.1
end Rt
theorem acP(x:Nat->Int)(i j n:Int)(w:World)(hi:1<=i/\i<=6)(a:1<=j/\j<=6) :
 Calls Tryz.prog 181 #[.agg (aA 54 (rv .i64 x)),au i,au j,au n] w fun e w'=>e = .returned (.tuple #[.agg (aA 54 (rv .i64 (dw x i j n).1)),au (dw x i j n).2])/\Below w.heap.size w w' :=
 Tx x i j n w (by omega) (by omega)
theorem acQ(x:Nat->Int)(i n:Int)(w:World)(hi:1<=i/\i<=6) :
 Calls Tryz.prog 176 #[.agg (aA 54 (rv .i64 x)),au i,au n] w fun e w'=>e = .returned (.tuple #[.agg (aA 54 (rv .i64 (bC x i n).1)),au (bC x i n).2])/\Below w.heap.size w w' :=
 Tp x i n w (by omega)
theorem acR(x:Nat->Int)(i n:Int)(w:World)(hi:1<=i/\i<=6) :
 Calls Tryz.prog 179 #[.agg (aA 54 (rv .i64 x)),au i,au n] w fun e w'=>e = .returned (.tuple #[.agg (aA 54 (rv .i64 (bF x i n).1)),au (bF x i n).2])/\Below w.heap.size w w' :=
 Tv x i n w (by omega)
theorem UQ(m:dQ)(lp B:Nat)(w:World)(h:lI w B lp m)(v:EvM)(N:bR v=true)(hkd:v.kind=2)(hRb : ∀ i,i<m.T.n -> ∀ p,p<54->0<=m.R i p/\m.R i p<=1125899906842624) :
 Calls Tryz.prog 163 #[(pt lp),.agg (aA 14 (bQ v))] w fun e w'=>Q5 w B lp m (uH m v) (jm m v) e w':=by
 have hC:=h.c;have hT:=h.t;have hP:=h.p;have hR:=h.r;have hG:=h.g;have hA:=h.a;have hN:=h.ne;have lC:=h.c.lt;have lT:=h.t.lt;have lP:=h.p.lt;have lR:=h.r.lt;have lG:=h.g.lt;have lA:=h.a.lt;obtain⟨a,ha,ho⟩ : ∃ a:Nat,a<6/\v.o=(a:Int)+1:=fB (iJ N);have M:aL v=a:=by unfold aL; omega
 refine Kent Tryz.func163 39 ?_;refine ay<|zO (pt lp) fun l w1 aa O s1 z1 => ?_;have⟨m2,m4,m5,m6,m7,W⟩:=ql s1.old hC hP hR hG hA (Below.refl w.heap.size w);have sw:=iB aa;have⟨nK,xC,tZ,Ba,zH⟩:=Dh aa hC.lt hP.lt hR.lt hG.lt hA.lt;have wu:=O.lt;refine rF fun f w2 ab m8 s2 z2 => ?_;have⟨m9,m11,m12,m13,m14,m15,b2⟩:=jI s2.old m2 m4 m5 m6 m7 O W;have sP:=jE ab W.size;have⟨OE,Fq,Fu,Ad,Fv,BA⟩:=Iz ab m2.lt m4.lt m5.lt m6.lt m7.lt O.lt;have Bl:=m8.lt;refine av (.nilFunc)<|av (au 0)<|aC<|Ws ?_;refine jO [4,0,1,2,3,5,6,7,8,9,10,11,12] [1,0,0,1,0,1,1,0,0,0,2,3,0] [(11,0,[0]),(11,3,[3]),(11,5,[5]),(11,6,[6]),(11,10,[10]),(12,10,[10]),(12,11,[11])] fun qA dS iy => ?_;have⟨E,m18,F,m20,m21,s,u,y⟩:=mP dS m9 m11 m12 m13 m14 m15 m8 b2;refine aZ (pf f 9)<|Rd (v:=(pt lp)) (by rfl) (by rfl) (uP _) (fun G j=>bB (x:=fun _=>(pt lp)) rfl rfl (by kernel_rfl) (s.aI.below j (by have:=s.lt; omega)) (i:=0) (by omega) (by omega) rfl) ?_;refine aZ (pt lp)<|aZ (pf lp 20)<|Rd (v := .map (some m.rb)) (by rfl) (by rfl) (uP _) (fun G j=>bB (x:=vM m) rfl rfl (by kernel_rfl) (E.aI.below j (by have:=E.lt; omega)) (i:=20) (by omega) (by omega) rfl) ?_;refine Rd (v:=aD v.node) (by rfl) (by rfl) (uP _) (fun G j=>bB (x:=bQ v) rfl rfl (by kernel_rfl) (u.aI.below j (by have:=u.lt; omega)) (i:=9) (by omega) (by omega) rfl) ?_
 rcases Fx.rH m.T.x m.T.n v.node with ⟨b,D,J⟩|jg
 ·refine Rd (v := .tuple #[.agg (aA 54 (rv .i64 (m.R b))),.bool true]) (by rfl) (by rfl) (uP _) (fun G j=>Fx.Eo (z := .agg (aA 54 (rv .i64 (fun _=>0)))) rfl rfl rfl (F.up j) Tryz.underlying101 Tryz.underlying28 (by kernel_rfl) D J rfl) ?_;refine aZ (.tuple #[.agg (aA 54 (rv .i64 (m.R b))),.bool true])<|aZ (.agg (aA 54 (rv .i64 (m.R b))))<|aZ aG<|Cw<|xD 54 (rv .i64 (fun _=>0)) fun d w3 ac P s4 z3 => ?_;have⟨mJ,m32,X⟩:=kI s4.old s u y;have Dz:=jE ac y.size;have⟨M9,Na,UR,UU,UW,acS,acT⟩:=Mg ac E.lt m18.lt F.lt m20.lt m21.lt s.lt u.lt;have LK:=P.lt;refine Ln ⟨s4.old,?_⟩;refine gI<|fI P 0 fun w4 qO s5 z4 => ?_;have nX:aQ w4 d 54 (rv .i64 (m.R b)) 59:=aW qO;have gM:=iw s5 P.ty;have⟨nY,mW⟩:=Br gM mJ m32;have b5:=s5.below X X.size (by omega);refine Ln<|aZ aG<|bP<|Ws<|ay<|av aG<|av aF<|aC<|aK<|Wk<|sN<|Ws<|Ws ?_;have K:m.idx v.node=b:=mK h.t.inv.inj D J;have q:m.T.has v.node=true:=jy D J;have q1:=hRb b D a (by omega);have q2:=kQ N (.inl hkd);refine jO [0,3,6,9,1,2,4,5,7,8,10,11] [0,4,0,0,0,4,0,4,0,0,0,3] [(11,1,[1]),(11,5,[5]),(11,7,[7])] fun Cx gu nJ => ?_;have⟨sJ,Q,S,Y⟩:=qj gu nY mW nX b5;refine aZ (pt f)<|aZ (pt d)<|aZ (pf f 11)<|aZ (pt d)<|Rs (au v.o) (aM Q.aI 0) ?_;refine Rp (au a) (fun _=>gF)<|Rp (pf d a) (fun _=>jC 6 1)<|Rs (au ((m.R b) a)) (aM S.aI a) ?_;refine Rs (au v.aT) (aM Q.aI 11) ?_;refine Rp (au (((m.R b) a)+v.aT)) (fun _=>dZ)<|Rp (pf d a) (fun _=>jC 6 1)<|gI<|jh S a (au (((m.R b) a)+v.aT)) fun w5 uo s7 z5 => ?_;have U:aQ w5 d 54 (rv .i64 (upd (m.R b) a (((m.R b) a)+v.aT))) 59:=uo.to (Fx.yC _ _ _ _);have jQ:=iw s7 S.ty;have⟨pY,V⟩:=Br jQ sJ Q;have H:=s7.below Y Y.size (by omega);refine Ln<|bP<|ay<|av (pt f)<|Lv (au v.o) (aM V.aI 0)<|Lv (au a) gF<|av (pt d)<|Lv (pf d a) (jC 6 1)<|Lv (au ((upd (m.R b) a (((m.R b) a)+v.aT)) a)) (aM U.aI a) ?_;by_cases A:140737488355328<((upd (m.R b) a (((m.R b) a)+v.aT)) a)
  ·refine Lv aG (lW A)<|aC<|aO<|ay<|av (.nilFunc)<|av (au 6)<|aC<|Wr<|sR<|aJ (.tuple #[.nilFunc,au 6]) ?_;have k:jm m v=6:=(by unfold jm; rw[b_ (by rw[q]; decide)]; exact d_ (by rw[K,M]; simpa [upd] using A));exact⟨⟨.nilFunc,0,#[],by rw[k],rfl,fun I=>L_ (k.symm.trans I) (by first|decide|omega|assumption)⟩,H⟩
  refine Lv aF (lX A)<|aC<|aK<|Wk<|sN<|ay<|Lv (.func (.func 173) #[] #[(pt d),(pt l),(pt f)]) (Fx.nD (us := []) (vs := [(pt d),(pt l),(pt f)]) rfl rfl rfl)<|av (.func (.func 173) #[] #[(pt d),(pt l),(pt f)])<|av (au 0)<|aC<|Wr<|aJ (.tuple #[.func (.func 173) #[] #[(pt d),(pt l),(pt f)],au 0]) ?_;have em:uH m v=BU m v.node (upd (m.R b) a (m.R b a+v.aT)):=by unfold uH; rw[K,M]
  rw[em];have k:jm m v=0:=by unfold jm; rw[b_ (by rw[q]; decide)]; exact b_ (by rw[K,M]; simpa [upd] using A)
  exact⟨⟨_,173,#[(pt d),(pt l),(pt f)],by rw[k],rfl,fun _=>⟨rfl,⟨_,_,Tryz.func173,rfl,rfl⟩,fun w2 C=>(Qr m lp B w2 ((h.up H).up C) v N q _ _ _ _ (U.dh (Sb C) (t_ U.lt)) (pY.dh (Sb C) (t_ pY.lt)) (V.dh (Sb C) (t_ V.lt))).mono fun _ _ L=>⟨L.1,L.2.1,L.2.2.mono fun _ q => .inl q⟩⟩⟩,H⟩
 refine Rd (v := .tuple #[.agg (aA 54 (rv .i64 (fun _=>0))),.bool false]) (by rfl) (by rfl) (uP _) (fun G j=>Fx.En (z := .agg (aA 54 (rv .i64 (fun _=>0)))) rfl rfl rfl (F.up j) Tryz.underlying101 Tryz.underlying28 (by kernel_rfl) jg) ?_;refine aZ (.tuple #[.agg (aA 54 (rv .i64 (fun _=>0))),.bool false])<|aZ (.agg (aA 54 (rv .i64 (fun _=>0))))<|aZ aF<|Cw<|xD 54 (rv .i64 (fun _=>0)) fun g4 w6 ad nL s8 z6 => ?_;have Z:=bG s8.old y;have WI:=jE ad y.size;have⟨aod,aoe,acU,acV,acW,acX,acY⟩:=Mg ad E.lt m18.lt F.lt m20.lt m21.lt s.lt u.lt;have Ug:=nL.lt;refine Ln ⟨s8.old,?_⟩;refine gI<|fI nL 0 fun w7 uK s9 z7 => ?_;have tN:aQ w7 g4 54 (rv .i64 (fun _=>0)) 59:=aW uK;have b9:=s9.below Z Z.size (by omega);refine Ln<|aZ aF<|bP<|Ws<|ay<|av aF<|av aG<|aC<|aO<|ay<|av (.nilFunc)<|av (au 9)<|aC<|Wr<|sR<|aJ (.tuple #[.nilFunc,au 9]) ?_;have k:jm m v=9:=by unfold jm; exact d_ (yG jg)
 exact⟨⟨.nilFunc,0,#[],by rw[k],rfl,fun I=>L_ (k.symm.trans I) (by first|decide|omega|assumption)⟩,b9⟩
theorem Yb(m:dQ)(lp B:Nat)(w:World)(h:lI w B lp m)(v:EvM)(Q:bR v=true)(hkd:v.kind=5) :
 Calls Tryz.prog 166 #[(pt lp),.agg (aA 14 (bQ v))] w fun e w'=>Q5 w B lp m (CP m v) (jX m v) e w':=by
 have hC:=h.c;have hT:=h.t;have hP:=h.p;have hR:=h.r;have hG:=h.g;have hA:=h.a;have hN:=h.ne;have lC:=h.c.lt;have lT:=h.t.lt;have lP:=h.p.lt;have lR:=h.r.lt;have lG:=h.g.lt;have lA:=h.a.lt;obtain⟨a,ha,ho⟩ : ∃ a:Nat,a<6/\v.o=(a:Int)+1:=fB (iJ Q);have hra:aL v=a:=by unfold aL; omega
 obtain⟨b,hb,hd⟩:=OD Q hkd;have N:(v.dst-1).toNat=b:=by omega
 refine Kent Tryz.func166 47 ?_;refine ay<|zO (pt lp) fun y w1 aa S s1 z1 => ?_;have⟨m2,m4,m5,m6,m7,V⟩:=ql s1.old hC hP hR hG hA (Below.refl w.heap.size w);have sw:=iB aa;have⟨nK,xC,tZ,Ba,zH⟩:=Dh aa hC.lt hP.lt hR.lt hG.lt hA.lt;have wu:=S.lt;refine rF fun f w2 ab m8 s2 z2 => ?_;have⟨m9,m11,m12,m13,m14,m15,b2⟩:=jI s2.old m2 m4 m5 m6 m7 S V;have sP:=jE ab V.size;have⟨OE,Fq,Fu,Ad,Fv,BA⟩:=Iz ab m2.lt m4.lt m5.lt m6.lt m7.lt S.lt;have Bl:=m8.lt;refine av (.nilFunc)<|av (au 0)<|aC<|Ws ?_;refine jO [4,0,1,2,3,5,6,7,8,9,10,11,12] [1,0,0,1,0,1,1,0,0,0,2,3,0] [(11,0,[0]),(11,3,[3]),(11,5,[5]),(11,6,[6]),(11,10,[10]),(12,10,[10]),(12,11,[11])] fun qA dS iy => ?_;have⟨A,m18,I,m20,m21,C,D,F⟩:=mP dS m9 m11 m12 m13 m14 m15 m8 b2;refine aZ (pf f 9)<|Rd (v:=(pt lp)) (by rfl) (by rfl) (uP _) (fun J k=>bB (x:=fun _=>(pt lp)) rfl rfl (by kernel_rfl) (C.aI.below k (by have:=C.lt; omega)) (i:=0) (by omega) (by omega) rfl) ?_;refine aZ (pt lp)<|aZ (pf lp 20)<|Rd (v := .map (some m.rb)) (by rfl) (by rfl) (uP _) (fun J k=>bB (x:=vM m) rfl rfl (by kernel_rfl) (A.aI.below k (by have:=A.lt; omega)) (i:=20) (by omega) (by omega) rfl) ?_;refine Rd (v:=aD v.node) (by rfl) (by rfl) (uP _) (fun J k=>bB (x:=bQ v) rfl rfl (by kernel_rfl) (D.aI.below k (by have:=D.lt; omega)) (i:=9) (by omega) (by omega) rfl) ?_
 rcases Fx.rH m.T.x m.T.n v.node with ⟨d,P,M⟩|jg
 ·refine Rd (v := .tuple #[.agg (aA 54 (rv .i64 (m.R d))),.bool true]) (by rfl) (by rfl) (uP _) (fun J k=>Fx.Eo (z := .agg (aA 54 (rv .i64 (fun _=>0)))) rfl rfl rfl (I.up k) Tryz.underlying101 Tryz.underlying28 (by kernel_rfl) P M rfl) ?_;refine aZ (.tuple #[.agg (aA 54 (rv .i64 (m.R d))),.bool true])<|aZ (.agg (aA 54 (rv .i64 (m.R d))))<|aZ aG<|Cw<|xD 54 (rv .i64 (fun _=>0)) fun l w3 ac U s4 z3 => ?_;have⟨nA,mJ,m32,W⟩:=qj s4.old A C D F;have Dz:=jE ac F.size;have⟨M9,Na,UR,UU,UW,acS,acT⟩:=Mg ac A.lt m18.lt I.lt m20.lt m21.lt C.lt D.lt;have LK:=U.lt;refine Ln ⟨s4.old,?_⟩;refine gI<|fI U 0 fun w4 qO s5 z4 => ?_;have nX:aQ w4 l 54 (rv .i64 (m.R d)) 59:=aW qO;have gM:=iw s5 U.ty;have⟨pW,nY,mW⟩:=Em gM nA mJ m32;have b5:=s5.below W W.size (by omega);refine Ln<|aZ aG<|bP<|Ws<|Wb<|ay<|av aG<|av aF<|av aF<|aC<|aK<|Ws ?_;have ex:m.idx v.node=d:=mK h.t.inv.inj P M;have s:m.T.has v.node=true:=jy P M;refine jO [1,0,4,5,2,3,6,7,8,9] [4,0,4,0,0,0,0,4,0,0] [] fun Cx gu nJ => ?_;have⟨nC,sJ,E,uV,X⟩:=sH gu pW nY mW nX b5;refine aZ (pf f 10)<|Rs (pt lp) (aM sJ.aI 0) ?_;refine aZ (pt lp)<|aZ (pt lp)<|Rs (au v.dst) (aM E.aI 10) ?_;refine Rp (au b) (fun _=>gF)<|Rp (pf lp b) (fun _=>jC 6 1) ?_;by_cases q:(m.inn b)=true
  ·refine Rs aG (aM nC.aI b ((BS (by omega)).trans (K_ Value.bool q))) ?_;refine aZ aF<|aZ aF<|bP<|aK<|Wk<|bM<|sN<|ay<|Lv (.agg (aA 54 (rv .i64 (m.R d)))) (gD uV.aI 0)<|av (pt f)<|Lv (au v.o) (aM E.aI 0)<|av (pf f 10)<|Lv (au v.dst) (aM E.aI 10)<|av (pf f 11)<|Lv (au v.aT) (aM E.aI 11)<|dX (acP (m.R d) v.o v.dst v.aT _ (by omega) (by omega)) _ rfl ?_;intro w5 hb1;have⟨sO,xg,pY,Y⟩:=qj hb1 sJ E uV X;refine av (.tuple #[.agg (aA 54 (rv .i64 ((dw (m.R d) v.o v.dst v.aT).1))),au ((dw (m.R d) v.o v.dst v.aT).2)])<|av (.agg (aA 54 (rv .i64 ((dw (m.R d) v.o v.dst v.aT).1))))<|av (au ((dw (m.R d) v.o v.dst v.aT).2))<|fI pY 0 fun w6 uI s8 z5 => ?_;have nL:aQ w6 l 54 (rv .i64 ((dw (m.R d) v.o v.dst v.aT).1)) 59:=aW uI;have jQ:=iw s8 pY.ty;have⟨rM,tL⟩:=Br jQ sO xg;have K:=s8.below Y Y.size (by omega);refine av (au ((dw (m.R d) v.o v.dst v.aT).2))<|aC<|Ws<|ay<|av (au ((dw (m.R d) v.o v.dst v.aT).2)) ?_;by_cases L:((dw (m.R d) v.o v.dst v.aT).2)=0
   ·refine Lv aF (kr L)<|aC<|aK<|Wk<|sN<|ay<|Lv (.func (.func 182) #[] #[(pt l),(pt y),(pt f)]) (Fx.nD (us := []) (vs := [(pt l),(pt y),(pt f)]) rfl rfl rfl)<|av (.func (.func 182) #[] #[(pt l),(pt y),(pt f)])<|av (au 0)<|aC<|Wr<|aJ (.tuple #[.func (.func 182) #[] #[(pt l),(pt y),(pt f)],au 0]) ?_;have G:rZ m v=dw (m.R d) v.o v.dst v.aT:=(by unfold rZ; rw[ex]);show Q5 w B lp m (BU m v.node (rZ m v).1) _ _ _;rw[G];have j:jX m v=0:=(by unfold jX; rw[b_ (by rw[s]; decide),b_ (by rw[N,q]; decide),G]; exact L);exact⟨⟨_,182,#[(pt l),(pt y),(pt f)],by rw[j],rfl,fun _=>⟨rfl,⟨_,_,Tryz.func182,rfl,rfl⟩,fun w2 H=>(UO m lp B w2 ((h.up K).up H) v Q s _ _ _ _ (nL.dh (Sb H) (t_ nL.lt)) (rM.dh (Sb H) (t_ rM.lt)) (tL.dh (Sb H) (t_ tL.lt))).mono fun _ _ O=>⟨O.1,O.2.1,O.2.2.mono fun _ s => .inl s⟩⟩⟩,K⟩
   refine Lv aG (nH L)<|aC<|aO<|ay<|av (au ((dw (m.R d) v.o v.dst v.aT).2))<|av (.nilFunc)<|av (au ((dw (m.R d) v.o v.dst v.aT).2))<|aC<|Wr<|sR<|aJ (.tuple #[.nilFunc,au ((dw (m.R d) v.o v.dst v.aT).2)]) ?_;have G:rZ m v=dw (m.R d) v.o v.dst v.aT:=(by unfold rZ; rw[ex]);have j:jX m v=(dw (m.R d) v.o v.dst v.aT).2:=(by unfold jX; rw[b_ (by rw[s]; decide),b_ (by rw[N,q]; decide),G]);exact⟨⟨.nilFunc,0,#[],by rw[j],rfl,fun u=>L_ (j.symm.trans u) (by first|decide|omega|assumption)⟩,K⟩
  rw[S_]at q;refine Rs aF (aM nC.aI b ((BS (by omega)).trans (K_ Value.bool q))) ?_;refine aZ aG<|aZ aG<|bP<|aO<|ay<|av (.nilFunc)<|av (au 10)<|aC<|Wr<|bL<|sR<|aJ (.tuple #[.nilFunc,au 10]) ?_;have j:jX m v=10:=by unfold jX; rw[b_ (by rw[s]; decide)]; exact d_ (by rw[N]; exact q)
  exact⟨⟨.nilFunc,0,#[],by rw[j],rfl,fun u=>L_ (j.symm.trans u) (by first|decide|omega|assumption)⟩,X⟩
 refine Rd (v := .tuple #[.agg (aA 54 (rv .i64 (fun _=>0))),.bool false]) (by rfl) (by rfl) (uP _) (fun J k=>Fx.En (z := .agg (aA 54 (rv .i64 (fun _=>0)))) rfl rfl rfl (I.up k) Tryz.underlying101 Tryz.underlying28 (by kernel_rfl) jg) ?_;refine aZ (.tuple #[.agg (aA 54 (rv .i64 (fun _=>0))),.bool false])<|aZ (.agg (aA 54 (rv .i64 (fun _=>0))))<|aZ aF<|Cw<|xD 54 (rv .i64 (fun _=>0)) fun g4 w7 ad uK s9 z6 => ?_;have Z:=bG s9.old F;have WI:=jE ad F.size;have⟨acZ,aof,ada,aog,adb,ade,adf⟩:=Mg ad A.lt m18.lt I.lt m20.lt m21.lt C.lt D.lt;have Ug:=uK.lt;refine Ln ⟨s9.old,?_⟩;refine gI<|fI uK 0 fun w8 uL s10 z7 => ?_;have tQ:aQ w8 g4 54 (rv .i64 (fun _=>0)) 59:=aW uL;have b10:=s10.below Z Z.size (by omega);refine Ln<|aZ aF<|bP<|Ws<|Wb<|ay<|av aF<|av aG<|av aG<|aC<|aO<|ay<|av (.nilFunc)<|av (au 9)<|aC<|Wr<|bL<|sR<|aJ (.tuple #[.nilFunc,au 9]) ?_;have j:jX m v=9:=by unfold jX; exact d_ (yG jg)
 exact⟨⟨.nilFunc,0,#[],by rw[j],rfl,fun u=>L_ (j.symm.trans u) (by first|decide|omega|assumption)⟩,b10⟩
theorem Yc(m:dQ)(lp B:Nat)(w:World)(h:lI w B lp m)(v:EvM)(I:bR v=true)(b:Nat)(F:b<6)(G:v.dst=(b:Int)+1) :
 Calls Tryz.prog 167 #[(pt lp),.agg (aA 14 (bQ v))] w fun e w'=>Q5 w B lp m (Hg m v) (0) e w':=by
 have x:=h.c;have R:=h.t;have z:=h.p;have A:=h.r;have y:=h.g;have u:=h.a;have Q:=h.ne;have T:=h.c.lt;have X:=h.t.lt;have V:=h.p.lt;have W:=h.r.lt;have U:=h.g.lt;have S:=h.a.lt;refine Kent Tryz.func167 7 ?_;refine ay<|zO (pt lp) fun d w1 q k O z1 => ?_;have⟨J,K,L,M,N,n⟩:=ql O.old x z A y u (Below.refl w.heap.size w);have Y:=iB q;have⟨aa,ab,ac,ad,ae⟩:=Dh q x.lt z.lt A.lt y.lt u.lt;have al:=k.lt;refine rF fun f D s l P z2 => ?_;have⟨C,o⟩:=fF P.old k n;have Z:=jE s n.size;have⟨ak,af,ag,ah,ai,aj⟩:=Iz s J.lt K.lt L.lt M.lt N.lt k.lt;have am:=l.lt;refine av (.nilFunc)<|av (au 0)<|aC<|ay<|Lv (.func (.func 183) #[] #[(pt d),(pt f)]) (Fx.nD (us := []) (vs := [(pt d),(pt f)]) rfl rfl rfl)<|av (.func (.func 183) #[] #[(pt d),(pt f)])<|av (au 0)<|aC<|Wr<|aJ (.tuple #[.func (.func 183) #[] #[(pt d),(pt f)],au 0]) ?_;have E:(0:Int)=0:=rfl;exact⟨⟨_,183,#[(pt d),(pt f)],by rw[E],rfl,fun _=>⟨rfl,⟨_,_,Tryz.func183,rfl,rfl⟩,fun D i=>(UN m lp B D ((h.up o).up i) v I b F G _ _ (C.dh (Sb i) (t_ C.lt)) (l.dh (Sb i) (t_ l.lt))).mono fun _ _ j=>⟨j.1,j.2.1,j.2.2.mono fun _ H => .inl H⟩⟩⟩,o⟩
theorem UY(m:dQ)(lp B:Nat)(w:World)(h:lI w B lp m)(v:EvM)(F:bR v=true) :
 Calls Tryz.prog 168 #[(pt lp),.agg (aA 14 (bQ v))] w fun e w'=>Q5 w B lp m (BX m v) (0) e w':=by
 have u:=h.c;have O:=h.t;have y:=h.p;have z:=h.r;have x:=h.g;have s:=h.a;have N:=h.ne;have Q:=h.c.lt;have U:=h.t.lt;have S:=h.p.lt;have T:=h.r.lt;have R:=h.g.lt;have P:=h.a.lt;refine Kent Tryz.func168 7 ?_;refine ay<|zO (pt lp) fun b w1 o j L z1 => ?_;have⟨G,H,I,J,K,l⟩:=ql L.old u y z x s (Below.refl w.heap.size w);have V:=iB o;have⟨X,Y,Z,aa,ab⟩:=Dh o u.lt y.lt z.lt x.lt s.lt;have ai:=j.lt;refine rF fun d C q k M z2 => ?_;have⟨A,n⟩:=fF M.old j l;have W:=jE q l.size;have⟨ah,ac,ad,ae,af,ag⟩:=Iz q G.lt H.lt I.lt J.lt K.lt j.lt;have aj:=k.lt;refine av (.nilFunc)<|av (au 0)<|aC<|ay<|Lv (.func (.func 184) #[] #[(pt b),(pt d)]) (Fx.nD (us := []) (vs := [(pt b),(pt d)]) rfl rfl rfl)<|av (.func (.func 184) #[] #[(pt b),(pt d)])<|av (au 0)<|aC<|Wr<|aJ (.tuple #[.func (.func 184) #[] #[(pt b),(pt d)],au 0]) ?_;have D:(0:Int)=0:=rfl;exact⟨⟨_,184,#[(pt b),(pt d)],by rw[D],rfl,fun _=>⟨rfl,⟨_,_,Tryz.func184,rfl,rfl⟩,fun C f=>(Qq m lp B C ((h.up n).up f) v F _ _ (A.dh (Sb f) (t_ A.lt)) (k.dh (Sb f) (t_ k.lt))).mono fun _ _ i=>⟨i.1,i.2.1,i.2.2.mono fun _ E => .inl E⟩⟩⟩,n⟩
section
open Rt
set_option maxRecDepth 10000
theorem aoh(o q:Nat)(w:World)(a:1<=o/\o<=6)(c:1<=q/\q<1099511627776) :
 Calls Tryz.prog 169 #[au (o:Int),aD (q:Int)] w fun e w'=>e = .returned (aD (1099511627776*(o:Int)+(q:Int)))/\w'=w:=by
 refine Kent Tryz.func169 24 ?_;refine ay<|av (aD 0)<|aC<|Ws<|ay<|av (au o)<|Lv aF Ei<|av aF<|av (au o)<|Lv aF xR<|av aF<|av aF<|av (aD q)<|Lv aF Ei<|av aF<|av aF<|av (aD q)<|Lv aF JM<|av aF<|aC<|aK<|Wk<|sN<|ay<|av (au o)<|Lv (aD o) (dD rfl rfl (by kernel_rfl) Tryz.underlying28 (jH (by omega) rfl))<|Lv (aD (1099511627776*(o:Int))) (Fx.JJ (b:=40) rfl rfl rfl (by decide) (jH (by omega) (by omega)))<|av (aD q)<|Lv (aD (1099511627776*(o:Int)+(q:Int))) (Fx.abH rfl rfl rfl (by omega) (by omega))<|av (aD (1099511627776*(o:Int)+(q:Int)))<|aC<|Wr<|aJ (aD (1099511627776*(o:Int)+(q:Int))) ?_;exact⟨rfl,rfl⟩
end
end Go.Proofs.YtahbiajdgealnaaGreatDoor
namespace Go.Proofs.YtahbiajdgealnaaGreatDoor
open Go.RowKit Go
set_option linter.unusedVariables false
namespace Rt
theorem BZ : ∀(n m:Nat) (f:Nat->Nat),(∀ i,i<m->f i<n)->(∀ i j,i<m->j<m->f i=f j->i=j)->m<=n
 | 0,m,f,h1,_=>by
   rcases Nat.eq_zero_or_pos m with h|h
   ·omega
   ·have:=h1 0 h; omega
 | n+1,m,f,h1,h2=>by
   rcases Nat.eq_zero_or_pos m with h|h
   ·omega
   by_cases d : ∃ a,a<m/\f a=n
   ·obtain⟨a,b,e⟩:=d;have:=BZ n (m-1) (fun j=>f (if j=a then m-1 else j)) (fun j o=>by
     have g:=h1 (if j=a then m-1 else j) (by split <;> omega)
     have k:f (if j=a then m-1 else j)≠n:=fun c=>by
      have:=h2 _ a (by split <;> omega) b (c.trans e.symm)
      split at this <;> omega
     show f _<n;omega) (fun i j l p c=>by
     have:=h2 _ _ (by split <;> omega) (by split <;> omega) c
     split at this <;> split at this <;> omega)
    omega
   ·have:=BZ n m f (fun i b=>by
     have:=h1 i b;have:f i≠n:=fun e=>d ⟨i,b,e⟩;omega) h2
    omega
section
variable {T U:dL} {id pa k:Int} {i:Nat}
theorem dL.D6(h:T.err id pa=0):T.add id pa=T.put id pa:=d_ h
theorem dL.adg(h : ¬ T.err id pa=0):T.add id pa=T:=b_ h
theorem dL.zK(hi:i<T.n):T.has (T.x i)=true:=jy hi rfl
theorem dL.KS(h:T.ok)(hi:i<T.n):T.par (T.x i)=T.p i:=Au h.inj hi rfl
theorem dL.step(h:T.ok)(a:T.has k=true):T.path k=k::T.path (T.par k):=by
 have b:jf T.x T.p T.n 3 (T.par k):=h.stop k a;show(if dP T.x T.n k=true then k::ji T.x T.p T.n 3 (T.par k)else [])=_;rw[d_ (show dP T.x T.n k=true from a),<- (IC b (show 3<=4 by omega)).1]; rfl
theorem dL.adh(h:T.ok)(hi:i<T.n):T.path (T.x i)=T.x i::T.path (T.p i):=by rw[dL.step h (dL.zK hi),dL.KS h hi]
theorem dL.yQ:(T.path k).length<=4:=yH
theorem dL.adi(h:T.ok):T.path 0 = []:=Bj.afs h 4
theorem uZ.zero(T:dL):uZ dL.zero T:=⟨fun _ h=>(nomatch h),fun _ h=>(nomatch h)⟩
theorem uZ.path(b:T.ok)(a:U.ok)(h:uZ U T) : ∀(d:Nat) (k:Int),(k=0\/U.has k=true)->ji U.x U.p U.n d k=ji T.x T.p T.n d k
 | 0,_,_=>rfl
 | d+1,k,hk=>by
   rcases hk with rfl|hk
   ·rw[kJ (Bj.Xe a),kJ (Bj.Xe b)]
   ·unfold ji;have c:dP U.x U.n k=true:=hk;have e:dP T.x T.n k=true:=h.has k hk;have f:gZ U.x U.p U.n k=gZ T.x T.p T.n k:=h.par k hk;rw[d_ c,d_ e,<- f,uZ.path b a h d];exact Bj.up a hk
theorem uZ.lt(s:U.ok)(h:uZ U T)(hi:i<T.n)(m:U.has (T.x i)=false):U.n<T.n:=by
 have p : ∀ j,∃ q,j<U.n->q<T.n/\T.x q=U.x j:=fun j=>by
  by_cases g:j<U.n
  ·obtain⟨q,c,d⟩:=gJ (h.has _ (dL.zK g));exact⟨q,fun _=>⟨c,d⟩⟩
  ·exact⟨0,fun h=>L_ h g⟩
 obtain⟨f,k⟩:=Classical.axiomOfChoice p;have:=BZ T.n (U.n+1) (fun j=>if j=U.n then i else f j) (fun j g=>by
  show(if j=U.n then i else f j)<T.n;split
  ·exact hi
  ·exact(k j (by omega)).1) (fun a b t u e=>by
  have o : ∀ j,j<U.n->f j≠i:=fun j g e=>by
   have c:=(k j g).2;rw[e]at c;rw[c,dL.zK g]at m; cases m
  have e:(if a=U.n then i else f a)=(if b=U.n then i else f b):=e;by_cases c:a=U.n
  ·by_cases d:b=U.n
   ·omega
   ·rw[d_ c,b_ d]at e; exact L_ e.symm (o b (by omega))
  ·by_cases d:b=U.n
   ·rw[b_ c,d_ d]at e; exact L_ e (o a (by omega))
   ·rw[b_ c,b_ d]at e;have l:=(k a (by omega)).2;have r:=(k b (by omega)).2;rw[e]at l;exact s.inj a b (by omega) (by omega) (l.symm.trans r))
 omega
theorem uZ.add(d:T.ok)(g:U.ok)(h:uZ U T)(hi:i<T.n)(j:T.p i=0\/U.has (T.p i)=true) :
 uZ (U.add (T.x i) (T.p i)) T/\(U.add (T.x i) (T.p i)).has (T.x i)=true /\ ∀ k,U.has k=true->(U.add (T.x i) (T.p i)).has k=true:=by
 cases hh:U.has (T.x i)with
 | true =>
   have e:U.add (T.x i) (T.p i)=U:=by
    refine dL.adg fun m => ?_;have:=(Er m).2.1;rw[show dP U.x U.n (T.x i)=U.has (T.x i)from rfl,hh]at this; cases this
   rw[e]; exact⟨h,hh,fun _ h=>h⟩
 | false =>
   have s:=(d.pos i hi).1;have q:=uZ.lt g h hi hh;have r:=d.small;have l:U.err (T.x i) (T.p i)=0:=by
    unfold dL.err qM;rw[b_ (by omega),b_ (by rw[show dP U.x U.n (T.x i)=U.has (T.x i)from rfl,hh]; decide),b_,b_]
    ·rintro (b|b)
     ·omega
     ·have f:=uZ.path d g h 4 (T.p i) j;rw[f]at b;have c:=dL.adh d hi;have o:(T.path (T.x i)).length<=4:=dL.yQ;rw[c,List.length_cons]at o;have b:4<=(T.path (T.p i)).length:=b;omega
    ·rintro ⟨b,f⟩
     rcases j with c|c
     ·exact b c
     ·rw[show dP U.x U.n (T.p i)=U.has (T.p i)from rfl,c]at f; cases f
   rw[dL.D6 l];refine⟨⟨fun k a => ?_,fun k a => ?_⟩,?_,fun k a => ?_⟩
   ·rw[dL.jl,Bool.or_eq_true]at a
    rcases a with a|a
    ·exact h.has k a
    ·rw[<- h_ a]; exact dL.zK hi
   ·rw[dL.jl,Bool.or_eq_true]at a;rw[dL.tC];split
    ·rename_i e; subst e; exact(dL.KS d hi).symm
    ·rename_i e
     rcases a with a|a
     ·exact h.par k a
     ·exact L_ (h_ a) e
   ·rw[dL.jl,f_ rfl,Bool.or_true]
   ·rw[dL.jl,a,Bool.true_or]
structure KT(T U:dL)(r k:Nat):Prop where
 sub:uZ U T
 fst : ∀ j,j<r->j<T.n->U.has (T.x j)=true
 nxt:k<=r->r<T.n->U.has (T.x r)=true
theorem KT.start(T:dL) : ∀ {r:Nat},r=0->KT T dL.zero r T.n:=fun e=>⟨uZ.zero T,fun j h=>by omega,fun a b=>by omega⟩
theorem KT.add{r k:Nat}(f:T.ok)(g:U.ok)(h:KT T U r k)(m:0<k)(o:k<=T.n)(l:T.p (k-1)=0\/U.has (T.p (k-1))=true):KT T (U.add (T.x (k-1)) (T.p (k-1))) r (k-1):=by
 obtain⟨c,d,b⟩:=uZ.add f g h.sub (show k-1<T.n by omega) l;refine⟨c,fun j i a=>b _ (h.fst j i a),fun q a => ?_⟩;by_cases e:k<=r
 ·exact b _ (h.nxt e a)
 obtain rfl:r=k-1:=by omega
 exact d
theorem KT.skip{r k:Nat}(b:T.ok)(h:KT T U r k)(f:0<k)(g:k<=T.n)(d : ¬ T.p (k-1)=0)(a:U.has (T.p (k-1))=false):KT T U r (k-1):=by
 refine⟨h.sub,h.fst,fun j c => ?_⟩;by_cases e:k<=r
 ·exact h.nxt e c
 obtain rfl:r=k-1:=by omega
 rcases b.par (k-1) (by omega)with h1|⟨i,hi,h1⟩
 ·exact L_ h1 d
 rw[<- h1,h.fst i hi (by omega)]at a; cases a
theorem KT.next{r:Nat}(h:KT T U r 0):KT T U (r+1) T.n :=
 ⟨h.sub,fun j d a=>by
  by_cases e:j=r
  ·subst e; exact h.nxt (J_ _) a
  ·exact h.fst j (by omega) a,fun b c=>by omega⟩
theorem KT.all{r k:Nat}(h:KT T U r k)(hr:T.n<=r) : ∀ k,T.has k=true->U.has k=true:=fun k b=>by
 obtain⟨j,a,rfl⟩:=gJ b;exact h.fst j (by omega) a
theorem KT.path{r k:Nat}(h:KT T U r k)(hr:T.n<=r)(q:Int):U.path q=T.path q:=h.sub.same (h.all hr) q
theorem KT.list{r k:Nat}(h:KT T U r k)(hr:T.n<=r){l m:List Int}(a:l.Pairwise (· < ·) /\ ∀ k,k∈l<->T.has k=true)(b:m.Pairwise (· < ·) /\ ∀ k,k∈m<->U.has k=true):m=l :=
 uT b.1 a.1 fun k=>(b.2 k).trans (Iff.trans ⟨h.sub.has k,h.all hr k⟩ (a.2 k).symm)
end
def Q6(l:List Int)(v:Int)(n:Nat)(b:Bool):Prop:=b=true <-> ∃ j,j<n/\j<l.length/\l.getD j 0=v
theorem Q6.zero(l:List Int)(v:Int):Q6 l v 0 false:=⟨fun h=>(nomatch h),fun⟨j,h,_⟩=>L_ h (u_ _)⟩
theorem Q6.keep{l:List Int}{v:Int}{n:Nat}(h:Q6 l v n true):Q6 l v (n+1) true:=⟨fun _=>by obtain⟨j,b,a⟩:=h.1 rfl; exact⟨j,by omega,a⟩,fun _=>rfl⟩
theorem Q6.yes{l:List Int}{v:Int}{n:Nat}(a:n<l.length)(e:l.getD n 0=v):Q6 l v (n+1) true:=⟨fun _=>⟨n,by omega,a,e⟩,fun _=>rfl⟩
theorem Q6.no{l:List Int}{v:Int}{n:Nat}(h:Q6 l v n false)(e : ¬ l.getD n 0=v):Q6 l v (n+1) false:=⟨fun h=>(nomatch h),fun⟨j,d,c,a⟩=>by
 by_cases b:j=n
 ·subst b; exact L_ a e
 ·exact h.2 ⟨j,by omega,c,a⟩⟩
theorem Q6.mem{l:List Int}{v:Int}{n:Nat}{b:Bool}(h:Q6 l v n b)(i:l.length<=n):b=true<->v∈l:=by
 constructor
 ·intro f;obtain⟨j,_,c,d⟩:=h.1 f;exact uU c d
 intro g;obtain⟨j,a,e⟩:=List.getElem_of_mem g;refine h.2 ⟨j,by omega,a,?_⟩;rw[r_,o_ a]; exact e
end Rt
end Go.Proofs.YtahbiajdgealnaaGreatDoor
namespace Go.Proofs.YtahbiajdgealnaaGreatDoor
open Go.RowKit Go
set_option linter.unusedVariables false
namespace Rt
def Yd(x:Nat->Int)(v:Int)(j aq:Nat):Prop:=(aq=0 /\ ∀ q,q<j->x q≠v)\/(0<aq/\aq<=j/\x (aq-1)=v)
section
variable {x:Nat->Int} {v:Int} {j aq:Nat}
theorem Yd.zero:Yd x v 0 0 := .inl ⟨rfl,fun _ h=>L_ h (u_ _)⟩
theorem Yd.yes(e:x j=v):Yd x v (j+1) (j+1) := .inr ⟨by omega,by omega,e⟩
theorem Yd.no(h:Yd x v j aq)(e : ¬ x j=v):Yd x v (j+1) aq:=by
 rcases h with ⟨a,b⟩|⟨a,b,h3⟩
 ·refine .inl ⟨a,fun q d => ?_⟩;by_cases c:q=j
  ·subst c; exact e
  exact b q (by omega)
 exact .inr ⟨a,by omega,h3⟩
end
section
variable {x p:Nat->Int} {n:Nat}
theorem rz : ∀ {d:Nat} {v:Int},jf x p n d v -> ∀ k,k<(ji x p n d v).length->dP x n ((ji x p n d v).getD k 0)=true /\
 (k+1<(ji x p n d v).length->(ji x p n d v).getD (k+1) 0=gZ x p n ((ji x p n d v).getD k 0))/\(k+1=(ji x p n d v).length->dP x n (gZ x p n ((ji x p n d v).getD k 0))=false)
 | 0,v,h,k,hk=>L_ hk (u_ _)
 | d+1,v,h,k,hk=>by
   cases hv:dP x n v with
   | false=>rw[kJ hv]at hk; exact L_ hk (u_ _)
   | true =>
     have e:ji x p n (d+1) v=v::ji x p n d (gZ x p n v):=(by show(if _ then _ else _)=_; rw[d_ hv]);have c:jf x p n d (gZ x p n v):=h hv;have i := @rz d (gZ x p n v) c;have g:0<(ji x p n d (gZ x p n v)).length->(ji x p n d (gZ x p n v)).getD 0 0=gZ x p n v:=fun a=>by
      cases d with
      | zero=>exact L_ a (u_ _)
      | succ d =>
        unfold ji at a ⊢;split at a
        ·rename_i hq; rw[d_ hq]; rfl
        ·exact L_ a (u_ _)
     rw[e]at hk ⊢;rw[List.length_cons]at hk ⊢
     cases k with
     | zero =>
       rw[List.getD_cons_zero,List.getD_cons_succ];refine⟨hv,fun b=>g (by omega),fun b => ?_⟩
       cases hq:dP x n (gZ x p n v)with
       | false=>rfl
       | true =>
         obtain⟨j,_,_,f⟩:=Gv c hq;rw[f,List.length_cons]at b; omega
     | succ k =>
       rw[List.getD_cons_succ,List.getD_cons_succ];have:=i k (by omega);exact⟨this.1,fun b=>this.2.1 (by omega),fun b=>this.2.2 (by omega)⟩
end
section
variable {T:dL} {id pa k v:Int} {i j aq:Nat} {pl:List Int}
theorem Yd.get(h:Yd T.x v T.n aq)(d:T.has v=true):0<aq/\aq-1<T.n/\T.x (aq-1)=v:=by
 rcases h with ⟨a,b⟩|⟨a,b,h3⟩
 ·obtain⟨q,c,e⟩:=gJ d;exact L_ e (b q c)
 exact⟨a,by omega,h3⟩
theorem dL.Nb(h:T.ok)(e:pl=T.path v){q:Nat}(a:q<pl.length):T.has (pl.getD q 0)=true:=by
 subst e; exact(rz (h.stop v) q a).1
theorem dL.Ye(h:T.ok)(e:pl=T.path v){q:Nat}(b:q+1<pl.length)(ha:aq-1<T.n)(hx:T.x (aq-1)=pl.getD q 0):T.p (aq-1)=pl.getD (q+1) 0:=by
 subst e;have:=(rz (h.stop v) q (Nat.lt_of_succ_lt b)).2.1 b;have a:=dL.KS h ha;rw[hx]at a;exact a.symm.trans this.symm
theorem dL.Yf(h:T.ok)(e:pl=T.path v){q:Nat}(c:q+1=pl.length)(ha:aq-1<T.n)(hx:T.x (aq-1)=pl.getD q 0):T.p (aq-1)=0:=by
 subst e;have a:=(rz (h.stop v) q (Nat.lt_of_succ_le (Nat.le_of_eq c))).2.2 c;have b:=dL.KS h ha;rw[hx]at b;rw[show gZ T.x T.p T.n ((ji T.x T.p T.n 4 v).getD q 0)=T.p (aq-1)from b]at a
 rcases h.par _ ha with h4|⟨i,hi,h4⟩
 ·exact h4
 rw[<- h4,jy (by omega) rfl]at a; cases a
theorem dL.adj(d : ¬ id=0)(e:pa=0\/T.has pa=true):T.err id pa=if T.has id=true then 14 else if 32<=T.n\/4<=(T.path pa).length then 6 else 0:=by
 show qM T.x T.p T.n id pa=_;unfold qM;rw[b_ d];have c : ¬ (¬ pa=0/\dP T.x T.n pa=false):=by
  rintro ⟨b,a⟩
  rcases e with h3|h3
  ·exact b h3
  ·rw[show dP T.x T.n pa=T.has pa from rfl,h3]at a; cases a
 rw[b_ c]; rfl
end
def Z4(v1 v2:Value):Prop := ∀ g,v1.ownBlock=some g->v2.ownBlock≠some g
section
variable {w w':World} {v v2:Value} {B s n g m c:Nat} {E:TypeId} {x:Nat->Value}
theorem Z4.symm(h:Z4 v v2):Z4 v2 v:=fun g a b=>h g b a
theorem Z4.nil:Z4 (.slice none 0 0) v:=fun g h=>nomatch h
theorem Z4.app(h:Z4 v v2)(b:Fx.Own w B E s v n x)(d:v2.ownBlock=some g\/g=w.heap.size):Z4 v (bK g m c):=fun q a e=>by
 have e:some g=some q:=e;obtain rfl:=B_ e
 rcases d with h1|h1
 ·exact h _ a h1
 ·have:=(b.ge a).2; omega
end
end Rt
end Go.Proofs.YtahbiajdgealnaaGreatDoor
namespace Go.Proofs.YtahbiajdgealnaaGreatDoor
open Go.RowKit Go
set_option linter.unusedVariables false
namespace Rt
def FY(n:Nat):Nat->List Nat
 | 0 => []
 | j+1=>FY n j ++ [n-1-j]
theorem OG(n:Nat) : ∀ j,(FY n j).length=j
 | 0=>rfl
 | j+1=>by unfold FY; rw[D_,OG n j]; rfl
def LQ(T:dL)(l:List Int)(a:List Nat):dL:=a.foldl (fun U x=>U.add (l.getD x 0) (T.par (l.getD x 0))) dL.zero
theorem Fw(T:dL)(l:List Int)(a:List Nat)(x:Nat):LQ T l (a ++ [x])=(LQ T l a).add (l.getD x 0) (T.par (l.getD x 0)):=by unfold LQ; rw[List.foldl_append]; rfl
def kU(l ll:List Int)(U:dL):Nat->dL
 | 0=>U
 | i+1=>if ll.getD i 0∈l then kU l ll U i else(kU l ll U i).add (ll.getD i 0) 0
section
variable {T U:dL} {l ll:List Int} {id pa k v:Int} {i j n:Nat}
theorem has_lt(t:U.ok)(h : ∀ k,U.has k=true->T.has k=true)(hx:T.has v=true)(o:U.has v=false):U.n<T.n:=by
 obtain⟨i,u,rfl⟩:=gJ hx;have r : ∀ j,∃ q,j<U.n->q<T.n/\T.x q=U.x j:=fun j=>by
  by_cases g:j<U.n
  ·obtain⟨q,c,d⟩:=gJ (h _ (dL.zK g));exact⟨q,fun _=>⟨c,d⟩⟩
  ·exact⟨0,fun h=>L_ h g⟩
 obtain⟨f,l⟩:=Classical.axiomOfChoice r;have:=BZ T.n (U.n+1) (fun j=>if j=U.n then i else f j) (fun j g=>by
  show(if j=U.n then i else f j)<T.n;split
  ·exact u
  ·exact(l j (by omega)).1) (fun a b w y e=>by
  have p : ∀ j,j<U.n->f j≠i:=fun j g e=>by
   have c:=(l j g).2;rw[e]at c;rw[c,dL.zK g]at o; cases o
  have e:(if a=U.n then i else f a)=(if b=U.n then i else f b):=e;by_cases c:a=U.n
  ·by_cases d:b=U.n
   ·omega
   ·rw[d_ c,b_ d]at e; exact L_ e.symm (p b (by omega))
  ·by_cases d:b=U.n
   ·rw[b_ c,d_ d]at e; exact L_ e (p a (by omega))
   ·rw[b_ c,b_ d]at e;have m:=(l a (by omega)).2;have s:=(l b (by omega)).2;rw[e]at m;exact t.inj a b (by omega) (by omega) (m.symm.trans s))
 omega
theorem UZ(p:U.ok)(h : ∀ k,U.has k=true->T.has k=true):U.n<=T.n:=by
 have l : ∀ j,∃ q,j<U.n->q<T.n/\T.x q=U.x j:=fun j=>by
  by_cases i:j<U.n
  ·obtain⟨q,m,o⟩:=gJ (h _ (dL.zK i));exact⟨q,fun _=>⟨m,o⟩⟩
  ·exact⟨0,fun h=>L_ h i⟩
 obtain⟨f,c⟩:=Classical.axiomOfChoice l;exact BZ T.n U.n f (fun q r=>(c q r).1) fun a b d g e=>p.inj a b d g (by rw[<- (c a d).2,<- (c b g).2,e])
structure BwI(T U:dL)(l:List Int)(j:Nat):Prop where
 ok:U.ok
 sub:uZ U T
 has : ∀ x,l.length-j<=x->x<l.length->U.has (l.getD x 0)=true
 only : ∀ k,U.has k=true->k∈l
theorem U0(a:T.ok)(hi:i<T.n):0<=T.x i/\T.x i<=18446744073709551615:=by have:=a.pos i hi; omega
theorem Yg(U:dL)(id pa k:Int)(h:(U.add id pa).has k=true):U.has k=true\/k=id:=by
 unfold dL.add at h;split at h
 ·rw[dL.jl,Bool.or_eq_true]at h
  rcases h with h|h
  ·exact .inl h
  exact .inr (h_ h).symm
 exact .inl h
theorem U1(a:T.ok)(e:l=T.path pa) : ∀ j,j<=l.length->BwI T (LQ T l (FY l.length j)) l j
 | 0,_=>⟨Bj.zero _ _,uZ.zero T,fun x g c=>by omega,fun k h=>nomatch h⟩
 | j+1,hj=>by
   have d:=U1 a e j (by omega);have m:l.length-1-j<l.length:=(by omega);have t:T.has (l.getD (l.length-1-j) 0)=true:=dL.Nb a e m;obtain⟨i,f,b⟩:=gJ t;have n:T.par (l.getD (l.length-1-j) 0)=T.p i:=(by rw[<- b]; exact dL.KS a f);show BwI T (LQ T l (FY l.length j ++ [l.length-1-j])) l (j+1);rw[Fw,n,<- b];have s:T.p i=0\/(LQ T l (FY l.length j)).has (T.p i)=true:=by
    by_cases r:l.length-1-j+1=l.length
    ·exact .inl (dL.Yf (aq:=i+1) a e r f b)
    ·have c:=dL.Ye (aq:=i+1) a e (show l.length-1-j+1<l.length by omega) f b;have c:T.p i=l.getD (l.length-1-j+1) 0:=c;right;rw[c];exact d.has _ (by omega) (by omega)
   obtain⟨u,v,w⟩:=uZ.add a d.ok d.sub f s;refine⟨dL.II d.ok (U0 a f),u,fun x g c => ?_,fun k q => ?_⟩
   ·by_cases o:x=l.length-1-j
    ·rw[o,<- b]; exact v
    ·exact w _ (d.has x (by omega) c)
   ·rcases Yg _ _ _ _ q with g|rfl
    ·exact d.only k g
    ·rw[b];rw[r_,o_ m]; exact P_ m
structure RtI(T U:dL)(l ll:List Int)(i:Nat):Prop where
 ok:U.ok
 sub : ∀ k,U.has k=true->T.has k=true
 par : ∀ k,k∈l->U.has k=true/\U.par k=T.par k
 has : ∀ q,q<i->q<ll.length->U.has (ll.getD q 0)=true
 only : ∀ k,U.has k=true->k∈l \/ ∃ q,q<i/\q<ll.length/\ll.getD q 0=k
theorem adk(d:ll.Pairwise (· < ·)){a b:Nat}(ha:a<ll.length)(c:b<ll.length)(e:ll.getD a 0=ll.getD b 0):a=b:=by
 rw[r_,r_,o_ ha,o_ c]at e;have e:ll[a]=ll[b]:=e
 rcases Nat.lt_trichotomy a b with h1|h1|h1
 ·have:=List.pairwise_iff_getElem.1 d a b ha c h1; omega
 ·exact h1
 have:=List.pairwise_iff_getElem.1 d b a c ha h1; omega
theorem U2(d:T.ok)(g:ll.Pairwise (· < ·) /\ ∀ k,k∈ll<->T.has k=true)(n:RtI T U l ll 0) : ∀ i,i<=ll.length->RtI T (kU l ll U i) l ll i
 | 0,_=>n
 | i+1,hi=>by
   have b:=U2 d g n i (by omega);unfold kU;have s:ll.getD i 0∈ll:=(by rw[r_,o_ (by omega)]; exact P_ _);have f:=(g.2 _).1 s;by_cases c:ll.getD i 0∈l
   ·rw[d_ c];refine⟨b.ok,b.sub,b.par,fun q v h => ?_,fun k a => ?_⟩
    ·by_cases e:q=i
     ·rw[e]; exact(b.par _ c).1
     ·exact b.has q (by omega) h
    ·rcases b.only k a with h1|⟨q,h1,h2,h3⟩
     ·exact .inl h1
     ·exact .inr ⟨q,by omega,h2,h3⟩
   ·rw[b_ c];obtain⟨z,r,m⟩:=gJ f;have o:=U0 d r;rw[m]at o;have u:=d.pos z r;rw[m]at u;have p:(kU l ll U i).has (ll.getD i 0)=false:=by
     cases hh:(kU l ll U i).has (ll.getD i 0)with
     | false=>rfl
     | true =>
       rcases b.only _ hh with h1|⟨q,h1,h2,h3⟩
       ·exact L_ h1 c
       ·have:=adk g.1 h2 (by omega) h3; omega
    have w:=has_lt b.ok b.sub f p;have x:=d.small;have j:(kU l ll U i).err (ll.getD i 0) 0=0:=by
     rw[dL.adj (by omega) (.inl rfl),b_ (by rw[p]; decide),b_];rw[dL.adi b.ok];rintro (h1|h1)
     ·omega
     ·simp at h1
    rw[dL.D6 j];have t : ∀ k,k∈l -> ¬ ll.getD i 0=k:=fun k a e=>c (e ▸ a);refine⟨by have:=dL.II (pa:=0) b.ok o; rwa [dL.D6 j]at this,fun k a => ?_,fun k a => ?_,fun q v h => ?_,fun k a => ?_⟩
    ·rw[dL.jl,Bool.or_eq_true]at a
     rcases a with a|a
     ·exact b.sub k a
     ·rw[<- h_ a]; exact f
    ·rw[dL.jl,dL.tC,b_ (t k a),(b.par k a).1,Bool.true_or];exact⟨rfl,(b.par k a).2⟩
    ·rw[dL.jl];by_cases e:q=i
     ·rw[e,f_ rfl,Bool.or_true]
     ·rw[b.has q (by omega) h,Bool.true_or]
    ·rw[dL.jl,Bool.or_eq_true]at a
     rcases a with a|a
     ·rcases b.only k a with h1|⟨q,h1,h2,h3⟩
      ·exact .inl h1
      ·exact .inr ⟨q,by omega,h2,h3⟩
     ·exact .inr ⟨i,by omega,by omega,h_ a⟩
theorem Hl(c : ∀ k,U.has k=T.has k) : ∀(d:Nat) (k:Int),(∀ q,q∈ji T.x T.p T.n d k->U.par q=T.par q)->ji U.x U.p U.n d k=ji T.x T.p T.n d k
 | 0,_,_=>rfl
 | d+1,k,h=>by
   have a:dP U.x U.n k=dP T.x T.n k:=c k
   cases hk:dP T.x T.n k with
   | false=>rw[kJ hk,kJ (a.trans hk)]
   | true =>
     have b:ji T.x T.p T.n (d+1) k=k::ji T.x T.p T.n d (gZ T.x T.p T.n k):=(by show(if _ then _ else _)=_; rw[d_ hk]);have e:ji U.x U.p U.n (d+1) k=k::ji U.x U.p U.n d (gZ U.x U.p U.n k):=(by show(if _ then _ else _)=_; rw[d_ (a.trans hk)]);rw[b]at h;have f:gZ U.x U.p U.n k=gZ T.x T.p T.n k:=h k (List.mem_cons_self ..);rw[b,e,f,Hl c d _ fun q g=>h q (List.mem_cons_of_mem _ g)]
theorem Yh(i:T.ok)(e:l=T.path pa)(m:ll.Pairwise (· < ·) /\ ∀ k,k∈ll<->T.has k=true):(kU l ll (LQ T l (FY l.length l.length)) ll.length).err id pa=T.err id pa:=by
 have d:=U1 i e l.length (z_ _);have t : ∀ k,k∈l -> ∃ x,x<l.length/\l.getD x 0=k:=fun k a=>by
  obtain⟨x,h,r⟩:=List.getElem_of_mem a;exact⟨x,h,by rw[r_,o_ h]; exact r⟩
 have s:RtI T (LQ T l (FY l.length l.length)) l ll 0:=⟨d.ok,d.sub.has,fun k a=>by
  obtain⟨x,h,rfl⟩:=t k a;have:=d.has x (by omega) h;exact⟨this,d.sub.par _ this⟩,fun q b=>by omega,fun k a => .inl (d.only k a)⟩
 have c:=U2 i m s ll.length (z_ _);generalize kU l ll (LQ T l (FY l.length l.length)) ll.length=V at c;have g : ∀ k,V.has k=T.has k:=fun k=>by
  cases f:T.has k with
  | false =>
    cases j:V.has k with
    | false=>rfl
    | true=>rw[c.sub k j]at f; cases f
  | true =>
    obtain⟨q,b,o⟩:=List.getElem_of_mem ((m.2 k).2 f);have:=c.has q b b;rw[r_,o_ b]at this;rw[<- o]; exact this
 have u:V.n=T.n:=by
  have f:=UZ c.ok c.sub;have j:=UZ i (fun k a=>by rw[g]; exact a : ∀ k,T.has k=true->V.has k=true);omega
 have v:V.path pa=T.path pa:=Hl g 4 pa fun q b=>(c.par q (by rw[e]; exact b)).2;show qM V.x V.p V.n id pa=qM T.x T.p T.n id pa;unfold qM;have w:ji V.x V.p V.n 4 pa=ji T.x T.p T.n 4 pa:=v;rw[show dP V.x V.n id=dP T.x T.n id from g id,show dP V.x V.n pa=dP T.x T.n pa from g pa,w,u]
end
end Rt
end Go.Proofs.YtahbiajdgealnaaGreatDoor
namespace Go.Proofs.YtahbiajdgealnaaGreatDoor
open Go.RowKit Go
set_option linter.unusedVariables false
namespace Fx
abbrev yu:=Exit->(Nat->Value)->List Deferred->World->Prop
def U3(n:Nat)(Q:yu):Exit->Act->World->Prop:=fun e a w => ∃ f,Aj a n f/\Q e f a.defers w
def W0(ro:Option Nat)(m:Nat)(P:Program)(n:Nat)(c:Code)(Q:yu)(f:Nat->Value)(ds:List Deferred)(w:World):Prop := ∀ a,Aj a n f->a.defers=ds->c.wpIn (FR ro) m P (U3 n Q) a w
def U4(ro:Option Nat)(m:Nat)(P:Program)(n:Nat)(y:Code)(Q:yu):yu:=fun e f ds w=>match e with | .normal=>W0 ro m P n y Q f ds w|e=>Q e f ds w
def Bb(id:Nat)(Q:yu):yu:=fun e f ds w=>match e with | .exit id'=>if id'=id then Q .normal f ds w else Q (.exit id') f ds w|e=>Q e f ds w
def Nc(I:(Nat->Value)->World->Prop)(b:(Nat->Value)->World->Nat)(k:Nat)(ds:List Deferred)(Q:yu):yu:=fun e f a w=>match e with | .normal=>a=ds/\I f w/\b f w<k|e=>Q e f a w
section
variable {ro:Option Nat} {m:Nat} {ds:List Deferred} {P:Program} {n:Nat} {Q:yu} {f:Nat->Value} {w:World}
theorem W0.seq{x y:Code}(h:W0 ro m P n x (U4 ro m P n y Q) f ds w):W0 ro m P n (.seq x y) Q f ds w:=fun a i j =>
 wpIn_seq (wpIn_mono (h a i j) fun e d w' b=>by
  obtain⟨g,c,b⟩:=b
  cases e <;> first|exact b d c rfl|exact⟨g,c,b⟩)
theorem W0.skip(h:Q .normal f ds w):W0 ro m P n .skip Q f ds w:=fun _ a b=>wpIn_skip ⟨f,a,b ▸ h⟩
theorem W0.ret(h:Q .ret f ds w):W0 ro m P n .ret Q f ds w:=fun _ a b=>wpIn_ret ⟨f,a,b ▸ h⟩
theorem W0.exit{id:Nat}(h:Q (.exit id) f ds w):W0 ro m P n (.exit id) Q f ds w:=fun _ a b=>wpIn_exit ⟨f,a,b ▸ h⟩
theorem W0.block{id:Nat}{c:Code}(h:W0 ro m P n c (Bb id Q) f ds w):W0 ro m P n (.block id c) Q f ds w:=fun a i j =>
 wpIn_block (wpIn_mono (h a i j) fun e k w' b=>by
  obtain⟨d,g,b⟩:=b
  cases e <;> first
   | exact⟨d,g,b⟩
   | (simp only[Bb]at b; simp only[Exit.inBlock]; split at b <;> rename_i hid <;> simp only[hid,if_true,if_false] <;> exact⟨d,g,b⟩))
theorem W0.cond{c:Operand}{x y:Code}{b:Bool}(h:ev f c = .bool b)(j:b=true->W0 ro m P n x Q f ds w)(i:b=false->W0 ro m P n y Q f ds w):W0 ro m P n (.cond c x y) Q f ds w:=fun a d g =>
 wpIn_cond_split (t:=b) (by rw[d.ev]; exact h) (fun e=>j e a d g) (fun e=>i e a d g)
theorem W0.loop{c:Code}(I:(Nat->Value)->World->Prop)(k:(Nat->Value)->World->Nat)(r:I f w)(hr : ∀ f w,I f w->W0 ro m P n c (Nc I k (k f w) ds Q) f ds w):W0 ro m P n (.loop c) Q f ds w:=fun a s h =>
 wpIn_loop (fun a w => ∃ f,Aj a n f/\a.defers=ds/\I f w) (fun a w=>k (fun i=>a.tmps.getD i undef) w) ⟨f,s,h,r⟩ (fun a w g=>by
  obtain⟨f,l,h,g⟩:=g;have e:(fun i=>a.tmps.getD i undef)=f:=funext l.get;refine wpIn_mono (hr f w g a l h)<|fun p o w' b => ?_;obtain⟨d,j,b⟩:=b
  cases p <;> first
   | exact⟨d,j,b⟩
   | (have q:(fun i=>o.tmps.getD i undef)=d:=funext j.get
      exact⟨⟨d,j,b.1,b.2.1⟩,by rw[e,q]; exact b.2.2⟩))
theorem W0.list{id:Nat}{ops:List Oper}(h:L P n ops.toArray (fun e f w=>Q e f ds w) ops f w)(k:ops.all jP=true:=by rfl):W0 ro m P n (.region id ops.toArray false) Q f ds w:=fun a i j =>
 Gu i h k fun e l w' ⟨b,c,d,g⟩=>⟨b,c,by rw[d,j]; exact g⟩
theorem qF{y:Code}(h:W0 ro m P n y Q f ds w):U4 ro m P n y Q .normal f ds w:=h
theorem aha{id:Nat}{y:Code}(h:Q (.exit id) f ds w):U4 ro m P n y Q (.exit id) f ds w:=h
theorem KU{id:Nat}(h:Q .normal f ds w):Bb id Q .normal f ds w:=h
theorem ahb{id:Nat}(h:Q .normal f ds w):Bb id Q (.exit id) f ds w:=by simp only[Bb,if_true]; exact h
theorem aok{I:(Nat->Value)->World->Prop}{a:(Nat->Value)->World->Nat}{k id:Nat}(h:Q (.exit id) f ds w):Nc I a k ds Q (.exit id) f ds w:=h
theorem ahc{I:(Nat->Value)->World->Prop}{a:(Nat->Value)->World->Nat}{k:Nat}(h:I f w)(b:a f w<k):Nc I a k ds Q .normal f ds w:=⟨rfl,h,b⟩
def Z5(P:Program)(m:Nat)(b:Func)(R:Ending->World->Prop):yu:=fun e f ds w => ∀ a,Aj a b.ntmps f->a.defers=ds->bodyPostM (FR none) m P b R e a w
theorem adl{g:FuncId}{b:Func}{c:Code}{args:Array Value}{R:Ending->World->Prop}(m:Nat)(k:P.funcs[g]? = some b)(j:b.body=some c)(f:b.ntmps=n)(ha:Nat.ble args.size n=true)(h:W0 none m P n c (Z5 P m b R) (start args) [] w):Calls P g args w R:=by
 have q:args.size<=n:=Nat.le_of_ble_eq_true ha;refine(callsIn_wide (n:=m)).1 (callsIn_of_wp_marks (F:=FR none) k j trivial ?_ rfl);refine wpIn_mono (h _ ⟨?_,?_⟩ rfl) fun e a w' ⟨p,l,o⟩=>o a (by rw[f]; exact l) rfl
 ·simp[f]; omega
 intro i;simp only[start,Array.getD_eq_getD_getElem?,Array.getElem?_append,Array.getElem?_replicate];by_cases d:i<args.size
 ·simp[d]
 rw[b_ d];split
 ·rw[Array.getElem?_eq_none (by omega)]; rfl
 rw[Array.getElem?_eq_none (by omega)]
theorem leaveD{b:Func}{R:Ending->World->Prop}{D:Nat}{v:Value}(c:w.heap[D]? = some (.deferred (some [])))(h:(Am b f).run P (w.putObj D (.deferred none)) = .ok v (w.putObj D (.deferred none)))(d:R (.returned v) (w.putObj D (.deferred none))) :
 Z5 P m b R .ret f [{ target := .collected D,args := #[] }] w:=fun a e g=>leave1 e g c h d
variable {ops:List Oper} {cs:List Nat} {S:World->World->Prop}
theorem R.ahd(T:lJ n ops=true)(hsel:Region.noSelect ops.toArray=true)(aa:ops.all jP=true)(hS : ∀ w,S w w)(hT : ∀ a b c,S a b->S b c->S a c){fH:List (Nat × Nat × List Nat)} : ∀(k:Nat) (u:List Nat) (p:Array Bool) (a:Act) (f:Nat->Value) (w:World),u.length=k->p.size=ops.length->Ju ops.toArray .any p ->
 (∀ i,i∈u<->i<ops.length/\p.getD i false=false)->u.Nodup->(u.Pairwise fun i j=>qh ops cs fH i j=true)->Aj a n f->a.defers=ds->R P n ops cs S (fun e f w=>Q e f ds w) u f w->wpAnyIn (FR ro) m P .any ops.toArray (U3 n Q) k p a w:=by
 intro k
 induction k with
 | zero =>
   intro u p a f w F ac J x G H A L h;have:u = []:=List.eq_nil_of_length_eq_zero F;subst this;refine⟨?_,f,A,by rw[L]; exact h⟩;rw[List.eq_nil_iff_forall_not_mem];intro j E;obtain⟨z,s,_,_⟩:=fG E;exact L_ ((x j).2 ⟨s,z⟩) (by simp)
 | succ k ih =>
   intro u p a f w F ac J x G H A L h;refine⟨fun hr => ?_,fun j E => ?_⟩
   ·cases u with
    | nil=>simp at F
    | cons r akH =>
      exfalso;obtain⟨z,s⟩:=(x r).1 (List.mem_cons_self ..);have:r∈Region.ready .any ops.toArray p:=by
       refine mem_ready.2 ⟨getD_in (by omega) s,opAt ops r,by unfold opAt; rw[List.getElem?_toArray,r_,o_ z]; rfl,fun e M C => ?_⟩;have B:dG (opAt ops r) e.on=true:=by
        unfold dG; rw[Array.any_eq_true']; exact⟨e,M,by rw[C,Nat.beq_refl]; rfl⟩
       have hlt:=(fA T z).2.2.2 e.on B
       cases hle:p.getD e.on false with
       | true=>rfl
       | false =>
         have g:=(x e.on).2 ⟨by omega,hle⟩
         rcases List.mem_cons.1 g with e1|e1
         ·omega
         ·have o:=(List.pairwise_cons.1 H).1 _ e1;unfold qh at o;rw[B]at o; simp at o
      rw[hr]at this; simp at this
   ·obtain⟨z,s,W,X⟩:=fG E;have hjm:=(x j).2 ⟨s,z⟩;obtain⟨t,y,rfl⟩:=List.append_of_mem hjm;have C:=bubble (P:=P) (cs:=cs) (S:=S) (Q:=fun e f w=>Q e f ds w) T hsel hS hT s (l:=y) t (fun i N=>by
     obtain⟨h5,Y⟩:=(x i).1 (List.mem_append_left _ N);have O:i≠j:=fun e=>by
      subst e;exact(List.nodup_append.1 G).2.2 i N i (List.mem_cons_self ..) rfl
     have o:qh ops cs fH i j=true:=(List.pairwise_append.1 H).2.2 i N j (List.mem_cons_self ..);unfold qh at o;rw[R_,Bool.or_eq_true]at o;have aaL:dG (opAt ops j) i=false:=by
      cases hq:dG (opAt ops j) i with
      | false=>rfl
      | true=>have:=X i hq; rw[Y]at this; cases this
     refine⟨h5,O,aaL,by simpa using o.1,?_⟩
     rcases o.2 with o|o
     ·rw[R_,Bool.or_eq_true]at o;refine⟨o.1,?_⟩
      rcases o.2 with q|q
      ·rw[Bool.or_eq_true]at q;exact q.elim (fun q => .inl (A_ q)) (fun q => .inr (.inl q))
      ·rw[R_]at q;exact .inr (.inr ⟨A_ q.1,A_ q.2⟩)
     ·exfalso;rw[List.any_eq_true]at o;obtain⟨c,_,Z⟩:=o;rw[R_,R_]at Z;obtain⟨m,g⟩:=iV Z.2
      cases m with
      | zero=>unfold reach at g; simp at g; exact O g.symm
      | succ m =>
        unfold reach at g;rw[Bool.or_eq_true]at g
        rcases g with g|g
        ·simp at g; exact O g.symm
        ·rw[W]at g;simp only at g;rw[Array.any_eq_true']at g;obtain⟨e,M,g⟩:=g;rw[R_]at g;have B:dG (opAt ops j) e.on=true:=by
          unfold dG; rw[Array.any_eq_true']; exact⟨e,M,by rw[g.1,Nat.beq_refl]; rfl⟩
         have:=J.reach _ _ g.2 (X e.on B);rw[Y]at this; cases this) f w h
    have hperm:(t++y).length=k:=(by simp at F ⊢; omega);have hnd':(t++y).Nodup:=by
     refine G.sublist ?_;exact List.Sublist.append_left (List.sublist_cons_self ..) t
    have aaM:(t++y).Pairwise fun i j=>qh ops cs fH i j=true:=H.sublist (List.Sublist.append_left (List.sublist_cons_self ..) t);have hmem' : ∀ i,i∈t++y<->i<ops.length/\(p.setIfInBounds j true).getD i false=false:=fun i=>by
     by_cases e:j=i
     ·subst e;rw[set_self (by omega)];constructor
      ·intro g;exfalso;have D:=List.nodup_append.1 G
       rcases List.mem_append.1 g with q|q
       ·exact D.2.2 j q j (List.mem_cons_self ..) rfl
       ·exact(List.nodup_cons.1 D.2.1).1 q
      ·intro q; cases q.2
     ·rw[jS e,<- x i];simp only[List.mem_append,List.mem_cons];constructor
      ·rintro (q|q)
       ·exact .inl q
       ·exact .inr (.inr q)
      ·rintro (q|q|q)
       ·exact .inl q
       ·exact L_ q.symm e
       ·exact .inr q
    have U : ∀(v:Value) (w':World),R P n ops cs S (fun e f w=>Q e f ds w) (t++y) (put f (opAt ops j).dst v) w'->wpAnyIn (FR ro) m P .any ops.toArray (U3 n Q) k (p.setIfInBounds j true) (a.put (opAt ops j).dst v) w':=fun v w' hR =>
     ih (t++y) _ _ _ w' hperm (by simp[ac]) (J.set E) hmem' hnd' aaM (A.put (by
      cases D:(opAt ops j).dst with
      | none=>rfl
      | some d=>have:=((fA T s).1 d D).2; simpa [inn,Nat.blt_eq] using this) v) (by rw[put_defers]; exact L) hR
    have ab:jP (opAt ops j)=true:=by
     rw[List.all_eq_true]at aa;refine aa _ ?_;unfold opAt;rw[r_,o_ s];exact P_ s
    unfold wpOpIn;rw[W];simp only;rw[A.yf];unfold R at C
    rcases C with ⟨I,V⟩|⟨I,⟨V,v,q3,q4⟩|⟨V,q3⟩⟩
    ·rw[b_ (by rw[I]; decide)]; exact⟨fun _ _=>trivial,U _ _ V⟩
    ·rw[d_ I];refine Out.wpIn (K:=fun v' w'=>v'=v/\w'=w) A ab (.inl ⟨v,w,q3 w (.inr (.inr rfl)),rfl,rfl⟩) ?_;rintro v' w' ⟨rfl,rfl⟩;exact U _ _ q4
    ·rw[d_ I];exact Out.wpIn A ab q3 fun v w' hk=>U v w' hk.2
theorem W0.ahe{f:Nat->Value}{w:World}{id:Nat}(l:List Nat)(cs:List Nat)(S:World->World->Prop)(o : ∀ w,S w w)(p : ∀ a b c,S a b->S b c->S a c)(fH:List (Nat × Nat × List Nat))(x:P.follows .mixedOrders=true)(z:lJ n ops=true)(B:Region.noSelect ops.toArray=true)(g:zN ops l=true)(A:vV ops cs fH l=true)
 (h : ∀ j,Below w.heap.size w j->j.heap.size=w.heap.size->R P n ops cs S (fun e f w=>Q e f ds w) l f j) (y:ops.all jP=true:=by rfl):W0 ro m P n (.region id ops.toArray true) Q f ds w:=fun a q r=>by
 refine wpIn_region_any x ?_;unfold zN at g;rw[R_,R_,R_,List.all_eq_true,List.all_eq_true]at g;obtain⟨⟨⟨C,D⟩,p3⟩,p4⟩:=g;have v:=A_ C;have E:l.Nodup:=h_ p3;have:=R.ahd (ro:=ro) (m:=m) (ds:=ds) (P:=P) (Q:=Q) (fH:=fH) z B y o p ops.length l (Array.replicate ops.length false) a f { w with drawn:=w.drawn+1 } v (by simp) (Ju.start _ _ _) (fun i=>by
  have s : ∀ i,(Array.replicate ops.length false).getD i false=false:=fun i=>getD_replicate_false _ _;constructor
  ·intro d; exact⟨by simpa [Nat.blt_eq] using D i d,s i⟩
  ·intro d;obtain⟨k,t,u⟩:=List.any_eq_true.1 (p4 i (by simpa using d.1));rw[A_ u]; exact t) E (vW A) q r (h { w with drawn:=w.drawn+1 } (Below.refl _ _).drew rfl)
 simpa using this
end
end Fx
namespace Z6
def OH{b:Type}(J:b->World->Prop):Prop := ∀ s W a,J s W->W.grownBy a none->J s a
def adn{d:Type}(F:Fence)(n:Nat)(P:Program)(g:Nat)(lb:Array Value)(j:d->Array Value)(i:World->World->Prop)(S:List d->Prop)(N:Nat)(h:World->Prop):Prop :=
 ∀(l:Nat) (J:List d->World->Prop) (W:World),h W->OH J ->
  (∀ c x b,J c b->c.length<N->YieldAt F (n-1) P l (j x) b fun e a=>e = .returned (.bool true)/\J (c ++ [x]) a/\i b a) ->
  J [] W ->
  CallsIn F n P g (#[.func (.yield l) #[] #[]]++lb) W fun e a=>(∃ v,e = .returned v) /\ ∃ f,S f/\J f a
def Nf{c:Type}(B:Nat)(I:c->World->Prop):Prop :=
 ∀ s W a b,I s W->W.grownBy a b->(∀ r,b=some r->B<=r /\ ∃ o:Obj,W.heap[r]? = some o/\o.isCells=false)->I s a
variable {F:Fence} {n:Nat} {P:Program}
theorem Nf.putObj{a:Type}{B:Nat}{I:a->World->Prop}(h:Nf B I){s:a}{W:World}{l:Nat}{o:Obj}(o':Obj)(f:I s W)(b:B<=l)(c:W.heap[l]? = some o)(d:o.isCells=false):I s (W.putObj l o') :=
 h s W _ (some l) f (grownBy_putObj' W l o') (fun r e=>by cases e; exact⟨b,o,c,d⟩)
theorem Nf.alloc{a:Type}{B:Nat}{I:a->World->Prop}(h:Nf B I){s:a}{W:World}(o:Obj)(b:I s W):I s (W.alloc o) :=
 h s W _ none b (World.grownBy_alloc W o none) (fun r e=>by cases e)
def KeepsFrom(B:Nat)(W a:World):Prop:=W.heap.size<=a.heap.size /\ ∀ k,B<=k->k<W.heap.size->a.heap[k]? = W.heap[k]?
def ahf{a:Type}(B:Nat)(b:World->World->Prop)(I:List a->World->Prop)(c:List a)(W:World):Exit->Act->World->Prop
 | .normal,_,W'=>KeepsFrom B W W'/\b W W'/\I c W'
 | _,_,_=>False
theorem Dv{α:Type}{g:Operand}{ps:Array Tmp}{assign body:Code}{Q:Exit->Act->World->Prop}{a:Act}{w:World}
 (hro:F.round=none) (h1:1<=n) {gf:Nat} {lb:Array Value} (hg:a.eval g = .func (.func gf) #[] lb) (hFg:F.fn gf) (eg : ∀ args w,(callFunc gf args).run P w = .ok (.enter gf args) w)
 {encs:α->Array Value} {Kp:World->World->Prop} {S:List α->Prop} {N:Nat} {Ip:World->Prop} (hseq:adn F (n-1) P gf lb encs Kp S N Ip)
 (hIp:Ip w) (Mi : ∀ W o,w.heap.size<=W.heap.size->Ip W->Ip (W.alloc o))
 (hKt : ∀ {A B C:World},Kp A B->Kp B C->Kp A C) (hKb : ∀(W:World) (l:Nat) (o o':Obj),w.heap.size<=l->W.heap[l]? = some o->o.isCells=false->Kp W (W.putObj l o')) (hps : ∀ x,(encs x).size=ps.size)
 (I:List α->World->Prop) (hI:Nf w.heap.size I) (h0:I [] w) (A₁:α->Act->Prop)
 (hassign : ∀(l:Nat) (x:α) (W:World),assign.wpIn (F.inRound l) (n-1-1) P (Exit.then (fun a' W'=>A₁ x a'/\W'=W) (fun _ _ _=>False)) { tmps:=(ps.zip (encs x)).foldl (fun t (p,v)=>t.setIfInBounds p v) a.tmps,defers := [] } W)
 (hbody : ∀(l:Nat) (pre:List α) (x:α) (W:World) (a':Act),A₁ x a'->I pre W->pre.length<N->w.heap.size<=W.heap.size->body.wpIn (F.inRound l) (n-1-1) P (ahf w.heap.size Kp I (pre ++ [x]) W) a' W)
 (hdone : ∀(D:Nat) (xs:List α) (W:World),w.heap.size<=D->S xs->I xs W->W.heap[D]? = some (.deferred (some []))->Q .normal { a with defers := { target := .collected D,args := #[] }::a.defers } W) :
 (Code.rangeFunc g ps assign body).wpIn F n P Q a w:=by
 refine wpIn_rangeFunc ?_;intro fn hfn;rw[hro];obtain⟨rec,hrec⟩ : ∃ rec:LoopState->Option Code->Loop,rec=fun st pe => { state:=st,pending:=pe,fn,tmps:=a.tmps,params:=ps,assign,body,defers:=w.heap.size }:=⟨_,rfl⟩;obtain⟨W1,hW1⟩ : ∃ W1,(w.alloc (.deferred (some []))).alloc (.loop (rec .ready none))=W1:=⟨_,rfl⟩;have hL1:W1.heap[w.heap.size+1]? = some (.loop (rec .ready none)):=by
  rw[<- hW1]; have:=World.alloc_heap_new (w.alloc (.deferred (some []))) (.loop (rec .ready none)); rwa [World.size_alloc]at this
 have hK1:W1.heap[w.heap.size]? = some (.deferred (some [])):=by
  rw[<- hW1]; exact(Below.heap_alloc _ _ _ (by simp)).trans (World.alloc_heap_new w _)
 have hI1:I [] W1:=by rw[<- hW1]; exact hI.alloc _ (hI.alloc _ h0)
 have hp1:Ip W1:=by rw[<- hW1]; exact Mi _ _ (by simp) (Mi _ _ (z_ _) hIp)
 refine⟨w.heap.size+1,[{ target := .collected w.heap.size,args := #[] }],W1,{ target := .fn (.func gf) lb,args := #[.func (.yield (w.heap.size+1)) #[] #[]] },W1,gf,
  #[.func (.yield (w.heap.size+1)) #[] #[]]++lb,W1,?_,?_,?_,?_,fun _=>h1,?_⟩
 ·rw[<- hW1,hrec]; exact run_enterLoop_outer _ _ _ _ _
 ·simp only[resolve,hg];simp[go_sem]
 ·intro f' hf'; simp[Target.leads]at hf'; subst hf'; exact hFg
 ·simp[invoke,go_sem,eg]
 refine(hseq (w.heap.size+1)
  (fun pre W=>I pre W/\W.heap[w.heap.size+1]? = some (.loop (rec .ready none))/\W.heap[w.heap.size]? = some (.deferred (some [])))
  W1 hp1
  (fun s A B hs hg'=>⟨hI s A B none hs.1 hg' (fun r e=>nomatch e),(hg'.block _ (Array.getElem?_eq_some_iff.1 hs.2.1).1 (fun e=>nomatch e)).trans hs.2.1,(hg'.block _ (Array.getElem?_eq_some_iff.1 hs.2.2).1 (fun e=>nomatch e)).trans hs.2.2⟩)
  ?_ ⟨hI1,hL1,hK1⟩).mono ?_
 ·-- one round
  rintro pre x W ⟨hi,hl,hk⟩ hlen;have hlt:w.heap.size+1<W.heap.size:=(Array.getElem?_eq_some_iff.1 hl).1;have hy:=run_yield (P:=P) (args:=encs x) hl (by rw[hrec]; exact hps x);rw[hrec]at hy;refine⟨fn,_,assign,body,hy,roundIn_of_wpIn hfn (wpIn_mono (hassign _ x W) ?_)⟩;rintro e1 a1 w1 hq1
  cases e1 with
  | exit id=>exact hq1.elim
  | goto t=>exact hq1.elim
  | ret=>exact hq1.elim
  | panic ch=>exact hq1.elim
  | outgrown=>exact hq1.elim
  | normal =>
  obtain⟨hA1,ew⟩:=hq1;rw[ew];refine⟨_,run_beginRound hl (by rw[hrec]),?_⟩;have hl2:(W.putObj (w.heap.size+1) (.loop { rec .ready none with state := .busy })).heap[w.heap.size+1]? = some (.loop { rec .ready none with state := .busy }):=World.putObj_heap_same hlt;have hk2:(W.putObj (w.heap.size+1) (.loop { rec .ready none with state := .busy })).heap[w.heap.size]? = some (.deferred (some [])):=(World.putObj_heap_other (by omega)).trans hk;have hw2:Kp W (W.putObj (w.heap.size+1) (.loop { rec .ready none with state := .busy })):=hKb _ _ _ _ (by omega) hl rfl;refine wpIn_mono (hbody _ pre x _ a1 hA1 (hI.putObj _ hi (by omega) hl rfl) hlen (by simp; omega)) ?_;rintro e a3 W3 hp
  cases e with
  | normal =>
    obtain⟨hk3,hkp3,hi3⟩:=hp;have hl3:=(hk3.2 _ (by omega) (Array.getElem?_eq_some_iff.1 hl2).1).trans hl2;have aol:=(hk3.2 _ (by omega) (Array.getElem?_eq_some_iff.1 hk2).1).trans hk2;have hr:=run_endRound (P:=P) none hl3;rw[hrec]at hr hl3;refine⟨_,_,hr,rfl,⟨hI.putObj _ hi3 (by omega) hl3 rfl,?_,(World.putObj_heap_other (by omega)).trans aol⟩,hKt (hKt hw2 hkp3) (hKb _ _ _ _ (by omega) hl3 rfl)⟩;rw[hrec]; exact World.putObj_heap_same (Array.getElem?_eq_some_iff.1 hl3).1
  | ret=>exact hp.elim
  | exit id=>exact hp.elim
  | goto t=>exact hp.elim
  | panic ch=>exact hp.elim
  | outgrown=>exact hp.elim
 rintro e W2 ⟨⟨v,rfl⟩,xs,hS,hi,hl,hk⟩;exact⟨none,_,by have:=run_endLoop (P:=P) hl (by rw[hrec]; simp); rw[hrec]at this; exact this,hdone _ xs _ (z_ _) hS (hI.putObj _ hi (by omega) hl rfl) ((World.putObj_heap_other (by omega)).trans hk)⟩
end Z6
namespace Fx
theorem KV{a:Act}{n p q:Nat}{u v:Value}{f:Nat->Value}(h:Aj a n f)(c:p<n)(g:q<n):Aj { tmps:=(#[p,q].zip #[u,v]).foldl (fun t (p,v)=>t.setIfInBounds p v) a.tmps,defers := [] } n (put (put f (some p) u) (some q) v):=by
 have b:=(h.put (d:=some p) (by simpa [inn,Nat.blt_eq] using c) u).put (d:=some q) (by simpa [inn,Nat.blt_eq] using g) v;have e:(#[p,q].zip #[u,v]).foldl (fun t (p,v)=>t.setIfInBounds p v) a.tmps=((a.put (some p) u).put (some q) v).tmps:=by simp[Array.zip,Act.put]
 rw[e]; exact⟨b.size,b.get⟩
theorem W0.ado{P:Program}{n m:Nat}{Q:yu}{f:Nat->Value}{ds:List Deferred}{w:World}{c:Type}{g:Operand}{p q:Tmp}{E G:Code}{gf:Nat}{lb:Array Value}(h1:1<=m)(hg:ev f g = .func (.func gf) #[] lb)(J : ∀ z w,(callFunc gf z).run P w = .ok (.enter gf z) w)
 {eu ev2:c->Value} {d:World->World->Prop} {S:List c->Prop} {N:Nat} {s:World->Prop} (hseq:Z6.adn (FR none) (m-1) P gf lb (fun x => #[eu x,ev2 x]) d S N s)
 (R:s w) (T : ∀ W o,w.heap.size<=W.heap.size->s W->s (W.alloc o)) (V : ∀ {A B C:World},d A B->d B C->d A C) (U : ∀(W:World) (l:Nat) (o o':Obj),w.heap.size<=l->W.heap[l]? = some o->o.isCells=false->d W (W.putObj l o')) (hp:p<n) (hq:q<n)
 (I:List c->World->Prop) (O:Z6.Nf w.heap.size I) (L:I [] w) (A:c->(Nat->Value)->Prop)
 (X : ∀(l:Nat) (x:c) (W:World),W0 (some l) (m-1-1) P n E (fun e b H h=>e = .normal/\H = []/\A x b/\h=W) (put (put f (some p) (eu x)) (some q) (ev2 x)) [] W)
 (Y : ∀(l:Nat) (r:List c) (x:c) (W:World) (b:Nat->Value),A x b->I r W->r.length<N->w.heap.size<=W.heap.size->W0 (some l) (m-1-1) P n G (fun e K H h=>e = .normal/\Z6.KeepsFrom w.heap.size W h/\d W h/\I (r ++ [x]) h) b [] W)
 (aa : ∀(D:Nat) (u:List c) (W:World),w.heap.size<=D->S u->I u W->W.heap[D]? = some (.deferred (some []))->Q .normal f ({ target := .collected D,args := #[] }::ds) W):W0 none m P n (.rangeFunc g #[p,q] E G) Q f ds w:=fun a t Z=>by
 refine Z6.Dv (F:=FR none) rfl h1 (by rw[t.ev]; exact hg) trivial J hseq R T V U (fun _=>rfl) I O L (fun x i => ∃ b,Aj i n b/\i.defers = []/\A x b) ?_ ?_ ?_
 ·intro l x W;refine wpIn_mono (X l x W _ (KV t hp hq) rfl) ?_;rintro e i w' ⟨b,y,rfl,j,k,rfl⟩;exact⟨⟨b,y,j,k⟩,rfl⟩
 ·rintro l r x W i ⟨b,y,j,k⟩ hi hl hs;refine wpIn_mono (Y l r x W b k hi hl hs i y j) ?_;rintro e a'' w' ⟨K,avT,rfl,v⟩;exact v
 ·intro D u W j k v M;refine⟨f,⟨t.size,t.get⟩,?_⟩;show Q .normal f (_::a.defers) W;rw[Z]; exact aa D u W j k v M
end Fx
end Go.Proofs.YtahbiajdgealnaaGreatDoor
namespace Go.Proofs.YtahbiajdgealnaaGreatDoor
open Go.RowKit Rt
open Fx (eP eX fK bB gQ gP dD dO gH jo eT jr fV jv iY Lv sN Ln Ws Qv Wl Rp Wc Qs Wr Sb Lk Wk rC rV sR Rs Rn Rd Rk Wb Wx Wo Dy Wt qI Qn FW Bh yD yZ Db Dw qy iw za nu uP uO vX wV yY Dl Ar rv aA aQ bI aN ev cO Stp dJ aW flat dB Mp fu aX gX iK bD down iM jN iN ny bJ bH cells_one iP bW xE unseen jH iA bO dM bL bM cB cK gG fZ qc gT)
set_option maxRecDepth 20000
namespace Rt
structure OI(sb:Nat)(v:Value)(W W':World):Prop where
 size:W.heap.size<=W'.heap.size
 b:W'.heap[sb]? = W.heap[sb]?
 g : ∀ g,v.ownBlock=some g->W'.heap[g]? = W.heap[g]?
theorem OI.trans{a:Nat}{v:Value}{A B C:World}(h:OI a v A B)(k:OI a v B C):OI a v A C:=⟨m_ h.size k.size,k.b.trans h.b,fun g c=>(k.g g c).trans (h.g g c)⟩
theorem OI.put{a B:Nat}{v:Value}(e:a<B)(c : ∀ g,v.ownBlock=some g->g<B)(W:World)(l:Nat)(o o':Obj)(d:B<=l):OI a v W (W.putObj l o'):=⟨by simp,World.putObj_heap_other (by omega),fun g b=>World.putObj_heap_other (by have:=c g b; omega)⟩
theorem OI.Bv{a b:Nat}{v:Value}{W c:World}(h:Stp b W c)(h1:a<W.heap.size)(f:a≠b)(e : ∀ g,v.ownBlock=some g->g<W.heap.size/\g≠b):OI a v W c:=⟨h.size,h.block a h1 f,fun g d=>h.block g (e g d).1 (e g d).2⟩
theorem adp{q n c s:Nat}{a:Option Addr}{x:Nat->Value}{W d:World}(l:ny W a n s x)(r:0<s)(k:OI q (.slice a n c) W d):ny d a n s x:=fun h=>by
 obtain⟨b,p,e,m⟩:=l h;refine⟨b,p,e,fun i o => ?_⟩;have f:=m i o;have j:=k.g b (by rw[e]; rfl);unfold World.cell? at f ⊢;rw[j]; exact f
def BwP(b:Nat)(a:Option Addr)(n c:Nat)(l:List Int)(W:World):Prop:=aQ W b 1 (fun _ => .slice a n c) 63/\ny W a n 1 (xJ l)
theorem BwP.alloc{f n c:Nat}{a:Option Addr}{l:List Int}{W:World}(h:BwP f a n c l W)(o:Obj):BwP f a n c l (W.alloc o) :=
 ⟨(Below.heap_alloc W o f h.1.lt).trans h.1,fun g=>by
   obtain⟨b,p,e,k⟩:=h.2 g;refine⟨b,p,e,fun i m => ?_⟩;have d:=k i m;have j:=Below.heap_alloc W o b (block_lt_of_cell d);unfold World.cell? at d ⊢;rw[j]; exact d⟩
theorem U5{h f B:Nat}{c:World}{F:List Nat->dL}(h1:h<c.heap.size)(j:f<c.heap.size):Z6.Nf c.heap.size (fun(n:List Nat) W=>rP W B h f (F n)/\Stp f c W):=fun s W i o a b m=>by
 have g : ∀ k,k<c.heap.size->i.heap[k]? = W.heap[k]? := fun k d=>b.block k (n_ d a.2.size) fun e=>by
  have:=(m k e.symm).1; omega
 exact⟨rP.keep a.1 (g h h1) (g f j),⟨b.os.trans a.2.os,b.tape.trans a.2.tape,b.output.trans a.2.output,m_ a.2.size b.size,fun k d l=>(g k d).trans (a.2.block k d l)⟩⟩
theorem Yi{w:World}{B E s n b m:Nat}{v:Value}{x:Nat->Value}{k:Nat->Int}{y:Nat->Value}(a:Fx.Own w B E s v n x)(d:Mp w b m k y){g:Nat}(c:v.ownBlock=some g):g<w.heap.size/\g≠b:=⟨(a.ge c).2,fun e=>d.rG (by rw[<- e]; exact a.ty c)⟩
theorem adq{T:dL}{k:Int}(h : ∀ i,i<T.n->T.x i≠k):T.par k=0:=by
 have : ∀ n,(∀ i,i<n->T.x i≠k)->gZ T.x T.p n k=0:=fun n=>by
  induction n with
  | zero=>exact fun _=>rfl
  | succ n ih=>exact fun h=>by unfold gZ; rw[b_ (h n (by omega))]; exact ih fun i a=>h i (by omega)
 exact this _ h
structure JB(J:List Nat->World->Prop)(pre:List Nat)(w:World):Prop where
 ab:Z6.OH J
 j:J pre w
end Rt
theorem aon(a:Option Addr)(n c:Nat)(w:World) :
 Calls Tryz.prog 185 #[.slice a (n) (c)] w fun e w' => ∃ d,e = .returned (.func (.func 196) #[] #[(pt d)])/\w.heap.size<=d/\aQ w' d 1 (fun _ => .slice a n c) 63/\Below w.heap.size w w':=by
 refine Kent Tryz.func185 4 ?_;refine ay<|zO (.slice a (n) (c)) fun b l h f j m => ?_;have g:=bG j.old (Below.refl w.heap.size w);have i:=iB h;have k:=f.lt;refine av (.nilFunc)<|aC<|ay<|Lv (.func (.func 196) #[] #[(pt b)]) (Fx.nD (us := []) (vs := [(pt b)]) rfl rfl rfl)<|av (.func (.func 196) #[] #[(pt b)])<|aC<|Wr<|aJ (.func (.func 196) #[] #[(pt b)]) ?_;exact⟨b,rfl,i,f,g⟩
theorem ahg(J:List Nat->World->Prop)(h d c:Nat)(a:Option Addr)(l:List Int)(w:World)(o:aQ w d 1 (fun _ => .slice a (l.length) (c)) 63)(I:ny w a l.length 1 (xJ l))(n:JB J [] w)(U:l.length<=1000)
 (L : ∀ r x m,J r m->r.length<l.length->Go.YieldAt (Fx.FR none) 1 Tryz.prog h #[au (x:Nat),aD (l.getD x 0)] m fun e y=>e = .returned (.bool true)/\J (r ++ [x]) y/\OI d (.slice a l.length c) m y) :
  Calls Tryz.prog 196 #[.func (.yield h) #[] #[],(pt d)] w fun e w'=>(∃ v,e = .returned v) /\ ∃ F,F=FY l.length l.length/\J F w':=by
 have V:=o.lt;have n:JB J (FY l.length (l.length-l.length)) w:=by rw[Nat.sub_self]; exact n
 refine Kent Tryz.func196 19 ?_;refine ay<|Lv (.slice a (l.length) (c)) (aM o.aI 0)<|av (au l.length)<|Lv (au ((l.length:Int)-1)) gF<|av (au ((l.length:Int)-1))<|aC<|Wb<|Wo (fun f u => ∃ k:Nat,k<=l.length/\f 0 = .func (.yield h) #[] #[]/\f 1=(pt d)/\f 3=au ((k:Int)-1)/\aQ u d 1 (fun _ => .slice a (l.length) (c)) 63/\ny u a l.length 1 (xJ l)/\JB J (FY l.length (l.length-k)) u) (fun f _=>(intOf (f 3)+1).toNat) ⟨l.length,(z_ _),(by rfl),(by rfl),Fx.ic,o,I,n⟩ ?_;rintro S X ⟨k,T,A,B,g,D,E,p⟩;refine Ws<|ay<|aR g ?_;by_cases z:0<=((k:Int)-1)
 ·refine Lv aG (ko z)<|aC<|aO<|Wk<|sN<|Ws<|Wb<|Ws<|Fx.W.Zy 2<|Fx.Ly.v (.func (.yield h) #[] #[]) (eP rfl A) ?_;refine Fx.Ly.v (au ((k:Int)-1)) (eP rfl g) ?_;refine Fx.Ly.v (.slice a (l.length) (c)) (bB (x:=fun _ => .slice a (l.length) (c)) rfl B (by kernel_rfl) D.aI (i:=0) (by omega) (by omega) rfl) ?_;refine Fx.Ly.v (au ((k:Int)-1)) (eP rfl g) ?_;obtain⟨G,Q,H,M⟩:=E (by omega);refine Fx.Ly.v (pf G (k+Q-1)) (dO rfl (rfl.trans (K_ (fun q=>Value.slice q (l.length) (c)) H)) rfl Tryz.underlying63 (s:=1) (by kernel_rfl) (by omega) (by omega) (by omega)) ?_;refine Fx.Ly.v (aD (l.getD (k-1) 0)) (bB (x:=xJ l) rfl rfl (by kernel_rfl) M (i:=k-1) (by omega) (by omega) rfl) ?_;refine Fx.Ly.yield (l:=h) (args := [au ((k:Int)-1),aD (l.getD (k-1) 0)]) rfl rfl rfl (Fx.args2 rfl rfl) rfl (by have:=L (FY l.length (l.length-k)) (k-1) _ p.j (by rw[OG]; omega); rw[show((k-1:Nat):Int)=(k:Int)-1 by omega]at this; exact this) ?_;rintro R t ⟨rfl,K,C⟩;refine⟨.bool true,rfl,?_⟩;have N:aQ t d 1 (fun _ => .slice a (l.length) (c)) 63:=C.b.trans D;have O:ny t a l.length 1 (xJ l):=adp E (by decide) C;have P:JB J (FY l.length (l.length-(k-1))) t:=⟨p.ab,by rw[show l.length-(k-1)=(l.length-k)+1 by omega]; unfold FY; rw[show l.length-1-(l.length-k)=k-1 by omega]; exact K⟩;refine Fx.Ly.v (.bool false) (Fx.Ri rfl rfl) ?_;refine Fx.Ly.nil ?_;refine sN<|aK<|Wk<|bM<|sN<|Wl<|aR g<|Lv (au ((k:Int)-2)) gF<|av (au ((k:Int)-2))<|Ln<|fZ ⟨k-1,(by omega),A,B,Fx.ic,N,O,P⟩ ?_;show(intOf (au ((k:Int)-2))+1).toNat<_;simp only[g,intOf]; omega
 refine Lv aF (jT z) (aC (aK (Wx (cB (gG (cK (⟨.tuple #[],iM Tryz.results196,?_⟩)))))));exact⟨⟨_,rfl⟩,_,rfl,by have:=p.j; rw[show l.length-k=l.length by omega]at this; exact this⟩
theorem adr(b c:Nat)(a:Option Addr)(l:List Int)(i:l.length<=1000) :
 Z6.adn (Fx.FR none) 2 Tryz.prog 196 #[(pt b)] (fun x:Nat => #[au (x:Int),aD (l.getD x 0)]) (OI b (.slice a l.length c)) (fun k=>k=FY l.length l.length) l.length (BwP b a l.length c l) :=
 fun j J W ⟨h,e⟩ g f d=>callsIn_wide.2 (ahg J j b c a l W h e ⟨g,d⟩ i f)
namespace Rt
theorem OJ{l:List Int}{T:dL}(b:T.ok)(h : ∀ k,k∈l->T.has k=true)(x:Nat):0<=l.getD x 0/\l.getD x 0<=18446744073709551615:=by
 by_cases a:x<l.length
 ·have d:l.getD x 0∈l:=by rw[r_,o_ a]; exact P_ a
  obtain⟨i,c,e⟩:=gJ (h _ d);rw[<- e]; exact U0 b c
 rw[r_,List.getElem?_eq_none (by omega)]; decide
theorem OL{l:List Int}{T:dL}{pa:Int}(a:T.ok)(e:l=T.path pa)(x:Nat):0<=l.getD x 0/\l.getD x 0<=18446744073709551615:=OJ a (fun k d=>by
 obtain⟨i,b,c⟩:=List.getElem_of_mem d;have:=dL.Nb a e b;rw[r_,o_ b]at this;rw[<- c]; exact this) x
theorem Yj{l:List Int}{T:dL}(a:T.ok)(h : ∀ k,k∈l<->T.has k=true)(x:Nat):0<=l.getD x 0/\l.getD x 0<=18446744073709551615:=OJ a (fun k b=>(h k).1 b) x
end Rt
theorem ads(m:dQ)(lp B:Nat)(w:World)(h:lI w B lp m)(id pa:Int)(hid:0<=id/\id<=18446744073709551615) :
 Calls Tryz.prog 170 #[(pt lp),aD id,aD pa] w fun e w'=>e = .returned (au (m.T.err id pa))/\Below w.heap.size w w':=by
 have hC:=h.c;have hT:=h.t;have hP:=h.p;have hR:=h.r;have hG:=h.g;have hA:=h.a;have hN:=h.ne;have lC:=h.c.lt;have lT:=h.t.lt;have lP:=h.p.lt;have lR:=h.r.lt;have lG:=h.g.lt;have lA:=h.a.lt;refine Fx.adl 3 Tryz.func170 rfl (n:=55) rfl (by rfl) ?_;refine Fx.W0.seq<|Fx.W0.list<|zO (pt lp) fun g1 w1 ng m1 s1 z1 => ?_;have⟨m2,m3,m4,m5,m6,m7,b1⟩:=jI s1.old hC hT hP hR hG hA (Below.refl w.heap.size w);have sw:=iB ng;have⟨nK,xC,tZ,Ba,zH⟩:=Dh ng hC.lt hP.lt hR.lt hG.lt hA.lt;have wu:=m1.lt;refine av (au 0)<|Ln<|Fx.qF<|Fx.W0.seq<|Fx.W0.list<|lV (ZQ _) ?_;rintro e9 w2 ⟨v,j,u,hg1,m8,hb1⟩;refine⟨_,u,?_⟩;clear u;have nem.asG:m.mb≠j:=t_ (n_ m3.lt hg1);have⟨m9,m10,m11,m12,m13,m14,m15,b2⟩:=mP hb1 m2 m3 m4 m5 m6 m7 m1 b1;have m16:rP w2 (w.heap.size) v j dL.zero:=m8.weak b1.size;clear m8 hg1;refine xD 1 (fun _ => .pointer none) fun L w3 xW m17 s3 z2 => ?_;have⟨m18,m19,m24,nA,b3⟩:=sH s3.old m9 m10 m15 m16 b2;have sP:=jE xW b2.size;have⟨adt,adu,adv,aoo,aop,aoq⟩:=Iz xW m9.lt m11.lt m12.lt m13.lt m14.lt m15.lt;have Bl:=m17.lt;refine jh m17 0 (pt v) fun w4 oo s4 z3 => ?_;have pE:aQ w4 L 1 (fun _=>(pt v)) 98:=dM oo;have gM:=iw s4 m17.ty;have⟨oN,pF,nX,pW⟩:=Mf gM m18 m19 m24 nA;have b4:=s4.below b3 b3.size (by omega);refine Ln<|Fx.qF<|Fx.W0.seq<|Fx.W0.list<|Lv (pt lp) (aM nX.aI 0)<|av (pt lp)<|av (pf lp 18)<|Lv (pt m.tp) (aM oN.aI 18)<|av (aD pa)<|lV (IJ pa pF) ?_;rintro e9 w5 ⟨F,G,u,qm,hb2⟩;refine⟨_,u,?_⟩;clear u;have⟨nC,sI,qZ,b5⟩:=qj hb2 nX pW pE b4;obtain⟨l,J⟩ : ∃ q,q=dL.path m.T pa:=⟨_,rfl⟩;rw[<- J]at qm ⊢;have hl4:l.length<=4:=by rw[J]; exact dL.yQ
 refine av (.slice F (l.length) (G))<|Ln<|Fx.qF<|Fx.W0.seq<|Fx.W0.seq<|Fx.W0.list<|av (.slice F (l.length) (G))<|lV (aon F l.length G _) ?_;rintro e9 w6 ⟨sb1,u,hg2,nZ,hb3⟩;refine⟨_,u,?_⟩;clear u;have⟨tJ,E,wZ,uq,U⟩:=sH hb3 nC sI qZ qm b5;refine Ln<|Fx.qF<|Fx.W0.block ?_;have ahh:g1≠j:=E.map.ne tJ.ty;have avU:=tJ.lt;have ahi:L≠j:=E.map.ne wZ.ty;have avV:=wZ.lt;have Z7:sb1≠j:=E.map.ne nZ.ty;have ahj:=nZ.lt;have hgm:=E.gm;have ltm:=E.lt;have ltt:=E.blk.lt;have K : ∀ g,(.slice F (l.length) (G):Value).ownBlock=some g->g<w6.heap.size/\g≠j:=fun g y=>Yi uq E.map y;refine Fx.W0.ado (gf:=196) (lb := #[(pt sb1)]) (eu:=fun x:Nat=>au (x:Int)) (ev2:=fun x=>aD (l.getD x 0)) (by decide) rfl (fun args w=>jR Tryz.func196 (by kernel_rfl) rfl args w) (adr sb1 G F l (by omega)) ⟨nZ,Fx.abI uq⟩ (fun W o _ hi=>hi.alloc o) (fun h k=>h.trans k) (fun W l o o' J _ _=>OI.put ahj (fun g y=>(K g y).1) W l o o' J) (by decide) (by decide) (fun xs W=>rP W (w.heap.size) v j (LQ m.T l xs)/\Stp j w6 W) (U5 ltt ltm) ⟨E,nu _ _⟩ (fun x f=>f 3=(pt g1)/\f 7=(pt L)/\f 10=aD (l.getD x 0)) ?_ ?_ ?_
 ·intro ly x W;exact Fx.W0.list (Lv (aD (l.getD x 0)) (eX rfl rfl) (Ln ⟨rfl,rfl,⟨rfl,rfl,rfl⟩,rfl⟩))
 ·rintro ly pre x W f9 ⟨q3,q7,q10⟩ ⟨hT2,s⟩ hpl hWs;have H:Below w.heap.size w W:=s.below U U.size hgm;have C:=h.up H;have hPW:=C.p;have M:=C.c;have N:=C.t;have Q:=tJ.dh s ahh;have ahk:=Q.lt;have R:=wZ.dh s ahi;have ahl:=R.lt;have lWm:j<W.heap.size:=n_ ltm s.size;have lWt:w6.heap.size<=W.heap.size:=s.size;have lCW:=M.lt;have lPW:=hPW.lt;have lTW:=N.lt;have lh0:=h.t.lt;have lh1:=h.p.lt;refine Fx.W0.block ?_;refine Fx.W0.ahe [1,6,0,2,3,4,5,7,8] [4,0,4,0,0,4,0,4,3] Fx.Mk uP Fx.Mk.trans (fH := [(8,0,[0]),(8,2,[7,5,4,3,2]),(8,5,[7,5]),(8,7,[7])]) (by kernel_rfl) (by kernel_rfl) (by kernel_rfl) (by kernel_rfl) (by kernel_rfl) fun qA dS iy => ?_;have s7:Stp W.heap.size W qA:=Sb dS;have⟨sM,sO,xg,pY,uI,nL⟩:=ql dS M hPW N Q R hT2;have b7:=(nu j W).then s7 (.inr (nu j W).size);refine bY q10<|bY q10<|Rs (pt v) (aM uI.aI 0 (ha:=q7)) ?_;refine Rs (pt lp) (aM pY.aI 0 (ha:=q3)) ?_;refine aZ (pt lp)<|aZ (pf lp 19)<|Rs (.map (some m.pb)) (aM sM.aI 19) ?_
  rcases Fx.rH m.T.x m.T.n (l.getD x 0)with ⟨U6,CQ,CS⟩|jg
  ·refine Rs (aD (m.T.p U6)) (Fx.vZ (z:=aD 0) rfl rfl rfl sO Tryz.underlying100 Tryz.underlying28 (by rfl) CQ CS rfl) ?_;refine gI<|dX (Kc (l.getD x 0) (m.T.p U6) nL (OL h.t.inv J x)) _ rfl ?_;rintro w7 ⟨ru,s8⟩;have O:=nL.Bt s8;have m64:=sM.dR O;have uW:=sO.dR O (by omega);have uJ:=xg.dR O (by omega);have wz:=pY.dR O;have wB:=uI.dR O;have V:=b7.then s8 (.inl rfl);refine Ln<|Rn<|Fx.KU ?_;have ep:m.T.par (l.getD x 0)=m.T.p U6:=Au C.t.inv.inj CQ CS;refine⟨rfl,⟨V.size,fun q hq hq2=>V.block q hq2 (by omega)⟩,OI.Bv V (by omega) Z7 (fun g y=>⟨n_ (K g y).1 lWt,(K g y).2⟩),?_,s.then V (.inl rfl)⟩;rw[Fw,ep]; exact ru
  refine Rs (aD 0) (Fx.NM (z:=aD 0) rfl rfl rfl sO Tryz.underlying100 Tryz.underlying28 (by rfl) jg) ?_;refine gI<|dX (Kc (l.getD x 0) 0 nL (OL h.t.inv J x)) _ rfl ?_;rintro w8 ⟨rM,s9⟩;have P:=nL.Bt s9;have tL:=sM.dR P;have uK:=sO.dR P (by omega);have tN:=xg.dR P (by omega);have sG:=pY.dR P;have xk:=uI.dR P;have X:=b7.then s9 (.inl rfl);refine Ln<|Rn<|Fx.KU ?_;have ep:m.T.par (l.getD x 0)=0:=adq jg;refine⟨rfl,⟨X.size,fun q hq hq2=>X.block q hq2 (by omega)⟩,OI.Bv X (by omega) Z7 (fun g y=>⟨n_ (K g y).1 lWt,(K g y).2⟩),?_,s.then X (.inl rfl)⟩;rw[Fw,ep]; exact rM
 rintro D xs W hD rfl ⟨hT2,s⟩ hK;have H:Below w.heap.size w W:=s.below U U.size hgm;have C:=h.up H;have hPW:=C.p;have M:=C.c;have N:=C.t;have Q:=tJ.dh s ahh;have ahk:=Q.lt;have R:=wZ.dh s ahi;have ahl:=R.lt;have lWm:j<W.heap.size:=n_ ltm s.size;have lWt:w6.heap.size<=W.heap.size:=s.size;have lCW:=M.lt;have lPW:=hPW.lt;have lTW:=N.lt;have lh0:=h.t.lt;have lh1:=h.p.lt;have lDW:=(Array.getElem?_eq_some_iff.1 hK).1;have oW:=uq.dh s (fun e=>(K _ e).2 rfl);refine Fx.KU<|Fx.qF<|Fx.W0.seq<|Fx.W0.seq<|Fx.W0.list<|Lv (pt lp) (aM Q.aI 0) ?_;refine av (pt lp)<|av (pf lp 18)<|Lv (pt m.tp) (aM M.aI 18)<|lV (Td N) ?_;rintro e9 w9 ⟨Z8,A,d,u,tO,hq1,ahm,hb4⟩;refine⟨_,u,?_⟩;clear u;have s10:=Sb hb4;have⟨uL,tQ,wC⟩:=kI hb4 R hT2 oW;have b10:=(nu j W).then s10 (.inr (nu j W).size);refine av (au d.length)<|av (au 0)<|Ln<|Fx.qF<|Fx.W0.block<|Fx.W0.loop (fun f S => ∃ i:Nat,i<=d.length/\f 1=aD id/\f 2=aD pa/\f 7=(pt L)/\f 8 = .slice F (l.length) (G)/\f 37 = .slice Z8 (d.length) (A)/\f 38=au (d.length:Int)/\f 39=au (i:Int)/\aQ S L 1 (fun _=>(pt v)) 98/\rP S (w.heap.size) v j (kU l d (LQ m.T l (FY l.length l.length)) i)/\Fx.Own S W.heap.size 28 1 (.slice Z8 (d.length) (A)) d.length (xJ d)/\Fx.Own S w4.heap.size 28 1 (.slice F (l.length) (G)) l.length (xJ l)/\Stp j W S) (fun f _=>((d.length:Int)-intOf (f 39)).toNat) ⟨0,(by omega),Fx.ic,Fx.ic,(by rfl),(by rfl),(by rfl),Fx.ic,Fx.ic,uL,tQ,tO,wC,b10⟩ ?_;rintro f1 um ⟨i,hi,h1,h2,h3,h4,h5,h6,I,yI,xw,yJ,zF,b11⟩;refine Fx.W0.seq<|Fx.W0.list ?_;by_cases c40:(i:Int)<(d.length:Int)
 ·refine Lv aG (gU c40 (hx:=I) (hy:=h6)) (Ln (Fx.qF (Fx.W0.seq (Fx.W0.cond (b:=true) rfl (fun _=>Fx.W0.skip (Fx.qF (Fx.W0.seq (Fx.W0.block (Fx.W0.seq (Fx.W0.list ?_)))))) (fun h=>nomatch h)))));obtain⟨CG,Z⟩:=yJ.addr (by omega);have zG:Fx.Own um W.heap.size 28 1 (bK CG d.length A) d.length (xJ d):=yJ.fq (K_ (fun q=>Value.slice q d.length A) Z);refine Lv (pf CG i) (cZ 1 (hx:=(h5.trans (K_ (fun q=>Value.slice q (d.length) (A)) Z))) (hi:=I))<|Lv (aD (d.getD i 0)) (aM zG.aI i)<|av (aD (d.getD i 0))<|Ln<|Fx.qF<|Fx.W0.seq<|Fx.W0.list<|aR h4<|av (aD (d.getD i 0))<|dX (akP l (d.getD i 0) _ _ _ _ zF (by omega)) (ax := #[.slice F (l.length) (G),aD (d.getD i 0)]) _ rfl ?_;intro Ev hb5;have s11:=Sb hb5;have⟨zi,zk,zT,Ey⟩:=qj hb5 yI xw zF zG;have b12:=b11.then s11 (.inr b11.size);by_cases Y:d.getD i 0∈l
  ·skip
   refine Lv aF (Fx.Ri rfl (K_ Value.bool (f_ Y)))<|Ln<|Fx.qF<|Fx.W0.cond (b:=false) rfl (fun h=>nomatch h)<|fun _=>Fx.W0.skip<|Fx.KU<|Fx.qF<|Fx.W0.list<|Lv (au ((i:Int)+1)) (dZ (hx:=I))<|av (au ((i:Int)+1))<|Ln ?_;have AJ:Fx.Own Ev W.heap.size 28 1 (.slice Z8 (d.length) (A)) d.length (xJ d):=Ey.fq (K_ (fun q=>Value.slice q d.length A) Z.symm);have yM:rP Ev (w.heap.size) v j (kU l d (LQ m.T l (FY l.length l.length)) (i+1)):=by unfold kU; rw[d_ Y]; exact zk
   skip
   refine Fx.ahc ⟨i+1,(by omega),(h1.trans Fx.ic),(h2.trans Fx.ic),h3,h4,h5,(h6.trans Fx.ic),Fx.ic,zi,yM,AJ,zT,b12⟩ ?_;show((d.length:Int)-intOf (au ((i:Int)+1))).toNat<_;simp only[I,intOf]; omega
  skip
  refine Lv aG (Fx.aav rfl (K_ Value.bool (g_ Y))) (Ln (Fx.qF (Fx.W0.cond (b:=true) rfl (fun _=>Fx.W0.list (Lv (pt v) (aM zi.aI 0 (ha:=h3)) ?_)) (fun h=>nomatch h))));refine av (aD (d.getD i 0))<|dX (Kc (d.getD i 0) 0 zk (Yj h.t.inv hq1.2 i)) _ rfl ?_;rintro Dn ⟨zl,s12⟩;have adw:=zk.Bt s12;have xB:=zi.dR adw;have zW:=zT.dR adw;have Bn:=Ey.dR adw;have b13:=b12.then s12 (.inl rfl);refine Ln<|Fx.KU<|Fx.qF<|Fx.W0.list<|Lv (au ((i:Int)+1)) (dZ (hx:=I))<|av (au ((i:Int)+1))<|Ln ?_;have DT:Fx.Own Dn W.heap.size 28 1 (.slice Z8 (d.length) (A)) d.length (xJ d):=Bn.fq (K_ (fun q=>Value.slice q d.length A) Z.symm);have EG:rP Dn (w.heap.size) v j (kU l d (LQ m.T l (FY l.length l.length)) (i+1)):=by unfold kU; rw[b_ Y]; exact zl
  skip
  refine Fx.ahc ⟨i+1,(by omega),(h1.trans Fx.ic),(h2.trans Fx.ic),h3,h4,h5,(h6.trans Fx.ic),Fx.ic,xB,EG,DT,zW,b13⟩ ?_;show((d.length:Int)-intOf (au ((i:Int)+1))).toNat<_;simp only[I,intOf]; omega
 refine Lv aF (gV c40 (hx:=I) (hy:=h6))<|Ln<|Fx.qF<|Fx.W0.seq<|Fx.W0.cond (b:=false) rfl (fun h=>nomatch h)<|fun _=>Fx.W0.exit<|Fx.aha<|Fx.aok<|Fx.ahb<|Fx.qF<|Fx.W0.seq ?_;have hil:i=d.length:=by omega
 refine Fx.W0.list<|Lv (pt v) (aM yI.aI 0 (ha:=h3)) ?_;refine aR h1<|aR h2<|dX (Kc id pa xw hid) _ rfl ?_;rintro GD ⟨rX,s13⟩;have adx:=xw.Bt s13;have uw:=yI.dR adx;have sS:=yJ.dR adx;have qQ:=zF.dR adx;have b14:=b11.then s13 (.inl rfl);refine av (au (dL.err (kU l d (LQ m.T l (FY l.length l.length)) i) id pa))<|Ln<|Fx.qF<|Fx.W0.ret ?_;have hKD:=(b14.block D lDW (by omega)).trans hK;have eD:dL.err (kU l d (LQ m.T l (FY l.length l.length)) d.length) id pa=m.T.err id pa:=Yh h.t.inv J hq1;refine Fx.leaveD hKD (rV Tryz.results170 (show Fx.L6 Tryz.prog _ _ (.tmp 6) (au (dL.err (kU l d (LQ m.T l (FY l.length l.length)) i) id pa))from rfl)) ⟨by rw[hil,eD],?_⟩;exact(b14.below H H.size hgm).grown (grownBy_putObj' _ D _) (b14.below H H.size hgm).size fun r e=>by cases e; omega
end Go.Proofs.YtahbiajdgealnaaGreatDoor
