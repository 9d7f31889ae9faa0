/-
  What the proof of the law rests on, part 7: walks of functions, and plain laws; each says its conditions itself.
-/
import Derived.Deep.Slices
import Derived.Lib.SmallJoins
import Derived.ChangeArms
import Derived.Test.YtahbiajdgealnaaDoorRows
import Derived.LaidMore
import Derived.OpenShut
import Derived.ProofKit
import Derived.Stop.Joined
import Derived.Test.YtahbiajdgealnaaDoorZA6
namespace Go.Proofs.YtahbiajdgealnaaDoor
open Go.RowKit Go
set_option linter.unusedVariables false
set_option maxRecDepth 20000
namespace Rt
section
variable {m:dD} {k:Int} {i:Nat}
theorem dD.Gi(hT:m.T.ok)(hk:m.T.has k=true):m.idx k<m.T.n/\m.T.x (m.idx k)=k:=by
 obtain⟨j,hj,e⟩:=dW hk
 have:m.idx k=j:=iU hT.inj hj e
 rw[this]; exact⟨hj,e⟩
theorem Lp(x:Nat->Int)(id:Int) : ∀ n,(∀ i,i<n->x i≠id)->tu (Fx.aH x n id) (n+1) id=n:=fun n _=>by
 unfold tu
 rw[if_pos]
 unfold Fx.aH
 rw[if_pos rfl]
theorem zU{x y:Nat->Int}{k:Int} : ∀ {n:Nat},(∀ i,i<n->x i=y i)->tu x n k=tu y n k
 | 0,_=>rfl
 | n+1,h=>by unfold tu; rw[h n (by omega),zU (n:=n) fun i hi=>h i (by omega)]
theorem Lr(x:Nat->Int){id k:Int}(n:Nat)(hk:id≠k):tu (Fx.aH x n id) (n+1) k=tu x n k:=by
 have h1:Fx.aH x n id n=id:=by unfold Fx.aH; rw[if_pos rfl]
 show(if Fx.aH x n id n=k then n else tu (Fx.aH x n id) n k)=_
 rw[h1,if_neg hk]
 exact zU fun i hi=>by unfold Fx.aH; rw[if_neg (by omega)]
theorem zV{f g:Nat->Int}{o:Int} : ∀ {n:Nat},(∀ i,i<n->f i=g i)->pG f o n=pG g o n
 | 0,_=>rfl
 | n+1,h=>by unfold pG; rw[zV (n:=n) fun i hi=>h i (by omega),h n (by omega)]
theorem Dt{f:Nat->Int}{o v:Int}{k:Nat} : ∀ n,k<=n->pG (Fx.dB f k v) o (n+1)=pG f o n+if v / 1099511627776=o then 1 else 0
 | 0,h=>by
   obtain rfl:k=0:=by omega
   show 0+(if Fx.dB f 0 v 0 / 1099511627776=o then 1 else 0)=0+_
   rw[bQ]
 | n+1,h=>by
   by_cases e:k=n+1
   ·subst e
    show pG (Fx.dB f (n+1) v) o (n+1)+(if Fx.dB f (n+1) v (n+1) / 1099511627776=o then 1 else 0)=_
    rw[bQ,zV (g:=f) fun i hi=>wD hi]
   ·show pG (Fx.dB f k v) o (n+1)+(if Fx.dB f k v (n+1) / 1099511627776=o then 1 else 0)=pG f o n+(if f n / 1099511627776=o then 1 else 0)+_
    rw[Dt n (by omega),wE (by omega)]
    show _+(if f n / 1099511627776=o then 1 else 0)=_
    omega
theorem Gj{f:Nat->Int}{o:Int} : ∀ n,pG f o n<=n
 | 0=>Nat.le_refl _
 | n+1=>by have:=Gj (f:=f) (o:=o) n; unfold pG; split <;> omega
theorem uP{P:Nat->Bool}{n:Nat}:0<=gX P n <-> ∃ j,j<n/\P j=true:=by
 rcases iZ P n with ⟨k,hk,e,hp⟩|⟨e,h⟩
 ·rw[e]; exact⟨fun _=>⟨k,hk,hp⟩,fun _=>by omega⟩
 rw[e]; exact⟨fun h=>by omega,fun⟨j,hj,hp⟩=>by rw[h j hj]at hp; cases hp⟩
end
structure dS(m:dD)(L:fO):Prop where
 T:uO m.T L
 inn:m.inn=L.inn
 left:m.left=L.left
 known:m.known=L.known
 row : ∀ i,i<L.nn->tN m (L.id i)=L.R i
 own : ∀ a,a<6->m.own a=((pG L.id ((a:Int)+1) L.nn:Nat):Int)
 gi : ∀ i j,i<m.gn->j<m.gn->m.g i 0=m.g j 0->m.g i 1=m.g j 1->i=j
 gn:m.gn=L.gn
 g1 : ∀ q,q<L.gn -> ∃ j,j<m.gn/\m.g j=L.g q
 g2 : ∀ j,j<m.gn -> ∃ q,q<L.gn/\L.g q=m.g j
 ask : ∀(a:Nat) (r:Int),a<6->(jy m ((a:Int)+1) r=true <-> ∃ j,j<L.rn a/\L.rq a j=r)
 ga:SG m
 li : ∀ p q,p<L.gn->q<L.gn->L.g p 0=L.g q 0->L.g p 1=L.g q 1->p=q
section
variable {m:dD} {L:fO} {N:Nat} {v:EvM} {x:Int}
theorem dS.node(h:dS m L)(hI:Inv0 L N)(x:Int):m.T.has x=true<->0<=L.node x:=by rw[h.T.find hI,hI.node]
theorem dS.Du(h:dS m L)(hI:Inv0 L N)(x:Int):m.T.has x=false<->L.node x<0:=by rw[h.T.findF hI,hI.node]
theorem Inv0.NZ(hI:Inv0 L N)(hx:0<=L.node x):(L.node x).toNat<L.nn/\L.id (L.node x).toNat=x:=by
 rw[hI.node]at hx ⊢
 obtain⟨j,hj,e,e2⟩:=pF hx
 rw[e]
 rw[hI.uE]at hj
 exact⟨hj,by show L.id j=x; rw[<- (hI.tid j hj).1]; exact e2⟩
theorem dS.rk(h:dS m L)(hI:Inv0 L N)(hx:0<=L.node x):tN m x=L.R (L.node x).toNat:=by
 obtain⟨h1,h2⟩:=hI.NZ hx
 rw[<- h.row _ h1,h2]
theorem dS.vU(h:dS m L)(hT:m.T.ok)(hI:Inv0 L N)(hx:m.T.has x=true)(r:Nat->Int):dS (vU m x r) { L with R:=aY L.R (L.node x).toNat r }:=by
 have hn:=(h.node hI x).1 hx
 obtain⟨h1,h2⟩:=hI.NZ hn
 refine { h with row:=fun i hi => ?_,T:=⟨h.T.has,h.T.n,h.T.par⟩ }
 show Fx.aH m.R (m.idx x) r (m.idx (L.id i))=aY L.R (L.node x).toNat r i
 unfold Fx.aH aY
 by_cases e:i=(L.node x).toNat
 ·subst e; rw[h2,if_pos rfl,if_pos rfl]
 rw[if_neg e,if_neg]
 ·exact h.row i hi
 intro e2
 have h3:=(dD.Gi hT ((h.T.has _).2 ⟨i,hi,rfl⟩)).2
 have h4:=(dD.Gi hT hx).2
 rw[e2,h4]at h3
 exact e (hI.inj i _ hi h1 (by rw[h2]; exact h3.symm))
theorem dS.along(h:dS m L)(hT:m.T.ok)(hI:Inv0 L N)(f:(Nat->Int)->(Nat->Int) × Int)(x:Int) :
 bR m f (m.T.path x)=(dG f (qH L x) L.R (fF L.t L.tn x)).2/\((dG f (qH L x) L.R (fF L.t L.tn x)).2=0 -> ∀ i,i<L.nn->(kY m f (m.T.path x)).R (m.idx (L.id i))=(dG f (qH L x) L.R (fF L.t L.tn x)).1 i):=by
 obtain⟨p1,p2⟩:=h.T.path hT hI x
 have hnd:(m.T.path x).Nodup:=cu.rM hT x
 have hlt : ∀ i,i<fF L.t L.tn x->0<=L.node (bE L.t L.tn i x):=fun i hi=>by rw[hI.node]; exact xQ hi
 have inj : ∀ i j,i<fF L.t L.tn x->j<fF L.t L.tn x->qH L x i=qH L x j->i=j:=fun i j hi hj e=>by
  have a:=hI.NZ (hlt i hi)
  have b:=hI.NZ (hlt j hj)
  have e:(L.node (bE L.t L.tn i x)).toNat=(L.node (bE L.t L.tn j x)).toNat:=e
  rw[e]at a
  have e2:bE L.t L.tn i x=bE L.t L.tn j x:=a.2.symm.trans b.2
  rw[<- p2 i (by omega),<- p2 j (by omega)]at e2
  exact uN hnd (by omega) (by omega) e2
 obtain⟨w1,w2⟩:=yt (f:=f) (idx:=qH L x) (R:=L.R) inj
 refine⟨?_,fun h0 i hi => ?_⟩
 ·rw[w1]
  unfold bR
  rw[p1]
  exact vG fun i hi=>by
   rw[p2 i (by omega)]
   exact h.rk hI (hlt i hi)
 have hi2:=(dD.Gi hT ((h.T.has _).2 ⟨i,hi,rfl⟩)).2
 show(if m.T.x (m.idx (L.id i))∈m.T.path x then(f (m.R (m.idx (L.id i)))).1 else m.R (m.idx (L.id i)))=_
 rw[hi2,show m.R (m.idx (L.id i))=L.R i from h.row i hi]
 have key:L.id i∈m.T.path x <-> ∃ q,q<fF L.t L.tn x/\qH L x q=i:=by
  rw[h.T.mem hT hI]
  constructor
  ·rintro ⟨q,hq,e⟩
   exact⟨q,hq,(wG hI hi hq).2 e⟩
  ·rintro ⟨q,hq,e⟩
   exact⟨q,hq,(wG hI hi hq).1 e⟩
 rcases w2 h0 i with ⟨e1,e2⟩|⟨e1,q,hq,e2⟩
 ·rw[e1,if_neg]
  rw[key]; rintro ⟨q,hq,e⟩; exact e2 q hq e
 rw[e1,if_pos (key.2 ⟨q,hq,e2⟩)]
theorem dS.asked(h:dS m L)(hv:bZ v=true)(r:Int):jy m v.o r=true<->0<=L.uz (bC v) r:=by
 obtain⟨a,ha,ho⟩:=eF (ig hv)
 have:bC v=a:=by unfold bC; omega
 rw[this,ho,h.ask a r ha]
 unfold fO.uz
 rw[uP]
 constructor
 ·rintro ⟨j,hj,e⟩; exact⟨j,hj,decide_eq_true e⟩
 rintro ⟨j,hj,e⟩; exact⟨j,hj,of_decide_eq_true e⟩
theorem dS.grant(h:dS m L)(o r:Int):(Ba m o r=true<->0<=L.grant o r)/\(0<=L.grant o r->(L.grant o r).toNat<L.gn/\lD m o r<m.gn/\m.g (lD m o r)=L.g (L.grant o r).toNat/\L.g (L.grant o r).toNat 0=o/\L.g (L.grant o r).toNat 1=r):=by
 have k1:Ba m o r=true <-> ∃ j,j<m.gn/\m.g j 0=o/\m.g j 1=r:=lu
 have k2:0<=L.grant o r <-> ∃ q,q<L.gn/\L.g q 0=o/\L.g q 1=r:=by
  unfold fO.grant
  rw[uP]
  constructor
  ·rintro ⟨j,hj,e⟩; rw[Bool.and_eq_true]at e; exact⟨j,hj,of_decide_eq_true e.1,of_decide_eq_true e.2⟩
  ·rintro ⟨j,hj,e1,e2⟩; exact⟨j,hj,by rw[decide_eq_true e1,decide_eq_true e2]; rfl⟩
 refine⟨?_,fun hg => ?_⟩
 ·rw[k1,k2]
  constructor
  ·rintro ⟨j,hj,e1,e2⟩
   obtain⟨q,hq,e⟩:=h.g2 j hj
   exact⟨q,hq,by rw[e]; exact e1,by rw[e]; exact e2⟩
  rintro ⟨q,hq,e1,e2⟩
  obtain⟨j,hj,e⟩:=h.g1 q hq
  exact⟨j,hj,by rw[e]; exact e1,by rw[e]; exact e2⟩
 have : ∃ q,q<L.gn/\L.grant o r=(q:Int)/\L.g q 0=o/\L.g q 1=r:=by
  unfold fO.grant at hg ⊢
  rcases iZ (fun i=>decide (L.g i 0=o)&&decide (L.g i 1=r)) L.gn with ⟨q,hq,e,hp⟩|⟨e,_⟩
  ·rw[Bool.and_eq_true]at hp; exact⟨q,hq,e,of_decide_eq_true hp.1,of_decide_eq_true hp.2⟩
  ·omega
 obtain⟨q,hq,e,e1,e2⟩:=this
 rw[e]
 obtain⟨j,hj,ej⟩:=h.g1 q hq
 have:lD m o r=j:=tQ h.gi hj (by show m.g j 0=o; rw[ej]; exact e1) (by show m.g j 1=r; rw[ej]; exact e2)
 rw[this]
 exact⟨hq,hj,ej,e1,e2⟩
theorem dS.VH(h:dS m L)(hT:m.T.ok)(hI:Inv0 L N)(hv:bZ v=true)(hk:v.kind=1):jw m v=pI L v:=by
 obtain⟨a,ha,ho⟩:=eF (ig hv)
 have hr:bC v=a:=by unfold bC; omega
 unfold jw pI
 rw[hr,h.own a ha,ho]
 have e1:(5<=((pG L.id ((a:Int)+1) L.nn:Nat):Int)\/140737488355328<v.bL)<->(5<=pG L.id ((a:Int)+1) L.nn\/140737488355328<v.bL):=by omega
 have e2:jZ v=tY ((a:Int)+1) v.seq:=by rw[<- ho,wF hv]; rfl
 by_cases c:5<=pG L.id ((a:Int)+1) L.nn\/140737488355328<v.bL
 ·rw[if_pos c,if_pos (e1.2 c)]
 rw[if_neg c,if_neg (fun q=>c (e1.1 q)),h.T.err hT hI,e2]
theorem dS.make(h:dS m L)(hT:m.T.ok)(hI:Inv0 L N)(hv:bZ v=true)(hk:v.kind=1)(hE:pI L v=0):dS (zO m v) (pK L v):=by
 obtain⟨k,hkn,a1,a2,a3,a4,a5,eC,hrise,En,hup⟩:=rA hI hv hk hE
 have hid:=wF hv
 have hbd:=kX hv
 have VI:jZ v=tY v.o v.seq:=by rw[hid]; rfl
 have hno:m.T.has (jZ v)=false:=by
  rw[h.T.findF hI,VI,mY]
  exact hup.no
 have hnx : ∀ i,i<m.T.n->m.T.x i≠jZ v:=fun i hi e=>by
  have:=cu.tF hi; rw[e,hno]at this; cases this
 rw[eC]
 have hhas : ∀ q,(m.T.put (jZ v) v.node).has q=true<->(m.T.has q=true\/q=jZ v):=fun q=>by
  rw[cu.gZ,Bool.or_eq_true,decide_eq_true_iff]
  exact⟨fun h=>h.imp id Eq.symm,fun h=>h.imp id Eq.symm⟩
 have hne : ∀ q,q<L.nn->L.id q≠jZ v:=fun q hq e=>by
  have:=(h.T.has _).2 ⟨q,hq,rfl⟩; rw[e,hno]at this; cases this
 refine {
  T:=⟨fun q => ?_,?_,fun i hi => ?_⟩
  inn:=h.inn
  left:=h.left
  known:=h.known
  row:=fun i hi => ?_
  own:=fun a ha => ?_
  gi:=h.gi
  gn:=h.gn
  g1:=h.g1
  g2:=h.g2
  ask:=h.ask
  ga:=h.ga
  li:=h.li }
 ·show(m.T.put (jZ v) v.node).has q=true <-> ∃ i,i<L.nn+1/\Fx.dB L.id k (tY v.o v.seq) i=q
  rw[hhas,h.T.has]
  constructor
  ·rintro (⟨i,hi,e⟩|e)
   ·obtain⟨j,hj,_,e2⟩:=sW (k:=k) hi
    exact⟨j,hj,by rw[e2]; exact e⟩
   exact⟨k,by omega,by rw[bQ,e,VI]⟩
  rintro ⟨i,hi,e⟩
  rcases cZ hkn hi with rfl|⟨j,hj,e2,_,_⟩
  ·rw[bQ]at e; exact .inr (by rw[<- e,VI])
  rw[e2]at e; exact .inl ⟨j,hj,e⟩
 ·show m.T.n+1=L.nn+1
  rw[h.T.n]
 ·show(m.T.put (jZ v) v.node).par (Fx.dB L.id k (tY v.o v.seq) i)=Fx.dB L.par k v.node i
  rw[cu.nN]
  rcases cZ hkn hi with rfl|⟨j,hj,e2,_,_⟩
  ·rw[bQ,bQ,if_pos VI]
  rw[e2,e2,if_neg (fun e=>hne j hj e.symm)]; exact h.T.par j hj
 ·show Fx.aH m.R m.T.n _ (tu (Fx.aH m.T.x m.T.n (jZ v)) (m.T.n+1) (Fx.dB L.id k (tY v.o v.seq) i))=Fx.dB L.R k _ i
  rcases cZ hkn hi with rfl|⟨j,hj,e2,_,_⟩
  ·rw[bQ,bQ,<- VI,Lp _ _ _ hnx]; unfold Fx.aH; rw[if_pos rfl]
  rw[e2,e2,Lr _ _ (fun e=>hne j hj e.symm)]
  have h1:=(dD.Gi hT ((h.T.has _).2 ⟨j,hj,rfl⟩)).1
  have h1:tu m.T.x m.T.n (L.id j)<m.T.n:=h1
  unfold Fx.aH
  rw[if_neg (by omega)]
  exact h.row j hj
 show aY m.own (bC v) (m.own (bC v)+1) a=((pG (Fx.dB L.id k (tY v.o v.seq)) ((a:Int)+1) (L.nn+1):Nat):Int)
 rw[Dt _ hkn,hid]
 have hd:(1099511627776*v.o+v.seq) / 1099511627776=v.o:=by omega
 rw[hd]
 unfold aY
 by_cases e:a=bC v
 ·rw[if_pos e,<- e,h.own a ha,if_pos (by unfold bC at e; omega)]; rfl
 rw[if_neg e,h.own a ha,if_neg (by unfold bC at e; omega)]; rfl
attribute [local irreducible] fF dG bR in
theorem dS.pE(h:dS m L)(hT:m.T.ok)(hI:Inv0 L N)(hv:bZ v=true):jO m v=nW L v:=by
 unfold jO nW
 by_cases c:jy m v.o v.req=true
 ·rw[if_pos c,if_pos ((h.asked hv _).1 c)]
 rw[if_neg c,if_neg (fun e=>c ((h.asked hv _).2 e))]
 obtain⟨p1,_⟩:=h.T.path hT hI v.node
 have e2:m.T.has v.node=false<->fF L.t L.tn v.node=0:=by
  rw[<- p1]
  constructor
  ·intro h0; rw[show m.T.path v.node = []from iH h0]; rfl
  ·intro h0
   cases e:m.T.has v.node with
   | false=>rfl
   | true=>rw[cu.step hT e]at h0; simp at h0
 by_cases c2:m.T.has v.node=false
 ·rw[if_pos c2,if_pos (e2.1 c2)]
 rw[if_neg c2,if_neg (fun e=>c2 (e2.2 e))]
 exact(h.along hT hI _ _).1
theorem Ls{k1 k2:Nat->Int}{n:Nat}{a b o r:Int}:yQ (Fx.aH k1 n a) (Fx.aH k2 n b) (n+1) o r=true<->(yQ k1 k2 n o r=true\/(a=o/\b=r)):=by
 rw[lu,lu]
 unfold Fx.aH
 constructor
 ·rintro ⟨j,hj,e1,e2⟩
  by_cases e:j=n
  ·subst e; rw[if_pos rfl]at e1 e2; exact .inr ⟨e1,e2⟩
  rw[if_neg e]at e1 e2; exact .inl ⟨j,by omega,e1,e2⟩
 rintro (⟨j,hj,e1,e2⟩|⟨e1,e2⟩)
 ·exact⟨j,by omega,by rw[if_neg (by omega)]; exact e1,by rw[if_neg (by omega)]; exact e2⟩
 exact⟨n,by omega,by rw[if_pos rfl]; exact e1,by rw[if_pos rfl]; exact e2⟩
theorem dS.Gl(h:dS m L)(hv:bZ v=true)(m':dD)(L':fO)(e1:m'.an=m.an+1)(e2:m'.ao=Fx.aH m.ao m.an v.o)(e3:m'.ar=Fx.aH m.ar m.an v.req)(e4:L'.rn=aY L.rn (bC v) (L.rn (bC v)+1))(e5:L'.rq=aY L.rq (bC v) (aY (L.rq (bC v)) (L.rn (bC v)) v.req)) :
 (∀(a:Nat) (r:Int),a<6->(jy m' ((a:Int)+1) r=true <-> ∃ j,j<L'.rn a/\L'.rq a j=r))/\(∀ o r,jy m o r=true->jy m' o r=true)/\jy m' v.o v.req=true:=by
 obtain⟨b,hb,ho⟩:=eF (ig hv)
 have hr:bC v=b:=by unfold bC; omega
 have key : ∀ o r,jy m' o r=true<->(jy m o r=true\/(v.o=o/\v.req=r)):=fun o r=>by
  unfold jy; rw[e1,e2,e3]; exact Ls
 refine⟨fun a r ha => ?_,fun o r h=>(key o r).2 (.inl h),(key _ _).2 (.inr ⟨rfl,rfl⟩)⟩
 rw[key,h.ask a r ha,e4,e5,hr]
 unfold aY
 by_cases e:a=b
 ·subst e
  rw[if_pos rfl,if_pos rfl]
  constructor
  ·rintro (⟨j,hj,e⟩|⟨_,e⟩)
   ·exact⟨j,by omega,by show(if j=L.rn a then v.req else L.rq a j)=r; rw[if_neg (by omega)]; exact e⟩
   exact⟨L.rn a,by omega,by show(if L.rn a=L.rn a then v.req else _)=r; rw[if_pos rfl]; exact e⟩
  rintro ⟨j,hj,e⟩
  have e:(if j=L.rn a then v.req else L.rq a j)=r:=e
  by_cases c:j=L.rn a
  ·rw[if_pos c]at e; exact .inr ⟨ho,e⟩
  rw[if_neg c]at e; exact .inl ⟨j,by omega,e⟩
 rw[if_neg e,if_neg e]
 exact⟨fun h=>h.elim id fun h=>by omega,.inl⟩
attribute [local irreducible] fF dG bR in
theorem dS.take(h:dS m L)(hT:m.T.ok)(hI:Inv0 L N)(hv:bZ v=true)(hE:nW L v=0):dS (pX m v) (ku L v):=by
 unfold nW at hE
 split at hE
 ·cases hE
 rename_i c1
 split at hE
 ·cases hE
 have hrow:=(h.along hT hI (fun x=>bf x v.o v.bL) v.node).2 hE
 have hnew : ¬ jy m v.o v.req=true:=fun e=>c1 ((h.asked hv _).1 e)
 obtain⟨k1,k2,k3⟩:=h.Gl hv (pX m v) (ku L v) rfl rfl rfl rfl rfl
 have eg : ∀ j,(pX m v).g j=if j=m.gn then wC v else m.g j:=fun j=>rfl
 have eo:wC v 0=v.o:=rfl
 have er:wC v 1=v.req:=rfl
 have hno : ∀ j,j<m.gn -> ¬ (m.g j 0=v.o/\m.g j 1=v.req):=fun j hj e=>hnew (by have:=h.ga j hj; rw[e.1,e.2]at this; exact this)
 have hkn:=Fx.qg (fun i=>DI v (L.g i)) L.gn
 refine {
  T:=⟨h.T.has,h.T.n,h.T.par⟩
  inn:=h.inn
  left:=h.left
  known:=h.known
  row:=hrow
  own:=h.own
  gi:=fun i j hi hj e1 e2 => ?_
  gn:=by show m.gn+1=L.gn+1; rw[h.gn]
  g1:=fun q hq => ?_
  g2:=fun j hj => ?_
  ask:=k1
  ga:=fun i hi => ?_
  li:=fun p q hp hq e1 e2 => ?_ }
 ·have hi:i<m.gn+1:=hi
  have hj:j<m.gn+1:=hj
  rw[eg,eg]at e1 e2
  by_cases c:i=m.gn
  ·by_cases c':j=m.gn
   ·omega
   rw[if_pos c,if_neg c',eo]at e1; rw[if_pos c,if_neg c',er]at e2
   exact absurd ⟨e1.symm,e2.symm⟩ (hno j (by omega))
  by_cases c':j=m.gn
  ·rw[if_neg c,if_pos c',eo]at e1; rw[if_neg c,if_pos c',er]at e2
   exact absurd ⟨e1,e2⟩ (hno i (by omega))
  rw[if_neg c,if_neg c']at e1 e2; exact h.gi i j (by omega) (by omega) e1 e2
 ·have hq:q<L.gn+1:=hq
  show ∃ j,j<m.gn+1/\(pX m v).g j=Fx.dB L.g (Fx.down (fun i=>DI v (L.g i)) L.gn) (wC v) q
  rcases cZ hkn hq with e|⟨j,hj,e2,_,_⟩
  ·rw[e,bQ]; exact⟨m.gn,by omega,by rw[eg,if_pos rfl]⟩
  rw[e2]
  obtain⟨i,hi,ei⟩:=h.g1 j hj
  exact⟨i,by omega,by rw[eg,if_neg (by omega)]; exact ei⟩
 ·have hj:j<m.gn+1:=hj
  show ∃ q,q<L.gn+1/\Fx.dB L.g (Fx.down (fun i=>DI v (L.g i)) L.gn) (wC v) q=(pX m v).g j
  rw[eg]
  by_cases c:j=m.gn
  ·rw[if_pos c]; exact⟨_,by omega,bQ⟩
  rw[if_neg c]
  obtain⟨q,hq,e⟩:=h.g2 j (by omega)
  obtain⟨q2,hq2,_,e2⟩:=sW (k:=Fx.down (fun i=>DI v (L.g i)) L.gn) hq
  exact⟨q2,hq2,by rw[e2]; exact e⟩
 ·have hi:i<m.gn+1:=hi
  rw[eg]
  by_cases c:i=m.gn
  ·rw[if_pos c]; exact k3
  rw[if_neg c]; exact k2 _ _ (h.ga i (by omega))
 have hp:p<L.gn+1:=hp
 have hq:q<L.gn+1:=hq
 have VJ : ∀ j,j<L.gn -> ¬ (L.g j 0=v.o/\L.g j 1=v.req):=fun j hj e=>by
  obtain⟨i,hi,ei⟩:=h.g1 j hj
  rw[<- ei]at e
  exact hno i hi e
 have e1:Fx.dB L.g (Fx.down (fun i=>DI v (L.g i)) L.gn) (wC v) p 0=Fx.dB L.g (Fx.down (fun i=>DI v (L.g i)) L.gn) (wC v) q 0:=e1
 have e2:Fx.dB L.g (Fx.down (fun i=>DI v (L.g i)) L.gn) (wC v) p 1=Fx.dB L.g (Fx.down (fun i=>DI v (L.g i)) L.gn) (wC v) q 1:=e2
 generalize Fx.down (fun i=>DI v (L.g i)) L.gn=k at e1 e2 hkn
 rcases cZ hkn hp with c|⟨j,hj,f1,f2,f3⟩
 ·rcases cZ hkn hq with c'|⟨j',hj',f1',f2',f3'⟩
  ·omega
  rw[c,bQ,f1']at e1 e2; exact absurd ⟨e1.symm,e2.symm⟩ (VJ j' hj')
 rcases cZ hkn hq with c'|⟨j',hj',f1',f2',f3'⟩
 ·rw[c',bQ,f1]at e1 e2; exact absurd ⟨e1,e2⟩ (VJ j hj)
 rw[f1,f1']at e1 e2
 have:=h.li j j' hj hj' e1 e2
 omega
attribute [local irreducible] fF dG bR in
theorem dS.oq(h:dS m L)(hT:m.T.ok)(hI:Inv0 L N)(hv:bZ v=true):iX m v=pR L v:=by
 unfold iX pR
 by_cases c:jy m v.o v.req=true
 ·rw[if_pos c,if_pos ((h.asked hv _).1 c)]
 rw[if_neg c,if_neg (fun e=>c ((h.asked hv _).2 e))]
 obtain⟨g1,g2⟩:=h.grant v.o v.of
 by_cases c2:0<=L.grant v.o v.of
 ·obtain⟨q1,q2,q3,q4,q5⟩:=g2 c2
  have hg:=g1.2 c2
  have e:(Ba m v.o v.of=false\/m.g (lD m v.o v.of) 4≠0)<->(L.grant v.o v.of<0\/L.g (vk L v) 4≠0):=by
   rw[q3,hg]
   show _<->_\/L.g (L.grant v.o v.of).toNat 4≠0
   constructor
   ·rintro (h|h)
    ·cases h
    ·exact .inr h
   ·rintro (h|h)
    ·omega
    ·exact .inr h
  by_cases c3:L.grant v.o v.of<0\/L.g (vk L v) 4≠0
  ·rw[if_pos c3,if_pos (e.2 c3)]
  rw[if_neg c3,if_neg (fun q=>c3 (e.1 q)),q3]
  exact(h.along hT hI _ _).1
 rw[if_pos (.inl (by
  cases e:Ba m v.o v.of with
  | false=>rfl
  | true=>exact absurd (g1.1 e) c2)),if_pos (.inl (by omega))]
attribute [local irreducible] fF dG bR in
theorem dS.free(h:dS m L)(hT:m.T.ok)(hI:Inv0 L N)(hv:bZ v=true)(hE:pR L v=0):dS (og m v) (jo L v):=by
 unfold pR at hE
 split at hE
 ·cases hE
 split at hE
 ·cases hE
 rename_i c2
 have c3:0<=L.grant v.o v.of:=by rcases O5 (L.grant v.o v.of)with h1|h1; exact absurd (.inl h1) c2; exact h1
 obtain⟨q1,q2,q3,q4,q5⟩:=(h.grant v.o v.of).2 c3
 have hrow:=(h.along hT hI (fun x=>bA x v.o (L.g (vk L v) 3)) (L.g (vk L v) 2)).2 hE
 obtain⟨k1,k2,k3⟩:=h.Gl hv (og m v) (jo L v) rfl rfl rfl rfl rfl
 have ek:vk L v=(L.grant v.o v.of).toNat:=rfl
 have eg : ∀ j,(og m v).g j=if j=lD m v.o v.of then upd (m.g (lD m v.o v.of)) 4 v.req else m.g j:=fun j=>rfl
 have eL : ∀ q,(jo L v).g q=if q=vk L v then aY (L.g (vk L v)) 4 v.req else L.g q:=fun q=>rfl
 have eu:upd (m.g (lD m v.o v.of)) 4 v.req=aY (L.g (vk L v)) 4 v.req:=by rw[q3]; rfl
 have e01 : ∀ j p,(p=0\/p=1)->(og m v).g j p=m.g j p:=fun j p hp=>by
  rw[eg]
  by_cases c:j=lD m v.o v.of
  ·subst c; rw[if_pos rfl]; rcases hp with rfl|rfl <;> rfl
  ·rw[if_neg c]
 have II : ∀ j p,(p=0\/p=1)->(jo L v).g j p=L.g j p:=fun j p hp=>by
  rw[eL]
  by_cases c:j=vk L v
  ·subst c; rw[if_pos rfl]; rcases hp with rfl|rfl <;> rfl
  ·rw[if_neg c]
 refine {
  T:=⟨h.T.has,h.T.n,h.T.par⟩
  inn:=h.inn
  left:=h.left
  known:=h.known
  row:=fun i hi => ?_
  own:=h.own
  gi:=fun i j hi hj e1 e2=>h.gi i j hi hj (by rw[e01 i 0 (.inl rfl),e01 j 0 (.inl rfl)]at e1; exact e1) (by rw[e01 i 1 (.inr rfl),e01 j 1 (.inr rfl)]at e2; exact e2)
  gn:=h.gn
  g1:=fun q hq => ?_
  g2:=fun j hj => ?_
  ask:=k1
  ga:=fun i hi=>by rw[e01 i 0 (.inl rfl),e01 i 1 (.inr rfl)]; exact k2 _ _ (h.ga i hi)
  li:=fun p q hp hq e1 e2=>h.li p q hp hq (by rw[II p 0 (.inl rfl),II q 0 (.inl rfl)]at e1; exact e1) (by rw[II p 1 (.inr rfl),II q 1 (.inr rfl)]at e2; exact e2) }
 ·have:=hrow i hi
  show(kY m (fun x=>bA x v.o (m.g (lD m v.o v.of) 3)) (m.T.path (m.g (lD m v.o v.of) 2))).R (m.idx (L.id i))=_
  rw[q3]; exact this
 ·have hq:q<L.gn:=hq
  rw[eL]
  by_cases c:q=vk L v
  ·rw[if_pos c]; exact⟨lD m v.o v.of,q2,by rw[eg,if_pos rfl,eu]⟩
  rw[if_neg c]
  obtain⟨j,hj,ej⟩:=h.g1 q hq
  refine⟨j,hj,?_⟩
  rw[eg,if_neg]
  ·exact ej
  intro e
  rw[e,q3]at ej
  exact c (h.li q _ hq q1 (congrFun ej.symm 0) (congrFun ej.symm 1))
 have hj:j<m.gn:=hj
 rw[eg]
 by_cases c:j=lD m v.o v.of
 ·rw[if_pos c]; exact⟨vk L v,q1,by rw[eL,if_pos rfl,eu]⟩
 rw[if_neg c]
 obtain⟨q,hq,e⟩:=h.g2 j hj
 refine⟨q,hq,?_⟩
 rw[eL,if_neg]
 ·exact e
 intro e2
 rw[e2]at e
 exact c (h.gi j _ hj q2 (by rw[q3,<- e,ek]) (by rw[q3,<- e,ek]))
theorem dS.move(h:dS m L)(hT:m.T.ok)(hI:Inv0 L N)(hv:bZ v=true)(hk:v.kind=5):jN m v=uD L v/\(uD L v=0->dS (CV m v) (AB L v)):=by
 obtain⟨b,hb,hd⟩:=FV hv hk
 unfold jN uD
 by_cases c:L.node v.node<0
 ·rw[if_pos c,if_pos ((h.Du hI _).2 c)]
  exact⟨rfl,fun h=>by cases h⟩
 have c0:0<=L.node v.node:=by omega
 rw[if_neg c,if_neg (fun e=>c ((h.Du hI _).1 e)),h.inn]
 have ew:nY m v=Cx L v:=by unfold nY Cx; rw[<- h.rk hI c0]; rfl
 have e:(v.dst<1\/6<v.dst\/L.inn (v.dst-1).toNat=false)<->L.inn (v.dst-1).toNat=false:=⟨fun h=>by rcases h with h|h|h; omega; omega; exact h,fun h => .inr (.inr h)⟩
 by_cases c2:L.inn (v.dst-1).toNat=false
 ·rw[if_pos c2,if_pos (e.2 c2)]
  exact⟨rfl,fun h=>by cases h⟩
 rw[if_neg c2,if_neg (fun q=>c2 (e.1 q)),ew]
 refine⟨rfl,fun _ => ?_⟩
 have:=h.vU hT hI ((h.node hI _).2 c0) (Cx L v).1
 unfold CV AB
 rw[ew]; exact this
theorem dS.raise(h:dS m L)(hT:m.T.ok)(hI:Inv0 L N):jv m v=xL L v/\(xL L v=0->dS (rE m v) (AA L v)):=by
 unfold jv xL
 by_cases c:L.node v.node<0
 ·rw[if_pos c,if_pos ((h.Du hI _).2 c)]
  exact⟨rfl,fun h=>by cases h⟩
 have c0:0<=L.node v.node:=by omega
 have er:m.R (m.idx v.node)=L.R (L.node v.node).toNat:=h.rk hI c0
 rw[if_neg c,if_neg (fun e=>c ((h.Du hI _).1 e)),er]
 refine⟨rfl,fun _ => ?_⟩
 unfold rE AA
 rw[er]
 exact h.vU hT hI ((h.node hI _).2 c0) _
theorem dS.does(h:dS m L)(hT:m.T.ok)(hI:Inv0 L N)(hv:bZ v=true):eT m v=ow L v/\(ow L v=0->dS (fZ m v) (lU L v)):=by
 have hk:=lV hv
 unfold eT ow fZ lU
 by_cases k1:v.kind=1
 ·rw[if_pos k1,if_pos k1,if_pos k1,if_pos k1]; exact⟨h.VH hT hI hv k1,fun e=>h.make hT hI hv k1 e⟩
 rw[if_neg k1,if_neg k1,if_neg k1,if_neg k1]
 by_cases k2:v.kind=2
 ·rw[if_pos k2,if_pos k2,if_pos k2,if_pos k2]; exact h.raise hT hI
 rw[if_neg k2,if_neg k2,if_neg k2,if_neg k2]
 by_cases k3:v.kind=3
 ·rw[if_pos k3,if_pos k3,if_pos k3,if_pos k3]; exact⟨h.pE hT hI hv,fun e=>h.take hT hI hv e⟩
 rw[if_neg k3,if_neg k3,if_neg k3,if_neg k3]
 by_cases k4:v.kind=4
 ·rw[if_pos k4,if_pos k4,if_pos k4,if_pos k4]; exact⟨h.oq hT hI hv,fun e=>h.free hT hI hv e⟩
 rw[if_neg k4,if_neg k4,if_neg k4,if_neg k4]
 by_cases k5:v.kind=5
 ·rw[if_pos k5,if_pos k5,if_pos k5,if_pos k5]; exact h.move hT hI hv k5
 rw[if_neg k5,if_neg k5,if_neg k5,if_neg k5]
 by_cases k6:v.kind=6
 ·rw[if_pos k6,if_pos k6,if_pos k6]
  exact⟨rfl,fun _ => { h with T:=⟨h.T.has,h.T.n,h.T.par⟩,inn:=by show aY m.inn _ true=aY L.inn _ true; rw[h.inn] }⟩
 rw[if_neg k6,if_neg k6,if_neg k6]
 exact⟨rfl,fun _ => { h with T:=⟨h.T.has,h.T.n,h.T.par⟩,left:=by show aY m.left _ true=aY L.left _ true; rw[h.left] }⟩
theorem dS.apply(h:dS m L)(hT:m.T.ok)(hI:Inv0 L N)(v:EvM):bB m v=eP L v/\dS (jA m v) (dA L v):=by
 have e:bB m v=eP L v:=by
  unfold bB eP
  rw[h.known,h.inn,h.left]
  cases hv:bZ v with
  | false=>rfl
  | true =>
    rw[(h.does hT hI hv).1]
 refine⟨e,?_⟩
 unfold jA dA
 rw[e]
 by_cases c:eP L v=0
 ·rw[if_pos c,if_pos c]
  have hv:=(TG (lW c)).1
  have hd:ow L v=0:=by
   unfold eP at c
   rw[if_neg (by rw[hv]; decide)]at c
   split at c; · cases c
   split at c; · cases c
   split at c; · cases c
   exact c
  have hs:=(h.does hT hI hv).2 hd
  exact { hs with T:=⟨hs.T.has,hs.T.n,hs.T.par⟩,known:=by show aY (fZ m v).known _ _=aY (lU L v).known _ _; rw[hs.known] }
 rw[if_neg c,if_neg c]; exact h
theorem dS.sound(h:dS m L)(hT:m.T.ok)(hI:Inv0 L N):Vu m := {
 own:=fun a ha=>by
  have h1:=Gj (f:=L.id) (o:=(a:Int)+1) L.nn
  have h2:=hI.nn
  rw[h.own a ha]; omega
 row:=fun i hi p hp=>by
  obtain⟨j,hj,e⟩:=(h.T.has _).1 (cu.tF hi)
  have h1:=h.row j hj
  rw[e]at h1
  have h2:m.idx (m.T.x i)=i:=iU hT.inj hi rfl
  unfold tN at h1
  rw[h2]at h1
  rw[h1]
  exact sQ (hI.may j hj) p hp
 ga:=h.ga
 kn:=by rw[h.known]; exact hI.kn }
end
end Rt
end Go.Proofs.YtahbiajdgealnaaDoor
namespace Go.Proofs.YtahbiajdgealnaaDoor
open Go.RowKit Go
set_option linter.unusedVariables false
set_option maxRecDepth 20000
namespace Rt
def mG(x:Nat->Int):Int:=x 0*18446744073709551616+x 1
structure vZ(L:fO):Prop where
 up : ∀ i j,i<j->j<L.gn->mG (L.g i)<mG (L.g j)
 wf : ∀ q,q<L.gn->gL (L.g q 1)/\gL (L.g q 4)
 ga : ∀ q,q<L.gn->1<=L.g q 0/\L.g q 0<=6 /\ ∃ j,j<L.rn (L.g q 0-1).toNat/\L.rq (L.g q 0-1).toNat j=L.g q 1
section
variable {L:fO} {N:Nat} {v:EvM}
theorem Lu(hv:gL v.req){x:Nat->Int}(hx:gL (x 1)):DI v x=true<->mG (wC v)<mG x:=by
 unfold DI mG gL at *
 rw[Bool.or_eq_true,Bool.and_eq_true,decide_eq_true_iff,decide_eq_true_iff,decide_eq_true_iff]
 show v.o<x 0\/x 0=v.o/\v.req<x 1<->v.o*18446744073709551616+v.req<x 0*18446744073709551616+x 1
 omega
theorem Dv{a:Nat}{r:Int}(L':fO)(e4:L'.rn=aY L.rn a (L.rn a+1))(e5:L'.rq=aY L.rq a (aY (L.rq a) (L.rn a) r)):(∀ b y,(∃ j,j<L.rn b/\L.rq b j=y) -> ∃ j,j<L'.rn b/\L'.rq b j=y) /\ ∃ j,j<L'.rn a/\L'.rq a j=r:=by
 rw[e4,e5]
 unfold aY
 refine⟨fun b y ⟨j,hj,e⟩ => ?_,L.rn a,by rw[if_pos rfl]; omega,by rw[if_pos rfl,if_pos rfl]⟩
 by_cases c:b=a
 ·subst c
  exact⟨j,by rw[if_pos rfl]; omega,by rw[if_pos rfl,if_neg (by omega)]; exact e⟩
 exact⟨j,by rw[if_neg c]; exact hj,by rw[if_neg c]; exact e⟩
attribute [local irreducible] fF dG in
theorem ET(h:vZ L)(hm:bZ v=true)(hw:iI v)(hE:nW L v=0):vZ (ku L v):=by
 have hbd:=kX hm
 have WI:gL v.req:=hw.req
 unfold nW at hE
 split at hE
 ·cases hE
 rename_i c1
 obtain⟨r1,r2⟩:=Dv (L:=L) (a:=bC v) (r:=v.req) (ku L v) rfl rfl
 have hno : ∀ j,j<L.gn -> ¬ (L.g j 0=v.o/\L.g j 1=v.req):=fun j hj e=>c1 (by
  obtain⟨_,_,q,hq,e2⟩:=h.ga j hj
  rw[e.1,e.2]at e2
  rw[e.1]at hq
  unfold fO.uz
  rw[uP]
  exact⟨q,hq,decide_eq_true e2⟩)
 obtain⟨k,hk⟩ : ∃ k,k=Fx.down (fun i=>DI v (L.g i)) L.gn:=⟨_,rfl⟩
 have hkn:k<=L.gn:=by rw[hk]; exact Fx.qg _ _
 have hB : ∀ q,k<=q->q<L.gn->mG (wC v)<mG (L.g q):=fun q h1 h2=>(Lu WI (h.wf q h2).1).1 (Fx.Af (P:=fun i=>DI v (L.g i)) (n:=L.gn) (i:=q) (by omega) h2)
 have hA : ∀ q,q<k->mG (L.g q)<mG (wC v):=fun q h1=>by
  obtain⟨j,rfl⟩ : ∃ j,k=j+1:=⟨k-1,by omega⟩
  have h2:=Fx.Ag (P:=fun i=>DI v (L.g i)) (n:=L.gn) (j:=j) hk.symm
  have h3 : ¬ mG (wC v)<mG (L.g j):=fun e=>by
   have:=(Lu WI (h.wf j (by omega)).1).2 e
   rw[this]at h2; cases h2
  have h4:mG (L.g j)<mG (wC v):=by
   rcases Int.lt_trichotomy (mG (L.g j)) (mG (wC v))with h5|h5|h5
   ·exact h5
   ·exfalso
    have h6:=(h.wf j (by omega)).1
    refine hno j (by omega) ?_
    unfold mG at h5
    have h5:L.g j 0*18446744073709551616+L.g j 1=v.o*18446744073709551616+v.req:=h5
    unfold gL at h6 WI
    omega
   ·exact absurd h5 h3
  by_cases e:q=j
  ·rw[e]; exact h4
  ·have:=h.up q j (by omega) (by omega); omega
 have eg:(ku L v).g=Fx.dB L.g k (wC v):=by rw[hk]; rfl
 have en:(ku L v).gn=L.gn+1:=rfl
 refine⟨fun i j hij hj => ?_,fun q hq => ?_,fun q hq => ?_⟩
 ·rw[en]at hj
  rw[eg]
  rcases cZ hkn (show i<L.gn+1 by omega)with rfl|⟨q,hq,eq,q1,q2⟩
  ·rcases cZ hkn hj with rfl|⟨r,hr,er,r1,r2⟩
   ·omega
   rw[bQ,er]; exact hB r (by omega) hr
  rcases cZ hkn hj with rfl|⟨r,hr,er,r1,r2⟩
  ·rw[bQ,eq]; exact hA q (by omega)
  rw[eq,er]; exact h.up q r (by omega) hr
 ·rw[en]at hq
  rw[eg]
  rcases cZ hkn hq with rfl|⟨r,hr,er,_,_⟩
  ·rw[bQ]; exact⟨WI,by show gL 0; unfold gL; omega⟩
  rw[er]; exact h.wf r hr
 rw[en]at hq
 rw[eg]
 rcases cZ hkn hq with rfl|⟨r,hr,er,_,_⟩
 ·rw[bQ]; exact⟨hbd.1,hbd.2.1,r2⟩
 rw[er]
 obtain⟨g1,g2,g3⟩:=h.ga r hr
 exact⟨g1,g2,r1 _ _ g3⟩
attribute [local irreducible] fF dG in
theorem EU(h:vZ L)(hm:bZ v=true)(hw:iI v)(hE:pR L v=0):vZ (jo L v):=by
 obtain⟨r1,r2⟩:=Dv (L:=L) (a:=bC v) (r:=v.req) (jo L v) rfl rfl
 have eL : ∀ q,(jo L v).g q=if q=vk L v then aY (L.g (vk L v)) 4 v.req else L.g q:=fun q=>rfl
 have II : ∀ j p,(p=0\/p=1)->(jo L v).g j p=L.g j p:=fun j p hp=>by
  rw[eL]
  by_cases c:j=vk L v
  ·subst c; rw[if_pos rfl]; rcases hp with rfl|rfl <;> rfl
  ·rw[if_neg c]
 refine⟨fun i j hij hj => ?_,fun q hq => ?_,fun q hq => ?_⟩
 ·unfold mG
  rw[II i 0 (.inl rfl),II i 1 (.inr rfl),II j 0 (.inl rfl),II j 1 (.inr rfl)]
  exact h.up i j hij hj
 ·rw[II q 1 (.inr rfl)]
  refine⟨(h.wf q hq).1,?_⟩
  rw[eL]
  by_cases c:q=vk L v
  ·rw[if_pos c]; exact hw.req
  rw[if_neg c]; exact(h.wf q hq).2
 rw[II q 0 (.inl rfl),II q 1 (.inr rfl)]
 obtain⟨g1,g2,g3⟩:=h.ga q hq
 exact⟨g1,g2,r1 _ _ g3⟩
theorem EW(h:vZ L)(hw:iI v):vZ (dA L v):=by
 unfold dA
 by_cases c:eP L v=0
 ·rw[if_pos c]
  have hm:=(TG (lW c)).1
  have hd:ow L v=0:=by
   unfold eP at c
   rw[if_neg (by rw[hm]; decide)]at c
   split at c; · cases c
   split at c; · cases c
   split at c; · cases c
   exact c
  have hs:vZ (lU L v):=by
   unfold ow at hd
   unfold lU
   by_cases k1:v.kind=1
   ·rw[if_pos k1]; exact⟨h.up,h.wf,h.ga⟩
   rw[if_neg k1]at hd ⊢
   by_cases k2:v.kind=2
   ·rw[if_pos k2]; exact⟨h.up,h.wf,h.ga⟩
   rw[if_neg k2]at hd ⊢
   by_cases k3:v.kind=3
   ·rw[if_pos k3]at hd ⊢; exact ET h hm hw hd
   rw[if_neg k3]at hd ⊢
   by_cases k4:v.kind=4
   ·rw[if_pos k4]at hd ⊢; exact EU h hm hw hd
   rw[if_neg k4]at hd ⊢
   by_cases k5:v.kind=5
   ·rw[if_pos k5]; exact⟨h.up,h.wf,h.ga⟩
   rw[if_neg k5]
   by_cases k6:v.kind=6
   ·rw[if_pos k6]; exact⟨h.up,h.wf,h.ga⟩
   ·rw[if_neg k6]; exact⟨h.up,h.wf,h.ga⟩
  exact⟨hs.up,hs.wf,hs.ga⟩
 rw[if_neg c]; exact h
theorem Lx(k tb:Nat):vZ (qG k tb).core:=⟨fun i j _ h=>absurd h (Nat.not_lt_zero _),fun q h=>absurd h (Nat.not_lt_zero _),fun q h=>absurd h (Nat.not_lt_zero _)⟩
theorem dS.new(k tp mb pb rb gb ab tb:Nat):dS (rP k tp mb pb rb gb ab) (qG k tb).core where
 T:=⟨fun q=>⟨fun h=>(nomatch h),fun⟨i,h,_⟩=>absurd h (Nat.not_lt_zero _)⟩,rfl,fun i h=>absurd h (Nat.not_lt_zero _)⟩
 inn:=rfl
 left:=rfl
 known:=rfl
 row:=fun i h=>absurd h (Nat.not_lt_zero _)
 own:=fun a _=>rfl
 gi:=fun i j h=>absurd h (Nat.not_lt_zero _)
 gn:=rfl
 g1:=fun q h=>absurd h (Nat.not_lt_zero _)
 g2:=fun q h=>absurd h (Nat.not_lt_zero _)
 ask:=fun a r _=>⟨fun h=>(nomatch h),fun⟨j,h,_⟩=>absurd h (Nat.not_lt_zero _)⟩
 ga:=fun i h=>absurd h (Nat.not_lt_zero _)
 li:=fun i j h=>absurd h (Nat.not_lt_zero _)
structure WJ(L:fO)(m:dD)(l:List Int)(gl:List Bb):Prop where
 nn:l.length=L.nn
 gn:gl.length=L.gn
 n : ∀ k,k<L.nn->l.getD k 0=L.id k/\m.T.par (l.getD k 0)=L.par k/\tN m (l.getD k 0)=L.R k
 g : ∀ k,k<L.gn->(gl.getD k g0).x=L.g k
theorem WJ.of{m:dD}{l:List Int}{gl:List Bb}(h:dS m L)(hI:Inv0 L N)(hG:vZ L)(hl:l.Pairwise (· < ·) /\ ∀ k,k∈l<->m.T.has k=true)(hg:VE m gl):WJ L m l gl:=by
 have e1:l=(List.range L.nn).map L.id:=ql hl.1 (by
  rw[List.pairwise_map]
  exact(List.pairwise_lt_range (n:=L.nn)).imp_of_mem fun {a b} _ hb hab=>hI.rise a b hab (List.mem_range.1 hb)) fun k=>by
  rw[hl.2,h.T.has,List.mem_map]
  exact⟨fun⟨i,hi,e⟩=>⟨i,List.mem_range.2 hi,e⟩,fun⟨i,hi,e⟩=>⟨i,List.mem_range.1 hi,e⟩⟩
 have e2:gl.map Dq=(List.range L.gn).map fun q=>mG (L.g q):=ql (by rw[List.pairwise_map]; exact hg.up) (by
  rw[List.pairwise_map]
  exact(List.pairwise_lt_range (n:=L.gn)).imp_of_mem fun {a b} _ hb hab=>hG.up a b hab (List.mem_range.1 hb)) fun k=>by
  rw[List.mem_map,List.mem_map]
  constructor
  ·rintro ⟨x,hx,e⟩
   obtain⟨i,hi,ei⟩:=hg.mem x hx
   obtain⟨q,hq,eq⟩:=h.g2 i hi
   refine⟨q,List.mem_range.2 hq,?_⟩
   rw[eq,<- ei]; exact e
  ·rintro ⟨q,hq,e⟩
   obtain⟨j,hj,ej⟩:=h.g1 q (List.mem_range.1 hq)
   obtain⟨x,hx,ex⟩:=hg.all j hj
   refine⟨x,hx,?_⟩
   rw[<- e,<- ej,<- ex]; rfl
 have n2:gl.length=L.gn:=by have:=congrArg List.length e2; rwa [List.length_map,List.length_map,List.length_range]at this
 refine⟨by rw[e1,List.length_map,List.length_range],n2,fun k hk => ?_,fun k hk => ?_⟩
 ·have:l.getD k 0=L.id k:=by
   rw[e1,List.getD_eq_getElem?_getD,List.getElem?_eq_getElem (by rw[List.length_map,List.length_range]; exact hk)]
   simp
  rw[this]
  exact⟨rfl,h.T.par k hk,h.row k hk⟩
 have hk2:k<gl.length:=by omega
 have hm:gl.getD k g0∈gl:=by rw[List.getD_eq_getElem?_getD,List.getElem?_eq_getElem hk2]; exact List.getElem_mem hk2
 have ek:Dq (gl.getD k g0)=mG (L.g k):=by
  have h3:=congrArg (fun z=>z.getD k 0) e2
  simp only[List.getD_eq_getElem?_getD,List.getElem?_map,List.getElem?_eq_getElem hk2,List.getElem?_range hk]at h3
  rw[List.getD_eq_getElem?_getD,List.getElem?_eq_getElem hk2]; exact h3
 obtain⟨i,hi,ei⟩:=hg.mem _ hm
 obtain⟨q,hq,eq⟩:=h.g2 i hi
 have e4:mG (L.g q)=mG (L.g k):=by rw[eq,<- ei,<- ek]; rfl
 have:q=k:=by
  rcases Nat.lt_trichotomy q k with h5|h5|h5
  ·have:=hG.up q k h5 hk; omega
  ·exact h5
  ·have:=hG.up k q h5 hq; omega
 rw[ei,<- eq,this]
end
end Rt
end Go.Proofs.YtahbiajdgealnaaDoor
namespace Go.Proofs.YtahbiajdgealnaaDoor
open Go.RowKit Go.WideShapes Go.ChangeShapes Go.Deep
def At4(k0 k1 k2 k3:IntKind)(w:World)(b off:Nat)(x0 x1 x2 x3:Int):Prop :=
 w.cell? ⟨b,off,none⟩=some (.int k0 x0)/\w.cell? ⟨b,off+1,none⟩=some (.int k1 x1)/\w.cell? ⟨b,off+2,none⟩=some (.int k2 x2)/\w.cell? ⟨b,off+3,none⟩=some (.int k3 x3)
def Wf4(k0 k1 k2 k3:IntKind)(x0 x1 x2 x3:Int):Prop:=(Lit.int k0 x0).wf=true/\(Lit.int k1 x1).wf=true/\(Lit.int k2 x2).wf=true/\(Lit.int k3 x3).wf=true
def Sl4(k0 k1 k2 k3:IntKind)(w:World)(a:Option Addr)(len:Nat)(X0 X1 X2 X3:Nat->Int):Prop :=
 ∀ i,i<len->(∃ b off,a=some ⟨b,off,none⟩/\At4 k0 k1 k2 k3 w b (off+i*4) (X0 i) (X1 i) (X2 i) (X3 i))/\Wf4 k0 k1 k2 k3 (X0 i) (X1 i) (X2 i) (X3 i)
theorem Sl4.up{k0 k1 k2 k3:IntKind}{w w':World}{a:Option Addr}{len:Nat}{X0 X1 X2 X3:Nat->Int}(h:Sl4 k0 k1 k2 k3 w a len X0 X1 X2 X3)(hb:Below w.heap.size w w'):Sl4 k0 k1 k2 k3 w' a len X0 X1 X2 X3:=by
 intro i hi
 obtain⟨⟨b,off,e,q0,q1,q2,q3⟩,hw⟩:=h i hi
 have hlt:=block_lt_of_cell q0
 dsimp only at hlt
 exact⟨⟨b,off,e,(hb.cell (p:=⟨b,off+i*4,none⟩) hlt).trans q0,(hb.cell (p:=⟨b,off+i*4+1,none⟩) hlt).trans q1,(hb.cell (p:=⟨b,off+i*4+2,none⟩) hlt).trans q2,(hb.cell (p:=⟨b,off+i*4+3,none⟩) hlt).trans q3⟩,hw⟩
end Go.Proofs.YtahbiajdgealnaaDoor
namespace Go.Proofs.YtahbiajdgealnaaDoor
open Go.RowKit Go.WideShapes Go.ChangeShapes Go.Deep
def rQ(P:Program):Nat->TypeId->Option (List (Option IntKind))
 | 0,_=>none
 | d+1,t=>match P.underlying t with
   | some (.int k)=>some [some k]
   | some .bool=>some [none]
   | some (.array n e)=>(rQ P d e).bind fun ks=>if P.cellsOf e=ks.length/\P.cellsOf t=n*ks.length then some (List.replicate n ks).flatten else none
   | some (.struct fs)=>(fs.toList.foldlM (fun l f=>(rQ P d f.type).bind fun ks=>if f.offset=l.length/\P.cellsOf f.type=ks.length then some (l++ks)else none) []).bind fun l=>if P.cellsOf t=l.length then some l else none
   | _=>none
def N7(k:Option IntKind)(v:Value):Prop:=match k with|some k => ∃ n,v = .int k n/\(Lit.int k n).wf=true|none => ∃ b,v = .bool b
def Po(ks:List (Option IntKind))(cs:List Value):Prop:=cs.length=ks.length /\ ∀(j:Nat) (k:Option IntKind),ks[j]? = some k -> ∃ v,cs[j]? = some v/\N7 k v
theorem uQ{ks:List (Option IntKind)}{k:Option IntKind} : ∀(n j:Nat),(List.replicate n ks).flatten[j]? = some k->ks[j % ks.length]? = some k/\j / ks.length<n
 | 0,j,h=>by simp at h
 | n+1,j,h=>by
   rw[List.replicate_succ,List.flatten_cons]at h
   by_cases hj:j<ks.length
   ·rw[List.getElem?_append_left hj]at h
    rw[Nat.mod_eq_of_lt hj,Nat.div_eq_of_lt hj]; exact⟨h,by omega⟩
   ·rw[List.getElem?_append_right (by omega)]at h
    have hs:0<ks.length:=by
     rcases Nat.eq_zero_or_pos ks.length with e|e
     ·obtain⟨h1,_⟩:=uQ n _ h
      have:=(List.getElem?_eq_some_iff.1 h1).1; omega
     ·exact e
    obtain⟨h1,h2⟩:=uQ n _ h
    rw[Nat.mod_eq_sub_mod (by omega),Nat.div_eq_sub_div hs (by omega)]
    exact⟨h1,by omega⟩
section
variable {H:Type} {enc:TypeId × Value->H} {P:Program} {w:World} {base:Nat} {spare:Nat->Bool} {held:Bool}
theorem yu{ks:List (Option IntKind)}{cs:List Value}{o s j:Nat}{k:Option IntKind}(h:Po ks ((cs.drop o).take s))(hs:s=ks.length)(hk:ks[j]? = some k) : ∃ v,cs[o+j]? = some v/\N7 k v:=by
 obtain⟨n,h1,h2⟩:=h.2 j k hk
 have hj:=(List.getElem?_eq_some_iff.1 hk).1
 rw[List.getElem?_take_of_lt (by omega),List.getElem?_drop]at h1
 exact⟨n,h1,h2⟩
theorem uR : ∀(d:Nat) (t:TypeId) (ks:List (Option IntKind)),rQ P d t=some ks -> ∀(fuel:Nat) (cs:List Value) (x:DataW H × List MemPlace),DataW.trod enc P w base spare held fuel t cs=some x->Po ks cs
 | 0,_,_,h=>by simp[rQ]at h
 | d+1,t,ks,h=>by
   intro fuel cs x hx
   unfold rQ at h
   split at h
   ·rename_i k hu
    simp only[Option.some.injEq]at h; subst h
    obtain⟨n,rfl,_,hw⟩:=DataW.trod_int hu hx
    refine⟨rfl,fun j k' hk => ?_⟩
    match j,hk with
    | 0,hk=>simp at hk; subst hk; exact⟨_,rfl,n,rfl,hw⟩
    | j+1,hk=>simp at hk
   ·rename_i hu
    simp only[Option.some.injEq]at h; subst h
    obtain⟨b,rfl,_⟩:=DataW.trod_bool hu hx
    refine⟨rfl,fun j k' hk => ?_⟩
    match j,hk with
    | 0,hk=>simp at hk; subst hk; exact⟨_,rfl,b,rfl⟩
    | j+1,hk=>simp at hk
   ·rename_i n e hu
    obtain⟨ks',hks,h⟩:=Option.bind_eq_some_iff.1 h
    split at h
    ·rename_i hc
     simp only[Option.some.injEq]at h; subst h
     obtain⟨xs,m,_,_,hl,hlen,hel⟩:=DataW.trod_array hu hx
     refine⟨by rw[hl,hc.2]; simp,fun j k hk => ?_⟩
     obtain⟨h1,h2⟩:=uQ n j hk
     have hi:=hel (j / ks'.length) h2
     rw[List.getElem?_eq_getElem (by omega),hc.1]at hi
     have:=yu (uR d e ks' hks _ _ _ hi) rfl h1
     rw[Nat.mul_comm,Nat.div_add_mod]at this
     exact this
    ·cases h
   ·rename_i fs hu
    obtain⟨l,hl,h⟩:=Option.bind_eq_some_iff.1 h
    split at h
    ·rename_i hc
     simp only[Option.some.injEq]at h; subst h
     obtain⟨xs,m,_,_,hlc,hlen,hf⟩:=DataW.trod_struct hu hx
     refine⟨by rw[hlc,hc],?_⟩
     have hf' : ∀ f,f∈fs.toList -> ∃ y,DataW.trod enc P w base spare held m f.type ((cs.drop f.offset).take (P.cellsOf f.type))=some y:=by
      intro f hfm
      obtain⟨i,hi,e⟩:=List.mem_iff_getElem.1 hfm
      have hi':i<fs.size:=by simpa using hi
      have h1:fs[i]? = some f:=by rw[Array.getElem?_eq_getElem hi']; simpa using e
      have:=hf i f h1
      rw[List.getElem?_eq_getElem (by rw[hlen]; exact hi')]at this
      exact⟨_,this⟩
     have key : ∀(L:List Field) (acc:List (Option IntKind)),(∀ f,f∈L -> ∃ y,DataW.trod enc P w base spare held m f.type ((cs.drop f.offset).take (P.cellsOf f.type))=some y)->(∀(j:Nat) (k:Option IntKind),acc[j]? = some k -> ∃ v,cs[j]? = some v/\N7 k v) -> ∀ l,L.foldlM (fun l f=>(rQ P d f.type).bind fun ks=>if f.offset=l.length/\P.cellsOf f.type=ks.length then some (l++ks)else none) acc=some l -> ∀(j:Nat) (k:Option IntKind),l[j]? = some k -> ∃ v,cs[j]? = some v/\N7 k v:=by
      intro L
      induction L with
      | nil=>intro acc _ ha l hl; simp at hl; subst hl; exact ha
      | cons f L ih =>
        intro acc hL ha l hl
        rw[List.foldlM_cons]at hl
        obtain⟨l1,h1,h2⟩:=Option.bind_eq_some_iff.1 hl
        obtain⟨kf,hkf,h3⟩:=Option.bind_eq_some_iff.1 h1
        split at h3
        ·rename_i hcc
         simp only[Option.some.injEq]at h3; subst h3
         refine ih (acc++kf) (fun g hg=>hL g (List.mem_cons_of_mem _ hg)) (fun j k hk => ?_) l h2
         by_cases hj:j<acc.length
         ·rw[List.getElem?_append_left hj]at hk; exact ha j k hk
         ·rw[List.getElem?_append_right (by omega)]at hk
          obtain⟨y,hy⟩:=hL f (List.mem_cons_self ..)
          have:=yu (uR d f.type kf hkf _ _ _ hy) hcc.2 hk
          rw[hcc.1,show acc.length+(j-acc.length)=j by omega]at this
          exact this
        ·cases h3
     exact key fs.toList [] hf' (fun j k hk=>by simp at hk) l hl
    ·cases h
   ·cases h
end
def numOf:Value->Int | .int _ n=>n|_=>0
theorem N7.num{k:IntKind}{v:Value}(h:N7 (some k) v):v = .int k (numOf v)/\(Lit.int k (numOf v)).wf=true:=by
 obtain⟨n,rfl,hw⟩:=h; exact⟨rfl,hw⟩
theorem VK{n:Int}(h:(Lit.int .u8 n).wf=true):0<=n/\n<=255:=by simp[Lit.wf,IntKind.min,IntKind.max,IntKind.bits,IntKind.signed]at h; omega
theorem Tf{n:Int}(h:(Lit.int .u64 n).wf=true):0<=n/\n<18446744073709551616:=by simp[Lit.wf,IntKind.min,IntKind.max,IntKind.bits,IntKind.signed]at h; omega
theorem Tg{n:Int}(h:(Lit.int .i64 n).wf=true) : -9223372036854775808<=n/\n<=9223372036854775807:=by simp[Lit.wf,IntKind.min,IntKind.max,IntKind.bits,IntKind.signed]at h; omega
section
variable {H:Type} {enc:TypeId × Value->H} {P:Program} {w:World}
theorem qB.mM{w:World}{a:Option Addr}{n s:Nat}{x y:Nat->Value}(h:Fx.qB w a n s x)(e : ∀ p,p<n*s->x p=y p):Fx.qB w a n s y:=fun h0=>by
 obtain⟨b,off,ea,hc⟩:=h h0
 exact⟨b,off,ea,fun i hi=>by rw[<- e i hi]; exact hc i hi⟩
end
end Go.Proofs.YtahbiajdgealnaaDoor
namespace Go.Proofs.YtahbiajdgealnaaDoor
open Go.RowKit Rt
open Fx (ah aj au ak aJ aA aO eZ av bF dI aK x_len dw bX dn bG Lv sN Ln Ws Qv Wl Rp Wc Qs Wr Sb Lk Wk rC rV sR)
set_option maxRecDepth 20000
set_option linter.unusedVariables false
namespace Rt
def tZ(L:fO)(na:Option Addr)(nc:Nat)(ga:Option Addr)(gc:Nat):yM:=⟨L.inn,L.left,L.known,na,L.nn,nc,ga,L.gn,gc⟩
def Gm(L:fO):Nat->Nat->Value:=fun k=>JY (L.id k) (L.par k) (L.R k)
def Gn(L:fO):Nat->Nat->Value:=fun k=>iJ (L.g k)
structure Ti(L:fO):Prop where
 n : ∀ k,k<L.nn->gL (L.id k)/\gL (L.par k) /\ ∀ p,p<54->qF (L.R k p)
 g : ∀ k,k<L.gn->qF (L.g k 0)/\gL (L.g k 1)/\gL (L.g k 2)/\qF (L.g k 3)/\gL (L.g k 4)
 k : ∀ i,i<6->gL (L.known i)
 bn:L.nn<=900000
 bg:L.gn<=900000
theorem Tj{n:Int}(h:gL n):(Lit.int .u64 n).wf=true:=Fx.kD h
theorem aap{n:Int}(h:qF n):(Lit.int .i64 n).wf=true:=Fx.IU h
theorem Dw{n:Int}(h:gL n):jD (some .u64) (.int .u64 n)=some (.int .u64 n):=by simp[jD,Tj h]
theorem LA{n:Int}(h:qF n):jD (some .i64) (.int .i64 n)=some (.int .i64 n):=by simp[jD,aap h]
theorem wM(b:Nat->Bool):Fx.Kd (List.replicate 6 none) (fun j => .bool (b j)):=fun i hi=>⟨.bool (b i),by rw[List.getElem_replicate]; rfl⟩
theorem Pp{id par:Int}{R:Nat->Int}(h:gL id/\gL par /\ ∀ p,p<54->qF (R p)):Fx.Kd (some .u64::some .u64::List.replicate 54 (some .i64)) (JY id par R):=fun i hi=>by
 match i,hi with
 | 0,_=>exact⟨_,Dw h.1⟩
 | 1,_=>exact⟨_,Dw h.2.1⟩
 | i+2,hi =>
   have hi2:i<54:=by simp at hi; omega
   have e:(some IntKind.u64::some IntKind.u64::List.replicate 54 (some IntKind.i64))[i+2]=some .i64:=by rw[List.getElem_cons_succ,List.getElem_cons_succ,List.getElem_replicate]
   rw[e,Rz _ _ _ (p:=i) rfl]
   exact⟨_,LA (h.2.2 i hi2)⟩
theorem Pq{x:Nat->Int}(h:qF (x 0)/\gL (x 1)/\gL (x 2)/\qF (x 3)/\gL (x 4)):Fx.Kd [some .i64,some .u64,some .u64,some .i64,some .u64] (iJ x):=fun i hi=>by
 match i,hi with
 | 0,_=>exact⟨_,LA h.1⟩
 | 1,_=>exact⟨_,Dw h.2.1⟩
 | 2,_=>exact⟨_,Dw h.2.2.1⟩
 | 3,_=>exact⟨_,LA h.2.2.2.1⟩
 | 4,_=>exact⟨_,Dw h.2.2.2.2⟩
theorem Ti.of{L:fO}{N:Nat}(hI:Inv0 L N)(hS:rD L)(hG:vZ L)(hN:N<=900000):Ti L where
 n:=fun k hk=>by
  have h1:=hI.pos k hk
  have h2:=hI.top k hk
  have h3:=sQ (hI.may k hk)
  refine⟨⟨by omega,by omega⟩,?_,fun p hp=>by have:=h3 p hp; exact⟨by omega,by omega⟩⟩
  rcases hI.up k hk with e|⟨j,hj,e⟩
  ·rw[e]; exact⟨by omega,by omega⟩
  ·have h4:=hI.pos j hj
   have h5:=hI.top j hj
   rw[<- e]; exact⟨by omega,by omega⟩
 g:=fun k hk=>by
  obtain⟨b1,b2,b3,b4,b5⟩:=hS.gb k hk
  obtain⟨w1,w2⟩:=hG.wf k hk
  obtain⟨j,hj,e⟩:=eX.1 b1
  rw[hI.uE]at hj
  rw[(hI.tid j hj).1]at e
  have h4:=hI.pos j hj
  have h5:=hI.top j hj
  exact⟨⟨by omega,by omega⟩,w1,by rw[<- e]; exact⟨by omega,by omega⟩,⟨by omega,by omega⟩,w2⟩
 k:=fun i hi=>by have:=hI.kn i hi; exact⟨by omega,by omega⟩
 bn:=by have:=hI.nn; omega
 bg:=by have:=hI.gn; omega
end Rt
structure L8(w:World)(s:yM)(L:fO):Prop where
 e:s=tZ L s.na s.nc s.ga s.gc
 n:Fx.qB w s.na L.nn 56 (Fx.flat 56 (Gm L))
 g:Fx.qB w s.ga L.gn 5 (Fx.flat 5 (Gn L))
theorem L8.up{w w':World}{s:yM}{L:fO}(h:L8 w s L)(hb:Below w.heap.size w w'):L8 w' s L:=⟨h.e,h.n.up hb rfl,h.g.up hb rfl⟩
theorem L8.of{w:World}{B:Nat}{m:dD}{s:yM}{l:List Int}{gl:List Bb}{L:fO}{N:Nat}(h:StQ w B m s l gl)(hS:dS m L)(hI:Inv0 L N)(hG:vZ L):L8 w s L:=by
 have hc:=WJ.of hS hI hG h.ls h.gs
 have e1:s.nn=L.nn:=by rw[h.nn,hc.nn]
 have e2:s.gn=L.gn:=by rw[h.gn,hc.gn]
 refine⟨?_,?_,?_⟩
 ·cases s
  unfold tZ
  have h1:=h.inn
  have h2:=h.left
  have h3:=h.known
  simp only at h1 h2 h3 e1 e2 ⊢
  rw[h1,h2,h3,hS.inn,hS.left,hS.known,e1,e2]
 ·have:=h.n.arr
  rw[e1]at this
  refine qB.mM this (Fx.jK fun k hk j _ => ?_)
  obtain⟨h1,h2,h3⟩:=hc.n k hk
  unfold Lj Gm
  rw[h2,h3,h1]
 have:=h.g.arr
 rw[e2]at this
 refine qB.mM this (Fx.jK fun k hk j _ => ?_)
 unfold L6 Gn
 rw[hc.g k hk]
theorem Tk(L:fO)(na Gp ga Gq:Option Addr)(nc Gr gc Gs:Nat)(w:World)(hwf:Ti L)(hN1:Fx.qB w na L.nn 56 (Fx.flat 56 (Gm L)))(hN2:Fx.qB w Gp L.nn 56 (Fx.flat 56 (Gm L)))(hG1:Fx.qB w ga L.gn 5 (Fx.flat 5 (Gn L)))(hG2:Fx.qB w Gq L.gn 5 (Fx.flat 5 (Gn L))) :
 Calls Tryd.prog 19 #[.agg (Fx.ay 20 (iR (tZ L na nc ga gc))),.agg (Fx.ay 20 (iR (tZ L Gp Gr Gq Gs)))] w fun e w'=>e = .returned (.bool true)/\Below w.heap.size w w':=by
 have hbn:=hwf.bn
 have hbg:=hwf.bg
 refine Fx.enter Tryd.func19 rfl (n:=80) rfl (by rfl) ?_
 refine Ws (Wl (Fx.L.box (m:=20) (y:=iR (tZ L na nc ga gc)) (by rfl) rfl rfl (Fx.aN _ _) rfl fun g1 w1 aZ m1 s1 z1 => ?_))
 have b1:=s1.below (Below.refl w.heap.size w) (Below.refl w.heap.size w).size (Below.refl w.heap.size w).size
 have kM:w.heap.size<=g1:=by rw[aZ]; exact(Below.refl w.heap.size w).size
 have mO:g1<w1.heap.size:=m1.lt
 clear aZ
 refine Fx.L.box (m:=20) (y:=iR (tZ L Gp Gr Gq Gs)) (by rfl) rfl rfl (Fx.aN _ _) rfl fun g2 w2 bS m2 s2 z2 => ?_
 have m3:=m1.aC s2 m1.ne
 have b2:=s2.below b1 b1.size b1.size
 have su:w.heap.size<=g2:=by rw[bS]; exact b1.size
 have xg:g1≠g2:=by rw[bS]; exact Nat.ne_of_lt (m1.lt)
 have vK:g2<w2.heap.size:=m2.lt
 clear bS
 refine Lv (.bool false) (aj rfl rfl) (Ln (sN (Ws (Ws (Wl (Lv ((pt g1)) (au rfl rfl Tryd.underlying51 rfl (s:=6) (by kernel_rfl) rfl rfl) (Lv (.agg (Fx.ay 6 (fun j => .bool (L.inn j)))) (aK (x:=iR (tZ L na nc ga gc)) (y:=fun j => .bool (L.inn j)) rfl rfl (by kernel_rfl) (by kernel_rfl) m3.aL (i:=0) (by omega) (by omega) (fun j hj=>by rw[Nat.zero_add]; exact JX _ hj)) (Lv ((pt g2)) (au rfl rfl Tryd.underlying51 rfl (s:=6) (by kernel_rfl) rfl rfl) (Lv (.agg (Fx.ay 6 (fun j => .bool (L.inn j)))) (aK (x:=iR (tZ L Gp Gr Gq Gs)) (y:=fun j => .bool (L.inn j)) rfl rfl (by kernel_rfl) (by kernel_rfl) m2.aL (i:=0) (by omega) (by omega) (fun j hj=>by rw[Nat.zero_add]; exact JX _ hj)) (Lv (.bool false) (Fx.wT (n:=6) (ks:=List.replicate 6 none) (X:=fun j => .bool (L.inn j)) (Y:=fun j => .bool (L.inn j)) 12 true rfl rfl rfl (Fx.Bp (fun _ _=>rfl)) (wM _) (wM _) rfl (by kernel_rfl) (by kernel_rfl) (by kernel_rfl) (by kernel_rfl) (by kernel_rfl)) (Lv (.bool false) (ah rfl rfl) (Lv ((pf g1 6)) (au rfl rfl Tryd.underlying51 rfl (s:=6) (by kernel_rfl) rfl (by show _+6=_; omega)) (Lv (.agg (Fx.ay 6 (fun j => .bool (L.left j)))) (aK (x:=iR (tZ L na nc ga gc)) (y:=fun j => .bool (L.left j)) rfl rfl (by kernel_rfl) (by kernel_rfl) m3.aL (i:=6) (by omega) (by omega) (fun j hj=>Cv (p:=j) _ hj (by omega))) (Lv ((pf g2 6)) (au rfl rfl Tryd.underlying51 rfl (s:=6) (by kernel_rfl) rfl (by show _+6=_; omega)) (Lv (.agg (Fx.ay 6 (fun j => .bool (L.left j)))) (aK (x:=iR (tZ L Gp Gr Gq Gs)) (y:=fun j => .bool (L.left j)) rfl rfl (by kernel_rfl) (by kernel_rfl) m2.aL (i:=6) (by omega) (by omega) (fun j hj=>Cv (p:=j) _ hj (by omega))) (Lv (.bool false) (Fx.wT (n:=6) (ks:=List.replicate 6 none) (X:=fun j => .bool (L.left j)) (Y:=fun j => .bool (L.left j)) 12 true rfl rfl rfl (Fx.Bp (fun _ _=>rfl)) (wM _) (wM _) rfl (by kernel_rfl) (by kernel_rfl) (by kernel_rfl) (by kernel_rfl) (by kernel_rfl)) (Lv (.bool false) (aJ rfl rfl rfl) (Lv (.bool false) (ah rfl rfl) (Lv ((pf g1 12)) (au rfl rfl Tryd.underlying51 rfl (s:=6) (by kernel_rfl) rfl (by show _+12=_; omega)) (Lv (.agg (Fx.ay 6 (Fx.rv .u64 L.known))) (aK (x:=iR (tZ L na nc ga gc)) (y:=Fx.rv .u64 L.known) rfl rfl (by kernel_rfl) (by kernel_rfl) m3.aL (i:=12) (by omega) (by omega) (fun j hj=>zB (p:=j) _ hj (by omega))) (Lv ((pf g2 12)) (au rfl rfl Tryd.underlying51 rfl (s:=6) (by kernel_rfl) rfl (by show _+12=_; omega)) (Lv (.agg (Fx.ay 6 (Fx.rv .u64 L.known))) (aK (x:=iR (tZ L Gp Gr Gq Gs)) (y:=Fx.rv .u64 L.known) rfl rfl (by kernel_rfl) (by kernel_rfl) m2.aL (i:=12) (by omega) (by omega) (fun j hj=>zB (p:=j) _ hj (by omega))) (Lv (.bool false) (Fx.wT (n:=6) (ks:=List.replicate 6 (some .u64)) (X:=Fx.rv .u64 L.known) (Y:=Fx.rv .u64 L.known) 12 true rfl rfl rfl (Fx.Bp (fun _ _=>rfl)) (Fx.wR fun i hi=>Tj (hwf.k i hi)) (Fx.wR fun i hi=>Tj (hwf.k i hi)) rfl (by kernel_rfl) (by kernel_rfl) (by kernel_rfl) (by kernel_rfl) (by kernel_rfl)) ?_)))))))))))))))))))))))
 refine Lv (.bool false) (aJ rfl rfl rfl) (Lv (.bool false) (ah rfl rfl) (Lv ((pf g1 18)) (au rfl rfl Tryd.underlying51 rfl (s:=1) (by kernel_rfl) rfl (by show _+18=_; omega)) (Lv (.slice na (L.nn) (nc)) (ak (x:=iR (tZ L na nc ga gc)) rfl rfl (by kernel_rfl) m3.aL (i:=18) (by omega) (by omega) rfl) (Lv (.int .i64 ((L.nn:Int))) (x_len rfl rfl rfl (by kernel_rfl)) (Lv ((pf g2 18)) (au rfl rfl Tryd.underlying51 rfl (s:=1) (by kernel_rfl) rfl (by show _+18=_; omega)) (Lv (.slice Gp (L.nn) (Gr)) (ak (x:=iR (tZ L Gp Gr Gq Gs)) rfl rfl (by kernel_rfl) m2.aL (i:=18) (by omega) (by omega) rfl) (Lv (.int .i64 ((L.nn:Int))) (x_len rfl rfl rfl (by kernel_rfl)) (Lv (.bool false) (Fx.gu rfl rfl rfl rfl) (Lv (.bool false) (aJ rfl rfl rfl) (Lv (.bool false) (ah rfl rfl) (Lv ((pf g1 19)) (au rfl rfl Tryd.underlying51 rfl (s:=1) (by kernel_rfl) rfl (by show _+19=_; omega)) (Lv (.slice ga (L.gn) (gc)) (ak (x:=iR (tZ L na nc ga gc)) rfl rfl (by kernel_rfl) m3.aL (i:=19) (by omega) (by omega) rfl) (Lv (.int .i64 ((L.gn:Int))) (x_len rfl rfl rfl (by kernel_rfl)) (Lv ((pf g2 19)) (au rfl rfl Tryd.underlying51 rfl (s:=1) (by kernel_rfl) rfl (by show _+19=_; omega)) (Lv (.slice Gq (L.gn) (Gs)) (ak (x:=iR (tZ L Gp Gr Gq Gs)) rfl rfl (by kernel_rfl) m2.aL (i:=19) (by omega) (by omega) rfl) (Lv (.int .i64 ((L.gn:Int))) (x_len rfl rfl rfl (by kernel_rfl)) (Lv (.bool false) (Fx.gu rfl rfl rfl rfl) (Lv (.bool false) (aJ rfl rfl rfl) (Ln (sN (Wc (b:=false) rfl (fun h=>nomatch h) (fun _=>Wk (sN (Ws (Ws (Wl (Lv (.int .i64 (0)) (aj rfl rfl) (Ln (sN (Fx.W.block (Fx.W.loop (fun f w_ => ∃ k:Nat,k<=L.nn/\f 2=(pt g1)/\f 3=(pt g2)/\f 5 = .int .i64 ((k:Int))/\Fx.aP w_ g1 20 (iR (tZ L na nc ga gc)) 51/\Fx.aP w_ g2 20 (iR (tZ L Gp Gr Gq Gs)) 51/\Below w.heap.size w w_) (fun f _=>(L.nn-(intOf (f 5)).toNat)) ⟨0,by omega,(by rfl),(by rfl),Fx.ic,m3,m2,b2⟩ ?_)))))))))))))))))))))))))))))))
 rintro f1 w3 ⟨k,hk,h1,h2,h3,m4,m5,b3⟩
 refine Ws (Ws (Wl (Lv (.int .i64 ((k:Int))) (ah rfl h3) (Lv ((pf g1 18)) (au rfl h1 Tryd.underlying51 rfl (s:=1) (by kernel_rfl) rfl (by show _+18=_; omega)) (Lv (.slice na (L.nn) (nc)) (ak (x:=iR (tZ L na nc ga gc)) rfl rfl (by kernel_rfl) m4.aL (i:=18) (by omega) (by omega) rfl) (Lv (.int .i64 ((L.nn:Int))) (x_len rfl rfl rfl (by kernel_rfl)) ?_))))))
 by_cases Fv:(k:Int)<(L.nn:Int)
 ·refine Lv (.bool true) (Fx.eG rfl rfl rfl Fv) (Ln (sN (Wc (b:=true) rfl (fun _=>Wk (sN (Ws (Fx.W.block (Ws ?_))))) (fun h=>nomatch h))))
  -- region 6 draws
  refine Fx.W.quiet (fun v1 => ∃ q,v1=World.drewN w3 q) (by kernel_rfl) (by kernel_rfl) ⟨1,rfl⟩ ?_
  refine Qv ((pf g1 18)) (fun v1 hv1=>au rfl h1 Tryd.underlying51 rfl (s:=1) (by kernel_rfl) rfl (by show _+18=_; omega)) (Qv (.slice na (L.nn) (nc)) (fun v1 hv1=>ak (x:=iR (tZ L na nc ga gc)) rfl rfl (by kernel_rfl) (by obtain⟨qd,rfl⟩:=hv1; exact m4.aL) (i:=18) (by omega) (by omega) rfl) (Qv (.int .i64 ((k:Int))) (fun v1 hv1=>ah rfl h3) ?_))
  obtain⟨Wi,Yr,eq1,m6⟩:=(hN1.up b3 rfl) (by omega)
  have afz:Wi<w3.heap.size:=m6.lt (by omega)
  refine Qv ((pf Wi (56*k+Yr))) (fun v1 hv1=>av rfl (rfl.trans (congrArg (fun q=>Value.slice q (L.nn) (nc)) eq1)) rfl Tryd.underlying48 (s:=56) (by kernel_rfl) (by omega) (by omega) (by omega)) (Qv (.agg (Fx.ay 56 (Gm L k))) (fun v1 hv1=>aK (x:=Fx.flat 56 (Gm L)) (y:=Gm L k) rfl rfl (by kernel_rfl) (by kernel_rfl) (by obtain⟨qd,rfl⟩:=hv1; exact m6) (i:=56*k) (by omega) (by omega) (fun jq hjq=>Fx.qc (k:=k) (by omega) hjq)) (Qv ((pf g2 18)) (fun v1 hv1=>au rfl h2 Tryd.underlying51 rfl (s:=1) (by kernel_rfl) rfl (by show _+18=_; omega)) (Qv (.slice Gp (L.nn) (Gr)) (fun v1 hv1=>ak (x:=iR (tZ L Gp Gr Gq Gs)) rfl rfl (by kernel_rfl) (by obtain⟨qd,rfl⟩:=hv1; exact m5.aL) (i:=18) (by omega) (by omega) rfl) (Qv (.int .i64 ((k:Int))) (fun v1 hv1=>ah rfl h3) ?_))))
  obtain⟨bq2,oq2,eq2,m7⟩:=(hN2.up b3 rfl) (by omega)
  have afC:bq2<w3.heap.size:=m7.lt (by omega)
  refine Qv ((pf bq2 (56*k+oq2))) (fun v1 hv1=>av rfl (rfl.trans (congrArg (fun q=>Value.slice q (L.nn) (Gr)) eq2)) rfl Tryd.underlying48 (s:=56) (by kernel_rfl) (by omega) (by omega) (by omega)) (Qv (.agg (Fx.ay 56 (Gm L k))) (fun v1 hv1=>aK (x:=Fx.flat 56 (Gm L)) (y:=Gm L k) rfl rfl (by kernel_rfl) (by kernel_rfl) (by obtain⟨qd,rfl⟩:=hv1; exact m7) (i:=56*k) (by omega) (by omega) (fun jq hjq=>Fx.qc (k:=k) (by omega) hjq)) (Qv (.bool false) (fun v1 hv1=>Fx.wT (n:=56) (ks:=((some .u64)::(some .u64)::List.replicate 54 (some .i64))) (X:=Gm L k) (Y:=Gm L k) 12 true rfl rfl rfl (Fx.Bp (fun _ _=>rfl)) (Pp (hwf.n k (by omega))) (Pp (hwf.n k (by omega))) rfl (by kernel_rfl) (by kernel_rfl) (by kernel_rfl) (by kernel_rfl) (by kernel_rfl)) (Fx.Qt.nil ?_)))
  rintro _ ⟨qd,rfl⟩
  obtain⟨TH,Ev⟩ : ∃ v1,v1=World.drewN w3 qd:=⟨_,rfl⟩
  rw[<- Ev]
  have s3:Fx.Stp w3.heap.size w3 TH:=by rw[Ev]; exact Sb (Bn w3 qd)
  have m8:=m4.aC s3 m4.ne
  have m9:=m5.aC s3 m5.ne
  have b4:=s3.below b3 b3.size b3.size
  clear Ev
  refine sN (Wc (b:=false) rfl (fun h=>nomatch h) (fun _=>Wk (Fx.dV (sN (Wl (Lv (.int .i64 ((k:Int))) (ah rfl h3) (Lv (.int .i64 ((k:Int)+1)) (Fx.aS rfl rfl rfl Fx.io) (Lv (.int .i64 ((k:Int)+1)) (aj rfl rfl) (Ln (Fx.kg ⟨k+1,by omega,h1,h2,Fx.ic,m8,m9,b4⟩ ?_))))))))))
  show(L.nn-(intOf ((.int .i64 ((k:Int)+1)))).toNat)<_
  simp only[h3,intOf]; omega
 refine Lv (.bool false) (Fx.dX rfl rfl rfl Fv) (Ln (sN (Wc (b:=false) rfl (fun h=>nomatch h) (fun _=>Fx.W.exit (Fx.dQ (Fx.jC (Fx.dR (sN (Ws (Ws (Wl (Lv (.int .i64 (0)) (aj rfl rfl) (Ln (sN (Fx.W.block (Fx.W.loop (fun f w_ => ∃ k:Nat,k<=L.gn/\f 2=(pt g1)/\f 3=(pt g2)/\f 6 = .int .i64 ((k:Int))/\Fx.aP w_ g1 20 (iR (tZ L na nc ga gc)) 51/\Fx.aP w_ g2 20 (iR (tZ L Gp Gr Gq Gs)) 51/\Below w.heap.size w w_) (fun f _=>(L.gn-(intOf (f 6)).toNat)) ⟨0,by omega,h1,h2,Fx.ic,m4,m5,b3⟩ ?_))))))))))))))))
 rintro f2 w4 ⟨k,hk,h4,h5,h6,m12,m13,b5⟩
 refine Ws (Ws (Wl (Lv (.int .i64 ((k:Int))) (ah rfl h6) (Lv ((pf g1 19)) (au rfl h4 Tryd.underlying51 rfl (s:=1) (by kernel_rfl) rfl (by show _+19=_; omega)) (Lv (.slice ga (L.gn) (gc)) (ak (x:=iR (tZ L na nc ga gc)) rfl rfl (by kernel_rfl) m12.aL (i:=19) (by omega) (by omega) rfl) (Lv (.int .i64 ((L.gn:Int))) (x_len rfl rfl rfl (by kernel_rfl)) ?_))))))
 by_cases c66:(k:Int)<(L.gn:Int)
 ·refine Lv (.bool true) (Fx.eG rfl rfl rfl c66) (Ln (sN (Wc (b:=true) rfl (fun _=>Wk (sN (Ws (Fx.W.block (Ws ?_))))) (fun h=>nomatch h))))
  -- region 11 draws
  refine Fx.W.quiet (fun v1 => ∃ q,v1=World.drewN w4 q) (by kernel_rfl) (by kernel_rfl) ⟨1,rfl⟩ ?_
  refine Qv ((pf g1 19)) (fun v1 hv1=>au rfl h4 Tryd.underlying51 rfl (s:=1) (by kernel_rfl) rfl (by show _+19=_; omega)) (Qv (.slice ga (L.gn) (gc)) (fun v1 hv1=>ak (x:=iR (tZ L na nc ga gc)) rfl rfl (by kernel_rfl) (by obtain⟨qd,rfl⟩:=hv1; exact m12.aL) (i:=19) (by omega) (by omega) rfl) (Qv (.int .i64 ((k:Int))) (fun v1 hv1=>ah rfl h6) ?_))
  obtain⟨bq3,oq3,eq3,m14⟩:=(hG1.up b5 rfl) (by omega)
  have afF:bq3<w4.heap.size:=m14.lt (by omega)
  refine Qv ((pf bq3 (5*k+oq3))) (fun v1 hv1=>av rfl (rfl.trans (congrArg (fun q=>Value.slice q (L.gn) (gc)) eq3)) rfl Tryd.underlying49 (s:=5) (by kernel_rfl) (by omega) (by omega) (by omega)) (Qv (.agg (Fx.ay 5 (Gn L k))) (fun v1 hv1=>aK (x:=Fx.flat 5 (Gn L)) (y:=Gn L k) rfl rfl (by kernel_rfl) (by kernel_rfl) (by obtain⟨qd,rfl⟩:=hv1; exact m14) (i:=5*k) (by omega) (by omega) (fun jq hjq=>Fx.qc (k:=k) (by omega) hjq)) (Qv ((pf g2 19)) (fun v1 hv1=>au rfl h5 Tryd.underlying51 rfl (s:=1) (by kernel_rfl) rfl (by show _+19=_; omega)) (Qv (.slice Gq (L.gn) (Gs)) (fun v1 hv1=>ak (x:=iR (tZ L Gp Gr Gq Gs)) rfl rfl (by kernel_rfl) (by obtain⟨qd,rfl⟩:=hv1; exact m13.aL) (i:=19) (by omega) (by omega) rfl) (Qv (.int .i64 ((k:Int))) (fun v1 hv1=>ah rfl h6) ?_))))
  obtain⟨bq4,oq4,eq4,m15⟩:=(hG2.up b5 rfl) (by omega)
  have afI:bq4<w4.heap.size:=m15.lt (by omega)
  refine Qv ((pf bq4 (5*k+oq4))) (fun v1 hv1=>av rfl (rfl.trans (congrArg (fun q=>Value.slice q (L.gn) (Gs)) eq4)) rfl Tryd.underlying49 (s:=5) (by kernel_rfl) (by omega) (by omega) (by omega)) (Qv (.agg (Fx.ay 5 (Gn L k))) (fun v1 hv1=>aK (x:=Fx.flat 5 (Gn L)) (y:=Gn L k) rfl rfl (by kernel_rfl) (by kernel_rfl) (by obtain⟨qd,rfl⟩:=hv1; exact m15) (i:=5*k) (by omega) (by omega) (fun jq hjq=>Fx.qc (k:=k) (by omega) hjq)) (Qv (.bool false) (fun v1 hv1=>Fx.wT (n:=5) (ks := [(some .i64),(some .u64),(some .u64),(some .i64),(some .u64)]) (X:=Gn L k) (Y:=Gn L k) 12 true rfl rfl rfl (Fx.Bp (fun _ _=>rfl)) (Pq (hwf.g k (by omega))) (Pq (hwf.g k (by omega))) rfl (by kernel_rfl) (by kernel_rfl) (by kernel_rfl) (by kernel_rfl) (by kernel_rfl)) (Fx.Qt.nil ?_)))
  rintro _ ⟨qd,rfl⟩
  obtain⟨wq2,Ew⟩ : ∃ v1,v1=World.drewN w4 qd:=⟨_,rfl⟩
  rw[<- Ew]
  have s4:Fx.Stp w4.heap.size w4 wq2:=by rw[Ew]; exact Sb (Bn w4 qd)
  have m16:=m12.aC s4 m12.ne
  have m17:=m13.aC s4 m13.ne
  have b6:=s4.below b5 b5.size b5.size
  clear Ew
  refine sN (Wc (b:=false) rfl (fun h=>nomatch h) (fun _=>Wk (Fx.dV (sN (Wl (Lv (.int .i64 ((k:Int))) (ah rfl h6) (Lv (.int .i64 ((k:Int)+1)) (Fx.aS rfl rfl rfl Fx.io) (Lv (.int .i64 ((k:Int)+1)) (aj rfl rfl) (Ln (Fx.kg ⟨k+1,by omega,h4,h5,Fx.ic,m16,m17,b6⟩ ?_))))))))))
  show(L.gn-(intOf ((.int .i64 ((k:Int)+1)))).toNat)<_
  simp only[h6,intOf]; omega
 refine Lv (.bool false) (Fx.dX rfl rfl rfl c66) (Ln (sN (Wc (b:=false) rfl (fun h=>nomatch h) (fun _=>Fx.W.exit (Fx.dQ (Fx.jC (Fx.dR (sN (Ws (Wl (Lv (.bool true) (aj rfl rfl) (Ln (sN (Wr (⟨.bool true,rV Tryd.results19 (by exact rfl),?_⟩)))))))))))))))
 exact⟨rfl,b5⟩
theorem N8{w:World}{s1 s2:yM}{L:fO}(h1:L8 w s1 L)(h2:L8 w s2 L)(hwf:Ti L):Calls Tryd.prog 19 #[.agg (Fx.ay 20 (iR s1)),.agg (Fx.ay 20 (iR s2))] w fun e w'=>e = .returned (.bool true)/\Below w.heap.size w w':=by
 rw[h1.e,h2.e]
 exact Tk L _ _ _ _ _ _ _ _ w hwf h1.n h2.n h1.g h2.g
namespace Rt
def wdY(x y:Value):Nat->Value:=fun q=>if q=0 then x else y
def ptX(pl:Nat->Nat):Nat->Value:=fun i => .pointer (some ⟨pl i,0,none⟩)
def Ik(w:World)(B n:Nat)(pl:Nat->Nat)(ml:Nat->rU):Prop := ∀ i,i<n->Iy w B (pl i) (ml i)
theorem Ik.up{w w':World}{B n:Nat}{pl:Nat->Nat}{ml:Nat->rU}(h:Ik w B n pl ml)(hb:Below w.heap.size w w'):Ik w' B n pl ml:=fun i hi=>(h i hi).up hb
theorem Ik.aU{w w':World}{B n:Nat}{pl:Nat->Nat}{ml:Nat->rU}{Ts:List TypeId}(h:Ik w B n pl ml)(hs:Fx.gD Ts w w')(ne:(MQ.all fun T => !Ts.contains T)=true):Ik w' B n pl ml:=fun i hi=>(h i hi).aU hs ne
theorem Ik.put{w:World}{B n o p:Nat}{pl:Nat->Nat}{ml:Nat->rU}{m:rU}(h:Ik w B n pl ml)(hl:Iy w B p m):Ik w B n (aY pl o p) (aY ml o m):=fun i hi=>by
 unfold aY
 by_cases e:i=o
 ·rw[if_pos e,if_pos e]; exact hl
 ·rw[if_neg e,if_neg e]; exact h i hi
theorem Ik.snoc{w:World}{B n p:Nat}{pl:Nat->Nat}{ml:Nat->rU}{m:rU}(h:Ik w B n pl ml)(hl:Iy w B p m):Ik w B (n+1) (aY pl n p) (aY ml n m):=fun i hi=>by
 unfold aY
 by_cases e:i=n
 ·rw[if_pos e,if_pos e]; exact hl
 ·rw[if_neg e,if_neg e]; exact h i (by omega)
structure WM where
 n:Nat
 la:Option Addr
 lc:Nat
 pl:Nat->Nat
 ml:Nat->rU
 an:Nat
 aa:Option Addr
 ac:Nat
 ev:Nat->EvM
end Rt
structure Il(w:World)(B p:Nat)(M:WM)(T:Nat):Prop where
 c:Fx.aP w p 2 (wdY (.slice M.la M.n M.lc) (.slice M.aa M.an M.ac)) 61
 l:Fx.Own w B 57 1 (.slice M.la M.n M.lc) M.n (ptX M.pl)
 a:Fx.Own w B 28 14 (.slice M.aa M.an M.ac) M.an (evX M.ev)
 g:Ik w B M.n M.pl M.ml
 inv : ∀ i,i<M.n->Inv (M.ml i).core T
 wf : ∀ k,k<M.an->iI (M.ev k)
 may : ∀ k,k<M.an->bZ (M.ev k)=true
 sm : ∀ k,k<M.an->X8 (M.ev k)
 cz:Cz M.n M.an M.ev fun o=>(M.ml o).s.known
 pB:B<=p
 n1:1<=M.n
 n6:M.n<=6
def VL:List Nat := [61,57,28]++MQ
theorem Il.up{w w':World}{B p T:Nat}{M:WM}(h:Il w B p M T)(hb:Below w.heap.size w w'):Il w' B p M T := { h with c:=h.c.aC (Sb hb) (Nat.ne_of_lt h.c.lt),l:=h.l.up hb,a:=h.a.up hb,g:=h.g.up hb }
theorem Il.aU{w w':World}{B p T:Nat}{M:WM}{Ts:List TypeId}(h:Il w B p M T)(hs:Fx.gD Ts w w')(ne:(VL.all fun T => !Ts.contains T)=true):Il w' B p M T:=by
 have hq : ∀ T'∈VL,Ts.contains T'=false:=fun T' hT=>by
  have:=List.all_eq_true.1 ne T' hT
  simpa using this
 exact { h with c:=h.c.aU hs (hq _ (by decide)),l:=h.l.aU hs (hq _ (by decide)),a:=h.a.aU hs (hq _ (by decide)),g:=h.g.aU hs (List.all_eq_true.2 fun T hT=>List.all_eq_true.1 ne T (List.mem_append_right _ hT)) }
theorem Rt.yw(k tb:Nat):Inv (qG k tb).core 0 where
 uE:=rfl
 nn:=Nat.zero_le _
 tid:=fun _ h=>absurd h (Nat.not_lt_zero _)
 rise:=fun _ _ _ h=>absurd h (Nat.not_lt_zero _)
 pos:=fun _ h=>absurd h (Nat.not_lt_zero _)
 top:=fun _ h=>absurd h (Nat.not_lt_zero _)
 up:=fun _ h=>absurd h (Nat.not_lt_zero _)
 dep:=fun _=>⟨0,Nat.zero_le _,by show(-1:Int)<0; decide⟩
 gn:=Nat.le_refl _
 rn:=fun _ _=>Nat.le_refl _
 may:=fun _ h=>absurd h (Nat.not_lt_zero _)
 g47:=fun _ h=>absurd h (Nat.not_lt_zero _)
 kn:=fun _ _=>⟨Int.le_refl _,by show(0:Int)<_; decide⟩
 s:=⟨fun _ h=>absurd h (Nat.not_lt_zero _),fun _ h=>absurd h (Nat.not_lt_zero _)⟩
 b:=⟨fun _ _=>Int.le_refl _,fun _ h=>absurd h (Nat.not_lt_zero _),fun _ _ _ h=>absurd h (Nat.not_lt_zero _)⟩
end Go.Proofs.YtahbiajdgealnaaDoor
namespace Go.Proofs.YtahbiajdgealnaaDoor
open Go.RowKit Go Rt
set_option linter.unusedVariables false
set_option maxRecDepth 20000
namespace Rt
section
variable {L:fO} {N:Nat} {v:EvM}
theorem EX(h0:Inv0 L N)(h:rD L):rD (dA L v):=by
 unfold dA
 by_cases c:eP L v=0
 ·rw[if_pos c]
  have hm:=(TG (lW c)).1
  have hd:ow L v=0:=by
   unfold eP at c
   rw[if_neg (by rw[hm]; decide)]at c
   split at c; · cases c
   split at c; · cases c
   split at c; · cases c
   exact c
  have:=Hw h0 h hm hd
  exact⟨this.us,this.gb⟩
 rw[if_neg c]; exact h
def uS(L:fO)(x i:Int):Int:=if L.node x<0 then 0 else dM (L.R (L.node x).toNat) i
theorem EY(i:Int):dM Gb i=0:=by
 unfold dM
 by_cases c:(gN i&&may Gb)=true
 ·rw[if_pos c]
  rw[Bool.and_eq_true]at c
  obtain⟨a,ha,e,e2⟩:=sU c.1
  have:=qw (sQ c.2) a ha
  rw[e2,this]; rfl
 rw[if_neg c]
theorem dS.local{m:dD}(h:dS m L)(hI:Inv0 L N)(x i:Int):dM (jR m x) i=uS L x i:=by
 unfold jR uS
 by_cases c:L.node x<0
 ·rw[if_neg (by rw[(h.Du hI x).2 c]; decide),if_pos c]; exact EY i
 rw[if_pos ((h.node hI x).2 (by omega)),if_neg c,h.rk hI (by omega)]
structure zW(m m':dD):Prop where
 et:m'.tp=m.tp
 em:m'.mb=m.mb
 ep:m'.pb=m.pb
 er:m'.rb=m.rb
 eg:m'.gb=m.gb
 ea:m'.ab=m.ab
theorem zW.refl(m:dD):zW m m:=⟨rfl,rfl,rfl,rfl,rfl,rfl⟩
theorem zW.trans{a b c:dD}(h:zW a b)(k:zW b c):zW a c:=⟨k.et.trans h.et,k.em.trans h.em,k.ep.trans h.ep,k.er.trans h.er,k.eg.trans h.eg,k.ea.trans h.ea⟩
end
end Rt
structure zX(w:World)(B lp:Nat)(m:dD)(L:fO)(N:Nat):Prop where
 q:iT w B lp m
 s:dS m L
 i:Inv0 L N
 u:rD L
 g:vZ L
section
variable {w w':World} {B lp:Nat} {m:dD} {L:fO} {N:Nat} {v:EvM}
theorem zX.up(h:zX w B lp m L N)(hb:Below w.heap.size w w'):zX w' B lp m L N := { h with q:=h.q.up hb }
theorem zX.aU{Ts:List TypeId}(h:zX w B lp m L N)(hs:Fx.gD Ts w w')(ne:(Ts.contains 93 || Ts.contains 116)=false):zX w' B lp m L N := { h with q:=h.q.aU hs ne }
theorem zX.weak{B':Nat}(h:zX w B lp m L N)(hB:B'<=B):zX w B' lp m L N := { h with q:=h.q.weak hB }
theorem zX.mono{N':Nat}(h:zX w B lp m L N)(hN:N<=N'):zX w B lp m L N' := { h with i:=h.i.mono hN }
theorem zX.wf(h:zX w B lp m L N)(hN:N<=900000):Ti L:=Ti.of h.i h.u h.g hN
theorem iT.EZ(h:iT w B lp m)(hs:Fx.jB (Kk m lp w.heap.size) w w')(hB:B<=w.heap.size):Below B w w':=⟨hs.os,hs.tape,hs.output,hs.size,fun k hk=>hs.block k (by omega) fun hq=>by
 rcases hq with hq|hq
 ·have:=(h.ltS hq).1; omega
 ·omega⟩
theorem iT.typed(h:iT w B lp m)(hs:Fx.jB (Kk m lp w.heap.size) w w'):Fx.BD [93] w w':=⟨hs.os,hs.tape,hs.output,hs.size,fun k T ht hT=>hs.block k ht.WY fun hq=>by
 rcases hq with (rfl|rfl|rfl|rfl|rfl|rfl)|hq
 ·have:=Fx.Ty.only h.c.ty ht
  rw[this]at hT; simp at hT
 ·exact h.t.map.kU ht
 ·exact h.p.kU ht
 ·exact h.r.kU ht
 ·exact h.g.kU ht
 ·exact h.a.kU ht
 ·have:=ht.WY; omega⟩
theorem Tm{B:Nat}{w0 w1 w2:World}(h:Below w0.heap.size w0 w1)(hb:Below B w1 w2)(hB:w0.heap.size<=B):Below w0.heap.size w0 w2:=h.trans (hb.mono hB)
theorem uT{P:Program}{g:Nat}{a a':Array Value}{w:World}{R:Ending->World->Prop}(h:Calls P g a' w R)(e:a=a'):Calls P g a w R:=e ▸ h
theorem Gt{x:Value}{y:Nat->Value}(hy : ∀ j,j<14->y j=aW v j):(#[x,.agg (Fx.ay 14 y)]:Array Value) = #[x,.agg (Fx.ay 14 (aW v))]:=congrArg (fun z=>(#[x,.agg z]:Array Value)) (Fx.gy hy)
theorem VN(k:Nat)(hk:1<=k/\k<=6)(w:World):Calls Tryd.prog 13 #[.int .i64 ((k:Int))] w fun e w' => ∃ lp m,e = .returned (.tuple #[.pointer (some ⟨lp,0,none⟩),.int .i64 0])/\zX w' w.heap.size lp m (qG k 0).core 0/\Below w.heap.size w w' :=
 (Vz k hk w).mono fun e w' ⟨lp,m,he,⟨tp,mb,pb,rb,gb,ab,em⟩,hq,hb⟩=>⟨lp,m,he,⟨hq,by rw[em]; exact dS.new ..,(yw k 0).toInv0,(yw k 0).s,Lx k 0⟩,hb⟩
theorem Bd(h:zX w B lp m L N)(hwf:iI v)(hB:1<=B)(hK:Fx.jT w 0 0 8 yR){y:Nat->Value}(hy : ∀ j,j<14->y j=aW v j) :
 Calls Tryd.prog 14 #[.pointer (some ⟨lp,0,none⟩),.agg (Fx.ay 14 y)] w fun e w'=>e = .returned (.int .i64 (eP L v))/\zX w' B lp (jA m v) (dA L v) (N+1)/\Fx.jB (Kk m lp w.heap.size) w w':=by
 have hs:=h.s.apply h.q.t.inv h.i v
 refine uT ((NA m lp B w h.q v hwf (h.s.sound h.q.t.inv h.i) hB hK).mono fun e w' ⟨he,hq,hc⟩=>⟨by rw[he,hs.1],⟨hq,hs.2,xP h.i,EX h.i h.u,EW h.g hwf⟩,hc⟩) (Gt hy)
theorem N9(h:zX w B lp m L N)(hwf:iI v)(hB:1<=B)(hK:Fx.jT w 0 0 8 yR){y:Nat->Value}(hy : ∀ j,j<14->y j=aW v j) :
 Calls Tryd.prog 15 #[.pointer (some ⟨lp,0,none⟩),.agg (Fx.ay 14 y)] w fun e w'=>e = .returned (.int .i64 (eP L v))/\Below w.heap.size w w':=by
 have hs:=h.s.apply h.q.t.inv h.i v
 refine uT ((ZC m lp B w h.q v hwf (h.s.sound h.q.t.inv h.i) hB hK).mono fun e w' ⟨he,hb⟩=>⟨by rw[he,hs.1],hb⟩) (Gt hy)
theorem Gu(h:zX w B lp m L N)(i x:Int)(hi : -9223372036854775808<=i/\i<=9223372036854775807):Calls Tryd.prog 17 #[.pointer (some ⟨lp,0,none⟩),.int .i64 i,.int .u64 x] w fun e w'=>e = .returned (.int .i64 (uS L x i))/\Below w.heap.size w w':=by
 rw[<- h.s.local h.i]; exact NC m lp B w h.q i x hi
structure Oa(w:World)(B:Nat)(s:yM)(L:fO):Prop where
 e:s=tZ L s.na s.nc s.ga s.gc
 n:Fx.Own w B 84 56 (.slice s.na L.nn s.nc) L.nn (Fx.flat 56 (Gm L))
 g:Fx.Own w B 99 5 (.slice s.ga L.gn s.gc) L.gn (Fx.flat 5 (Gn L))
theorem Oa.r{s:yM}(h:Oa w B s L):L8 w s L:=⟨h.e,h.n.arr,h.g.arr⟩
theorem Oa.up{s:yM}(h:Oa w B s L)(hb:Below w.heap.size w w'):Oa w' B s L:=⟨h.e,h.n.up hb,h.g.up hb⟩
theorem Oa.aU{s:yM}{Ts:List TypeId}(h:Oa w B s L)(hs:Fx.gD Ts w w')(ne:(Ts.contains 84 || Ts.contains 99)=false):Oa w' B s L:=by
 rw[Bool.or_eq_false_iff]at ne
 exact⟨h.e,h.n.aU hs ne.1,h.g.aU hs ne.2⟩
theorem Ob(h:zX w B lp m L N)(hN:N<=900000):Calls Tryd.prog 20 #[.pointer (some ⟨lp,0,none⟩)] w fun e w' => ∃ s,e = .returned (.agg (Fx.ay 20 (iR s)))/\Oa w' w.heap.size s L/\Below w.heap.size w w':=by
 refine(NU m lp B w h.q (by rw[h.s.gn]; have:=h.i.gn; omega)).mono fun e w' ⟨s,l,gl,he,hq,hb⟩=>⟨s,he,?_,hb⟩
 have hc:=WJ.of h.s h.i h.g hq.ls hq.gs
 have e1:s.nn=L.nn:=by rw[hq.nn,hc.nn]
 have e2:s.gn=L.gn:=by rw[hq.gn,hc.gn]
 have hn:=hq.n
 have hg:=hq.g
 rw[e1]at hn
 rw[e2]at hg
 refine⟨(L8.of hq h.s h.i h.g).e,hn.congr (Fx.jK fun k hk j _ => ?_),hg.congr (Fx.jK fun k hk j _ => ?_)⟩
 ·obtain⟨h1,h2,h3⟩:=hc.n k hk
  unfold Lj Gm
  rw[h2,h3,h1]
 unfold L6 Gn
 rw[hc.g k hk]
end
end Go.Proofs.YtahbiajdgealnaaDoor
namespace Go.Proofs.YtahbiajdgealnaaDoor
open Go.RowKit Rt
open Fx (ah aj au ak aJ aA aO eZ av bF dI aK x_len dw bX dn bG Lv sN Ln Ws Qv Wl Rp Wc Qs Wr Sb Lk Wk rC rV sR)
set_option maxRecDepth 20000
set_option linter.unusedVariables false
namespace Rt
def Gv:Int:=1099511627777
def LB(n:Int)(i:Nat):Int:=if i=0 then n else 0
def vA:EvM:=⟨1,1,fun _=>0,1,0,0,10,0,0⟩
def vB:EvM:=⟨2,1,LB 1,3,Gv,0,4,1,0⟩
def vC:EvM:=⟨1,2,LB 1,5,Gv,2,4,0,0⟩
def vD:EvM:=⟨2,1,LB 2,3,Gv,0,4,1,0⟩
theorem E5{n:Int}(h:gL n)(i:Nat):gL (LB n i):=by
 unfold LB
 split
 ·exact h
 exact⟨by decide,by decide⟩
theorem VO:iI vA:=⟨⟨by decide,by decide⟩,⟨by decide,by decide⟩,fun _ _=>⟨Int.le_refl 0,(by decide:(0:Int)<=18446744073709551615)⟩,⟨by decide,by decide⟩,⟨by decide,by decide⟩,⟨by decide,by decide⟩,⟨by decide,by decide⟩,⟨by decide,by decide⟩,⟨by decide,by decide⟩⟩
theorem VP:iI vB:=⟨⟨by decide,by decide⟩,⟨by decide,by decide⟩,fun i _=>E5 ⟨by decide,by decide⟩ i,⟨by decide,by decide⟩,⟨by decide,by decide⟩,⟨by decide,by decide⟩,⟨by decide,by decide⟩,⟨by decide,by decide⟩,⟨by decide,by decide⟩⟩
theorem VQ:iI vC:=⟨⟨by decide,by decide⟩,⟨by decide,by decide⟩,fun i _=>E5 ⟨by decide,by decide⟩ i,⟨by decide,by decide⟩,⟨by decide,by decide⟩,⟨by decide,by decide⟩,⟨by decide,by decide⟩,⟨by decide,by decide⟩,⟨by decide,by decide⟩⟩
theorem VR:iI vD:=⟨⟨by decide,by decide⟩,⟨by decide,by decide⟩,fun i _=>E5 ⟨by decide,by decide⟩ i,⟨by decide,by decide⟩,⟨by decide,by decide⟩,⟨by decide,by decide⟩,⟨by decide,by decide⟩,⟨by decide,by decide⟩,⟨by decide,by decide⟩⟩
theorem LC{m:dD}(hT:m.T.ok)(v:EvM):(jA m v).T.ok:=by
 unfold jA
 by_cases c:bB m v=0
 ·rw[if_pos c]
  have hv:=pY c
  have hd:=(vF c).2.1
  have hb:=kX hv
  show(fZ m v).T.ok
  unfold eT at hd
  unfold fZ
  by_cases k1:v.kind=1
  ·rw[if_pos k1]at hd ⊢
   have he:m.T.err (jZ v) v.node=0:=by
    unfold jw at hd
    split at hd
    ·cases hd
    ·exact hd
   exact uo.put hT he (by unfold jZ; omega)
  rw[if_neg k1]
  repeat' split
  all_goals exact hT
 rw[if_neg c]; exact hT
structure Im(m:dD)(L:fO)(N:Nat):Prop where
 s:dS m L
 t:m.T.ok
 i:Inv0 L N
theorem Im.new(k:Nat):Im (rP k 0 0 0 0 0 0) (qG k 0).core 0:=⟨dS.new ..,uo.zero _ _,(yw k 0).toInv0⟩
theorem Im.apply{m:dD}{L:fO}{N:Nat}(h:Im m L N)(v:EvM):Im (jA m v) (dA L v) (N+1):=⟨(h.s.apply h.t h.i v).2,LC h.t v,xP h.i⟩
theorem Im.err{m:dD}{L:fO}{N:Nat}(h:Im m L N)(v:EvM){c:Int}(e:bB m v=c):eP L v=c:=(h.s.apply h.t h.i v).1.symm.trans e
theorem Im.loc{m:dD}{L:fO}{N:Nat}(h:Im m L N)(x i:Int){c:Int}(e:dM (jR m x) i=c):uS L x i=c:=(h.s.local h.i x i).symm.trans e
noncomputable def wq0:dD:=rP 2 0 0 0 0 0 0
noncomputable def TH:dD:=jA wq0 vA
noncomputable def wq2:dD:=jA TH vC
noncomputable def RD:dD:=jA wq2 vD
theorem tw0:Im wq0 (qG 2 0).core 0 := .new 2
theorem tw1:Im TH (dA (qG 2 0).core vA) 1:=tw0.apply vA
theorem tw2:Im wq2 (dA (dA (qG 2 0).core vA) vC) 2:=tw1.apply vC
theorem tw3:Im RD (dA (dA (dA (qG 2 0).core vA) vC) vD) 3:=tw2.apply vD
theorem Oc:eP (qG 2 0).core vA=0:=tw0.err vA (by kernel_rfl)
theorem Od:eP (dA (qG 2 0).core vA) vB=11:=tw1.err vB (by kernel_rfl)
theorem Oe:eP (dA (qG 2 0).core vA) vC=0:=tw1.err vC (by kernel_rfl)
theorem Og:eP (dA (dA (qG 2 0).core vA) vC) vD=0:=tw2.err vD (by kernel_rfl)
theorem Gw:jR RD Gv=(bf (wq2.R 0) 2 4).1:=by
 unfold jR
 rw[if_pos (show RD.T.has Gv=true by kernel_rfl)]
 unfold tN
 rw[show RD.idx Gv=0 by kernel_rfl,show RD.R 0=(kY wq2 (fun x=>bf x 2 4) (wq2.T.path Gv)).R 0 by kernel_rfl]
 show(if wq2.T.x 0∈wq2.T.path Gv then(bf (wq2.R 0) 2 4).1 else wq2.R 0)=_
 rw[if_pos]
 rw[show wq2.T.path Gv = [Gv] by kernel_rfl]
 exact List.mem_singleton.2 (by kernel_rfl)
theorem Oh:uS (dA (dA (dA (qG 2 0).core vA) vC) vD) Gv 1=6:=tw3.loc _ _ (by rw[Gw]; kernel_rfl)
theorem Oi:uS (dA (dA (dA (qG 2 0).core vA) vC) vD) Gv 2=0:=tw3.loc _ _ (by rw[Gw]; kernel_rfl)
theorem Oj:(dA (dA (dA (qG 2 0).core vA) vC) vD).gn=1:=tw3.s.gn.symm.trans (by kernel_rfl)
end Rt
theorem Dx(w:World)(hK:Fx.jT w 0 0 8 yR) :
 Calls Tryd.prog 21 #[] w fun e w'=>e = .returned (.bool true)/\Below w.heap.size w w':=by
 have l0:=hK.lt (by omega)
 have hB:1<=w.heap.size:=by omega
 refine Fx.enter Tryd.func21 rfl (n:=69) rfl (by rfl) ?_
 refine Ws (Wl (Lv (.bool false) (aj rfl rfl) (Ln (sN (Ws (Wl (Fx.L.call (by rfl) (rC (args := [.int .i64 (2)]) rfl rfl Tryd.func13 rfl rfl) rfl ((VN 2 (by omega) _).mono ?_))))))))
 rintro e9 w1 ⟨lp,m0,he,hl1,hb1⟩
 refine⟨_,he,?_⟩
 clear he
 have s1:=Sb hb1
 have hl2:=hl1.weak (Below.refl w.heap.size w).size
 have b1:=s1.below (Below.refl w.heap.size w) (Below.refl w.heap.size w).size (Below.refl w.heap.size w).size
 refine Lv (.tuple #[(pt lp),.int .i64 (0)]) (ah rfl rfl) (Lv ((pt lp)) (Fx.aD rfl rfl rfl) (Lv (.int .i64 (0)) (Fx.aD rfl rfl rfl) (Lv ((pt lp)) (aj rfl rfl) (Lv (.int .i64 (0)) (aj rfl rfl) (Ln (sN (Ws (Ws (Wl (Lv (.int .i64 (0)) (ah rfl rfl) (Lv (.bool false) (Fx.gu rfl rfl rfl rfl) (Lv (.bool false) (ah rfl rfl) (Lv ((pt lp)) (ah rfl rfl) (Lv (.bool false) (Fx.nG rfl rfl rfl (by kernel_rfl)) (Lv (.bool false) (aJ rfl rfl rfl) (Ln (sN (Wc (b:=false) rfl (fun h=>nomatch h) (fun _=>Wk (sN (Ws (Wl (Lv (.int .u64 (1099511627777)) (aj rfl rfl) (Ln (sN (Ws (Wl (Lv ((pt lp)) (ah rfl rfl) (Lv (.agg (Fx.ay 14 (Fx.aX (Fx.aX (Fx.aX (Fx.aX (fun zq=>if zq<1 then .int .i64 (0)else if zq<8 then .int .u64 (0)else if zq<9 then .int .u8 (0)else if zq<10 then .int .u64 (0)else if zq<12 then .int .i64 (0)else .int .u64 (0)) 0 1 (fun _ => .int .i64 (1))) 1 1 (fun _ => .int .u64 (1))) 8 1 (fun _ => .int .u8 (1))) 11 1 (fun _ => .int .i64 (10))))) (bX (vs := [(0,.int .i64 (1)),(1,.int .u64 (1)),(3,.int .u8 (1)),(6,.int .i64 (10))]) (places := #[(0,1),(1,1),(2,6),(8,1),(9,1),(10,1),(11,1),(12,1),(13,1)]) (m:=14) (x:=fun zq=>if zq<1 then .int .i64 (0)else if zq<8 then .int .u64 (0)else if zq<9 then .int .u8 (0)else if zq<10 then .int .u64 (0)else if zq<12 then .int .i64 (0)else .int .u64 (0)) rfl rfl Tryd.underlying28 (by kernel_rfl) (by kernel_rfl) (by rw[Fx.aG (off:=0) (s:=1) (y:=fun _ => .int .i64 (1)) (by kernel_rfl) (Fx.cells_one (by rfl)) (by rfl)]; rw[Fx.aG (off:=1) (s:=1) (y:=fun _ => .int .u64 (1)) (by kernel_rfl) (Fx.cells_one (by rfl)) (by rfl)]; rw[Fx.aG (off:=8) (s:=1) (y:=fun _ => .int .u8 (1)) (by kernel_rfl) (Fx.cells_one (by rfl)) (by rfl)]; rw[Fx.aG (off:=11) (s:=1) (y:=fun _ => .int .i64 (10)) (by kernel_rfl) (Fx.cells_one (by rfl)) (by rfl)]; rfl)) (Fx.L.call (by rfl) (rC (args := [(pt lp),.agg (Fx.ay 14 (Fx.aX (Fx.aX (Fx.aX (Fx.aX (fun zq=>if zq<1 then .int .i64 (0)else if zq<8 then .int .u64 (0)else if zq<9 then .int .u8 (0)else if zq<10 then .int .u64 (0)else if zq<12 then .int .i64 (0)else .int .u64 (0)) 0 1 (fun _ => .int .i64 (1))) 1 1 (fun _ => .int .u64 (1))) 8 1 (fun _ => .int .u8 (1))) 11 1 (fun _ => .int .i64 (10))))]) rfl rfl Tryd.func14 rfl rfl) rfl ((Bd (v:=vA) hl2 VO hB (hK.below b1 l0) (fun j hj=>by rcases j with _|_|_|_|_|_|_|_|_|_|_|_|_|_|j <;> first|rfl|omega)).mono ?_)))))))))))))))))))))))))))))))
 rintro e9 w2 ⟨he,hq1,hc1⟩
 refine⟨.int .i64 0,by rw[he,Oc],?_⟩
 clear he
 have afL:=hl2.q.typed hc1
 have aas:=hl2.q.EZ hc1 b1.size
 have b2:=Tm b1 aas (Nat.le_refl _)
 refine Lv (.int .i64 (0)) (aj rfl rfl) (Ln (sN (Ws (Wl (Lv ((pt lp)) (ah rfl rfl) (Lv (.agg (Fx.ay 6 (Fx.aX (Fx.rv .u64 (fun _=>0)) 0 1 (fun _ => .int .u64 (1))))) (Fx.jJ (vs := [(0,.int .u64 (1))]) (s:=1) (m:=6) (x:=Fx.rv .u64 (fun _=>0)) rfl rfl Tryd.underlying26 (by kernel_rfl) (by kernel_rfl) (by rw[Fx.aG (off:=0) (s:=1) (y:=fun _ => .int .u64 (1)) (by kernel_rfl) (Fx.cells_one (by rfl)) (by rfl)]; rfl)) (Lv (.int .u64 (1099511627777)) (ah rfl rfl) (Lv (.agg (Fx.ay 14 (Fx.aX (Fx.aX (Fx.aX (Fx.aX (Fx.aX (Fx.aX (Fx.aX (fun zq=>if zq<1 then .int .i64 (0)else if zq<8 then .int .u64 (0)else if zq<9 then .int .u8 (0)else if zq<10 then .int .u64 (0)else if zq<12 then .int .i64 (0)else .int .u64 (0)) 0 1 (fun _ => .int .i64 (2))) 1 1 (fun _ => .int .u64 (1))) 2 6 (Fx.aX (Fx.rv .u64 (fun _=>0)) 0 1 (fun _ => .int .u64 (1)))) 8 1 (fun _ => .int .u8 (3))) 9 1 (fun _ => .int .u64 (1099511627777))) 11 1 (fun _ => .int .i64 (4))) 12 1 (fun _ => .int .u64 (1))))) (bX (vs := [(0,.int .i64 (2)),(1,.int .u64 (1)),(2,.agg (Fx.ay 6 (Fx.aX (Fx.rv .u64 (fun _=>0)) 0 1 (fun _ => .int .u64 (1))))),(3,.int .u8 (3)),(4,.int .u64 (1099511627777)),(6,.int .i64 (4)),(7,.int .u64 (1))]) (places := #[(0,1),(1,1),(2,6),(8,1),(9,1),(10,1),(11,1),(12,1),(13,1)]) (m:=14) (x:=fun zq=>if zq<1 then .int .i64 (0)else if zq<8 then .int .u64 (0)else if zq<9 then .int .u8 (0)else if zq<10 then .int .u64 (0)else if zq<12 then .int .i64 (0)else .int .u64 (0)) rfl rfl Tryd.underlying28 (by kernel_rfl) (by kernel_rfl) (by rw[Fx.aG (off:=0) (s:=1) (y:=fun _ => .int .i64 (2)) (by kernel_rfl) (Fx.cells_one (by rfl)) (by rfl)]; rw[Fx.aG (off:=1) (s:=1) (y:=fun _ => .int .u64 (1)) (by kernel_rfl) (Fx.cells_one (by rfl)) (by rfl)]; rw[Fx.aG (off:=2) (s:=6) (y:=Fx.aX (Fx.rv .u64 (fun _=>0)) 0 1 (fun _ => .int .u64 (1))) (by kernel_rfl) (Fx.aN _ _) (by rfl)]; rw[Fx.aG (off:=8) (s:=1) (y:=fun _ => .int .u8 (3)) (by kernel_rfl) (Fx.cells_one (by rfl)) (by rfl)]; rw[Fx.aG (off:=9) (s:=1) (y:=fun _ => .int .u64 (1099511627777)) (by kernel_rfl) (Fx.cells_one (by rfl)) (by rfl)]; rw[Fx.aG (off:=11) (s:=1) (y:=fun _ => .int .i64 (4)) (by kernel_rfl) (Fx.cells_one (by rfl)) (by rfl)]; rw[Fx.aG (off:=12) (s:=1) (y:=fun _ => .int .u64 (1)) (by kernel_rfl) (Fx.cells_one (by rfl)) (by rfl)]; rfl)) (Fx.L.call (by rfl) (rC (args := [(pt lp),.agg (Fx.ay 14 (Fx.aX (Fx.aX (Fx.aX (Fx.aX (Fx.aX (Fx.aX (Fx.aX (fun zq=>if zq<1 then .int .i64 (0)else if zq<8 then .int .u64 (0)else if zq<9 then .int .u8 (0)else if zq<10 then .int .u64 (0)else if zq<12 then .int .i64 (0)else .int .u64 (0)) 0 1 (fun _ => .int .i64 (2))) 1 1 (fun _ => .int .u64 (1))) 2 6 (Fx.aX (Fx.rv .u64 (fun _=>0)) 0 1 (fun _ => .int .u64 (1)))) 8 1 (fun _ => .int .u8 (3))) 9 1 (fun _ => .int .u64 (1099511627777))) 11 1 (fun _ => .int .i64 (4))) 12 1 (fun _ => .int .u64 (1))))]) rfl rfl Tryd.func15 rfl rfl) rfl ((N9 (v:=vB) hq1 VP hB (hK.below b2 l0) (fun j hj=>by rcases j with _|_|_|_|_|_|_|_|_|_|_|_|_|_|j <;> first|rfl|omega)).mono ?_))))))))))
 rintro e9 w3 ⟨he,hb2⟩
 refine⟨.int .i64 11,by rw[he,Od],?_⟩
 clear he
 have s2:=Sb hb2
 have m1:=hq1.up s2.old
 have b3:=s2.below b2 b2.size b2.size
 refine Lv (.int .i64 (11)) (aj rfl rfl) (Ln (sN (Ws (Wl (Lv ((pt lp)) (ah rfl rfl) (Lv (.agg (Fx.ay 6 (Fx.aX (Fx.rv .u64 (fun _=>0)) 0 1 (fun _ => .int .u64 (1))))) (Fx.jJ (vs := [(0,.int .u64 (1))]) (s:=1) (m:=6) (x:=Fx.rv .u64 (fun _=>0)) rfl rfl Tryd.underlying26 (by kernel_rfl) (by kernel_rfl) (by rw[Fx.aG (off:=0) (s:=1) (y:=fun _ => .int .u64 (1)) (by kernel_rfl) (Fx.cells_one (by rfl)) (by rfl)]; rfl)) (Lv (.int .u64 (1099511627777)) (ah rfl rfl) (Lv (.agg (Fx.ay 14 (Fx.aX (Fx.aX (Fx.aX (Fx.aX (Fx.aX (Fx.aX (Fx.aX (fun zq=>if zq<1 then .int .i64 (0)else if zq<8 then .int .u64 (0)else if zq<9 then .int .u8 (0)else if zq<10 then .int .u64 (0)else if zq<12 then .int .i64 (0)else .int .u64 (0)) 0 1 (fun _ => .int .i64 (1))) 1 1 (fun _ => .int .u64 (2))) 2 6 (Fx.aX (Fx.rv .u64 (fun _=>0)) 0 1 (fun _ => .int .u64 (1)))) 8 1 (fun _ => .int .u8 (5))) 9 1 (fun _ => .int .u64 (1099511627777))) 10 1 (fun _ => .int .i64 (2))) 11 1 (fun _ => .int .i64 (4))))) (bX (vs := [(0,.int .i64 (1)),(1,.int .u64 (2)),(2,.agg (Fx.ay 6 (Fx.aX (Fx.rv .u64 (fun _=>0)) 0 1 (fun _ => .int .u64 (1))))),(3,.int .u8 (5)),(4,.int .u64 (1099511627777)),(5,.int .i64 (2)),(6,.int .i64 (4))]) (places := #[(0,1),(1,1),(2,6),(8,1),(9,1),(10,1),(11,1),(12,1),(13,1)]) (m:=14) (x:=fun zq=>if zq<1 then .int .i64 (0)else if zq<8 then .int .u64 (0)else if zq<9 then .int .u8 (0)else if zq<10 then .int .u64 (0)else if zq<12 then .int .i64 (0)else .int .u64 (0)) rfl rfl Tryd.underlying28 (by kernel_rfl) (by kernel_rfl) (by rw[Fx.aG (off:=0) (s:=1) (y:=fun _ => .int .i64 (1)) (by kernel_rfl) (Fx.cells_one (by rfl)) (by rfl)]; rw[Fx.aG (off:=1) (s:=1) (y:=fun _ => .int .u64 (2)) (by kernel_rfl) (Fx.cells_one (by rfl)) (by rfl)]; rw[Fx.aG (off:=2) (s:=6) (y:=Fx.aX (Fx.rv .u64 (fun _=>0)) 0 1 (fun _ => .int .u64 (1))) (by kernel_rfl) (Fx.aN _ _) (by rfl)]; rw[Fx.aG (off:=8) (s:=1) (y:=fun _ => .int .u8 (5)) (by kernel_rfl) (Fx.cells_one (by rfl)) (by rfl)]; rw[Fx.aG (off:=9) (s:=1) (y:=fun _ => .int .u64 (1099511627777)) (by kernel_rfl) (Fx.cells_one (by rfl)) (by rfl)]; rw[Fx.aG (off:=10) (s:=1) (y:=fun _ => .int .i64 (2)) (by kernel_rfl) (Fx.cells_one (by rfl)) (by rfl)]; rw[Fx.aG (off:=11) (s:=1) (y:=fun _ => .int .i64 (4)) (by kernel_rfl) (Fx.cells_one (by rfl)) (by rfl)]; rfl)) (Fx.L.call (by rfl) (rC (args := [(pt lp),.agg (Fx.ay 14 (Fx.aX (Fx.aX (Fx.aX (Fx.aX (Fx.aX (Fx.aX (Fx.aX (fun zq=>if zq<1 then .int .i64 (0)else if zq<8 then .int .u64 (0)else if zq<9 then .int .u8 (0)else if zq<10 then .int .u64 (0)else if zq<12 then .int .i64 (0)else .int .u64 (0)) 0 1 (fun _ => .int .i64 (1))) 1 1 (fun _ => .int .u64 (2))) 2 6 (Fx.aX (Fx.rv .u64 (fun _=>0)) 0 1 (fun _ => .int .u64 (1)))) 8 1 (fun _ => .int .u8 (5))) 9 1 (fun _ => .int .u64 (1099511627777))) 10 1 (fun _ => .int .i64 (2))) 11 1 (fun _ => .int .i64 (4))))]) rfl rfl Tryd.func14 rfl rfl) rfl ((Bd (v:=vC) m1 VQ hB (hK.below b3 l0) (fun j hj=>by rcases j with _|_|_|_|_|_|_|_|_|_|_|_|_|_|j <;> first|rfl|omega)).mono ?_))))))))))
 rintro e9 w4 ⟨he,hq2,hc2⟩
 refine⟨.int .i64 0,by rw[he,Oe],?_⟩
 clear he
 have afM:=m1.q.typed hc2
 have hbw2:=m1.q.EZ hc2 b3.size
 have b4:=Tm b3 hbw2 (Nat.le_refl _)
 refine Lv (.int .i64 (0)) (aj rfl rfl) (Ln (sN (Ws (Wl (Lv ((pt lp)) (ah rfl rfl) (Lv (.agg (Fx.ay 6 (Fx.aX (Fx.rv .u64 (fun _=>0)) 0 1 (fun _ => .int .u64 (2))))) (Fx.jJ (vs := [(0,.int .u64 (2))]) (s:=1) (m:=6) (x:=Fx.rv .u64 (fun _=>0)) rfl rfl Tryd.underlying26 (by kernel_rfl) (by kernel_rfl) (by rw[Fx.aG (off:=0) (s:=1) (y:=fun _ => .int .u64 (2)) (by kernel_rfl) (Fx.cells_one (by rfl)) (by rfl)]; rfl)) (Lv (.int .u64 (1099511627777)) (ah rfl rfl) (Lv (.agg (Fx.ay 14 (Fx.aX (Fx.aX (Fx.aX (Fx.aX (Fx.aX (Fx.aX (Fx.aX (fun zq=>if zq<1 then .int .i64 (0)else if zq<8 then .int .u64 (0)else if zq<9 then .int .u8 (0)else if zq<10 then .int .u64 (0)else if zq<12 then .int .i64 (0)else .int .u64 (0)) 0 1 (fun _ => .int .i64 (2))) 1 1 (fun _ => .int .u64 (1))) 2 6 (Fx.aX (Fx.rv .u64 (fun _=>0)) 0 1 (fun _ => .int .u64 (2)))) 8 1 (fun _ => .int .u8 (3))) 9 1 (fun _ => .int .u64 (1099511627777))) 11 1 (fun _ => .int .i64 (4))) 12 1 (fun _ => .int .u64 (1))))) (bX (vs := [(0,.int .i64 (2)),(1,.int .u64 (1)),(2,.agg (Fx.ay 6 (Fx.aX (Fx.rv .u64 (fun _=>0)) 0 1 (fun _ => .int .u64 (2))))),(3,.int .u8 (3)),(4,.int .u64 (1099511627777)),(6,.int .i64 (4)),(7,.int .u64 (1))]) (places := #[(0,1),(1,1),(2,6),(8,1),(9,1),(10,1),(11,1),(12,1),(13,1)]) (m:=14) (x:=fun zq=>if zq<1 then .int .i64 (0)else if zq<8 then .int .u64 (0)else if zq<9 then .int .u8 (0)else if zq<10 then .int .u64 (0)else if zq<12 then .int .i64 (0)else .int .u64 (0)) rfl rfl Tryd.underlying28 (by kernel_rfl) (by kernel_rfl) (by rw[Fx.aG (off:=0) (s:=1) (y:=fun _ => .int .i64 (2)) (by kernel_rfl) (Fx.cells_one (by rfl)) (by rfl)]; rw[Fx.aG (off:=1) (s:=1) (y:=fun _ => .int .u64 (1)) (by kernel_rfl) (Fx.cells_one (by rfl)) (by rfl)]; rw[Fx.aG (off:=2) (s:=6) (y:=Fx.aX (Fx.rv .u64 (fun _=>0)) 0 1 (fun _ => .int .u64 (2))) (by kernel_rfl) (Fx.aN _ _) (by rfl)]; rw[Fx.aG (off:=8) (s:=1) (y:=fun _ => .int .u8 (3)) (by kernel_rfl) (Fx.cells_one (by rfl)) (by rfl)]; rw[Fx.aG (off:=9) (s:=1) (y:=fun _ => .int .u64 (1099511627777)) (by kernel_rfl) (Fx.cells_one (by rfl)) (by rfl)]; rw[Fx.aG (off:=11) (s:=1) (y:=fun _ => .int .i64 (4)) (by kernel_rfl) (Fx.cells_one (by rfl)) (by rfl)]; rw[Fx.aG (off:=12) (s:=1) (y:=fun _ => .int .u64 (1)) (by kernel_rfl) (Fx.cells_one (by rfl)) (by rfl)]; rfl)) (Fx.L.call (by rfl) (rC (args := [(pt lp),.agg (Fx.ay 14 (Fx.aX (Fx.aX (Fx.aX (Fx.aX (Fx.aX (Fx.aX (Fx.aX (fun zq=>if zq<1 then .int .i64 (0)else if zq<8 then .int .u64 (0)else if zq<9 then .int .u8 (0)else if zq<10 then .int .u64 (0)else if zq<12 then .int .i64 (0)else .int .u64 (0)) 0 1 (fun _ => .int .i64 (2))) 1 1 (fun _ => .int .u64 (1))) 2 6 (Fx.aX (Fx.rv .u64 (fun _=>0)) 0 1 (fun _ => .int .u64 (2)))) 8 1 (fun _ => .int .u8 (3))) 9 1 (fun _ => .int .u64 (1099511627777))) 11 1 (fun _ => .int .i64 (4))) 12 1 (fun _ => .int .u64 (1))))]) rfl rfl Tryd.func14 rfl rfl) rfl ((Bd (v:=vD) hq2 VR hB (hK.below b4 l0) (fun j hj=>by rcases j with _|_|_|_|_|_|_|_|_|_|_|_|_|_|j <;> first|rfl|omega)).mono ?_))))))))))
 rintro e9 w5 ⟨he,hq3,hc3⟩
 refine⟨.int .i64 0,by rw[he,Og],?_⟩
 clear he
 have afN:=hq2.q.typed hc3
 have aat:=hq2.q.EZ hc3 b4.size
 have b5:=Tm b4 aat (Nat.le_refl _)
 refine Lv (.int .i64 (0)) (aj rfl rfl) (Ln (sN (Ws (Wl (Lv (.int .i64 (0)) (ah rfl rfl) (Lv (.bool true) (bG rfl rfl rfl rfl) (Lv (.bool true) (ah rfl rfl) (Lv (.int .i64 (11)) (ah rfl rfl) (Lv (.bool true) (bG rfl rfl rfl rfl) (Lv (.bool true) (aA rfl rfl rfl) (Lv (.bool true) (ah rfl rfl) (Lv (.int .i64 (0)) (ah rfl rfl) (Lv (.bool true) (bG rfl rfl rfl rfl) (Lv (.bool true) (aA rfl rfl rfl) (Lv (.bool true) (ah rfl rfl) (Lv (.int .i64 (0)) (ah rfl rfl) (Lv (.bool true) (bG rfl rfl rfl rfl) (Lv (.bool true) (aA rfl rfl rfl) (Lv (.bool true) (ah rfl rfl) (Lv ((pt lp)) (ah rfl rfl) (Lv (.int .u64 (1099511627777)) (ah rfl rfl) (Fx.L.call (by rfl) (rC (args := [(pt lp),.int .i64 (1),.int .u64 (1099511627777)]) rfl rfl Tryd.func17 rfl rfl) rfl ((Gu hq3 1 Gv (by omega)).mono ?_)))))))))))))))))))))))
 rintro e9 w6 ⟨he,hb3⟩
 refine⟨.int .i64 6,by rw[he,Oh],?_⟩
 clear he
 have s3:=Sb hb3
 have m2:=hq3.up s3.old
 have b6:=s3.below b5 b5.size b5.size
 refine Lv (.bool true) (bG rfl rfl rfl rfl) (Lv (.bool true) (aA rfl rfl rfl) (Lv (.bool true) (ah rfl rfl) (Lv ((pt lp)) (ah rfl rfl) (Lv (.int .u64 (1099511627777)) (ah rfl rfl) (Fx.L.call (by rfl) (rC (args := [(pt lp),.int .i64 (2),.int .u64 (1099511627777)]) rfl rfl Tryd.func17 rfl rfl) rfl ((Gu m2 2 Gv (by omega)).mono ?_))))))
 rintro e9 w7 ⟨he,hb4⟩
 refine⟨.int .i64 0,by rw[he,Oi],?_⟩
 clear he
 have s4:=Sb hb4
 have m3:=m2.up s4.old
 have b7:=s4.below b6 b6.size b6.size
 refine Lv (.bool true) (bG rfl rfl rfl rfl) (Lv (.bool true) (aA rfl rfl rfl) (Lv (.bool true) (ah rfl rfl) (Lv ((pt lp)) (ah rfl rfl) (Fx.L.call (by rfl) (rC (args := [(pt lp)]) rfl rfl Tryd.func20 rfl rfl) rfl ((Ob m3 (by omega)).mono ?_)))))
 rintro e9 w8 ⟨ss1,he,aau,hb5⟩
 refine⟨_,he,?_⟩
 clear he
 have s5:=Sb hb5
 have b8:=s5.below b7 b7.size b7.size
 have hgn1:ss1.gn=1:=(congrArg yM.gn aau.e).trans Oj
 refine Lv (.slice ss1.ga (ss1.gn) (ss1.gc)) (Fx.Gy (y:=iR ss1) rfl rfl Tryd.underlying51 rfl (by kernel_rfl) (by kernel_rfl) rfl) (Lv (.int .i64 ((ss1.gn:Int))) (x_len rfl rfl rfl (by kernel_rfl)) (Lv (.bool true) (bG rfl rfl rfl (by rw[hgn1]; rfl)) (Lv (.bool true) (aA rfl rfl rfl) (Lv (.bool true) (aj rfl rfl) (Ln (sN (Wr (⟨.bool true,rV Tryd.results21 (by exact rfl),?_⟩))))))))
 exact⟨rfl,b8⟩
set_option maxRecDepth 20000
set_option linter.unusedVariables false
namespace Rt
def LD:fO:=⟨fun _=>false,fun _=>false,fun _=>0,0,fun _=>0,fun _=>0,fun _ _=>0,0,fun _ _=>0,0,fun _ _=>0,fun _=>0,fun _ _=>0⟩
theorem LG:Ti LD:=⟨fun _ h=>absurd h (Nat.not_lt_zero _),fun _ h=>absurd h (Nat.not_lt_zero _),fun _ _=>⟨Int.le_refl 0,(by decide:(0:Int)<=18446744073709551615)⟩,Nat.zero_le _,Nat.zero_le _⟩
def VT:yM:=tZ LD none 0 none 0
end Rt
theorem Ol{z1 z2 y1 y2:Nat->Value}(h1 : ∀ j,j<20->z1 j=y1 j)(h2 : ∀ j,j<20->z2 j=y2 j):(#[.agg (Fx.ay 20 z1),.agg (Fx.ay 20 z2)]:Array Value) = #[.agg (Fx.ay 20 y1),.agg (Fx.ay 20 y2)]:=by rw[Fx.gy h1,Fx.gy h2]
theorem LH(w:World):L8 w VT LD:=⟨rfl,fun h=>absurd h (Nat.not_lt_zero _),fun h=>absurd h (Nat.not_lt_zero _)⟩
theorem LJ(v:EvM)(i node:Int)(w:World)(hK:Fx.jT w 0 0 8 yR) :
 Calls Tryd.prog 5 #[.agg (Fx.ay 14 (aW v)),.int .i64 (i),.int .u64 (node)] w fun e w'=>e = .returned (.bool true)/\Below w.heap.size w w':=by
 have l0:=hK.lt (by omega)
 refine Fx.enter Tryd.func5 rfl (n:=47) rfl (by rfl) ?_
 refine Ws (Wl (Fx.L.box (m:=14) (y:=aW v) (by rfl) rfl rfl (Fx.aN _ _) rfl fun g1 w1 aZ m1 s1 z1 => ?_))
 have b1:=s1.below (Below.refl w.heap.size w) (Below.refl w.heap.size w).size (Below.refl w.heap.size w).size
 have kM:w.heap.size<=g1:=by rw[aZ]; exact(Below.refl w.heap.size w).size
 have mO:g1<w1.heap.size:=m1.lt
 clear aZ
 refine Lv (.bool false) (aj rfl rfl) (Ln (sN (Ws (Wl (Lv (.pointer none) (aj rfl rfl) (Ln (sN (Ws (Wl (Lv (.pointer none) (ah rfl rfl) (Lv (.agg (Fx.ay 14 (aW v))) (aK (x:=aW v) (y:=aW v) rfl rfl (by kernel_rfl) (by kernel_rfl) m1.aL (i:=0) (by omega) (by omega) (fun j _=>by rw[Nat.zero_add])) (Fx.L.call (by rfl) (rC (args := [.pointer none,.agg (Fx.ay 14 (aW v))]) rfl rfl Tryd.func14 rfl rfl) rfl ((Lh v _).mono ?_)))))))))))))
 rintro e w2 ⟨he,hb1⟩
 refine⟨.int .i64 (2),by rw[he],?_⟩
 clear he
 have s2:=Sb hb1
 have m2:=m1.aC s2 m1.ne
 have b2:=s2.below b1 b1.size b1.size
 refine Lv (.bool true) (bG rfl rfl rfl rfl) (Lv (.bool true) (ah rfl rfl) (Lv (.pointer none) (ah rfl rfl) (Lv (.agg (Fx.ay 14 (aW v))) (aK (x:=aW v) (y:=aW v) rfl rfl (by kernel_rfl) (by kernel_rfl) m2.aL (i:=0) (by omega) (by omega) (fun j _=>by rw[Nat.zero_add])) (Fx.L.call (by rfl) (rC (args := [.pointer none,.agg (Fx.ay 14 (aW v))]) rfl rfl Tryd.func15 rfl rfl) rfl ((Vy v _).mono ?_)))))
 rintro e w3 ⟨he,hb2⟩
 refine⟨.int .i64 (2),by rw[he],?_⟩
 clear he
 have s3:=Sb hb2
 have b3:=s3.below b2 b2.size b2.size
 refine Lv (.bool true) (bG rfl rfl rfl rfl) (Lv (.bool true) (aA rfl rfl rfl) (Lv (.bool true) (ah rfl rfl) (Lv (.pointer none) (ah rfl rfl) (Fx.L.call (by rfl) (rC (args := [.pointer none]) rfl rfl Tryd.func16 rfl rfl) rfl ((Lf _).mono ?_)))))
 rintro e w4 ⟨he,hb3⟩
 refine⟨.agg (Fx.ay 6 (Fx.rv .u64 (fun _=>0))),by rw[he],?_⟩
 clear he
 have s4:=Sb hb3
 have b4:=s4.below b3 b3.size b3.size
 refine Lv (.agg (Fx.ay 6 (Fx.rv .u64 (fun _=>0)))) (Fx.jJ (vs := []) (s:=1) (m:=6) (x:=Fx.rv .u64 (fun _=>0)) rfl rfl Tryd.underlying26 (by kernel_rfl) (by kernel_rfl) (by rfl)) (Lv (.bool true) (Fx.wS (n:=6) (ks:=List.replicate 6 (some .u64)) (X:=Fx.rv .u64 (fun _=>0)) (Y:=Fx.rv .u64 (fun _=>0)) 12 true rfl rfl rfl (Fx.Bp (fun _ _=>rfl)) (Fx.wR fun _ _=>Fx.kD ⟨by decide,by decide⟩) (Fx.wR fun _ _=>Fx.kD ⟨by decide,by decide⟩) rfl (by kernel_rfl) (by kernel_rfl) (by kernel_rfl) (by kernel_rfl) (by kernel_rfl)) (Lv (.bool true) (aA rfl rfl rfl) (Lv (.bool true) (ah rfl rfl) (Lv (.pointer none) (ah rfl rfl) (Lv (.int .i64 (i)) (ah rfl rfl) (Lv (.int .u64 (node)) (ah rfl rfl) (Fx.L.call (by rfl) (rC (args := [.pointer none,.int .i64 (i),.int .u64 (node)]) rfl rfl Tryd.func17 rfl rfl) rfl ((Lg _ i node).mono ?_))))))))
 rintro e w5 ⟨he,hb4⟩
 refine⟨.int .i64 (0),by rw[he],?_⟩
 clear he
 have s5:=Sb hb4
 have b5:=s5.below b4 b4.size b4.size
 refine Lv (.bool true) (bG rfl rfl rfl rfl) (Lv (.bool true) (aA rfl rfl rfl) (Lv (.bool true) (ah rfl rfl) (Lv (.pointer none) (ah rfl rfl) (Lv (.int .u64 (node)) (ah rfl rfl) (Fx.L.call (by rfl) (rC (args := [.pointer none,.int .u64 (node)]) rfl rfl Tryd.func18 rfl rfl) rfl ((ND _ node).mono ?_))))))
 rintro e w6 ⟨he,hb5⟩
 refine⟨.slice none 0 0,by rw[he],?_⟩
 clear he
 have s6:=Sb hb5
 have b6:=s6.below b5 b5.size b5.size
 refine Lv (.int .i64 (0)) (x_len rfl rfl rfl (by kernel_rfl)) (Lv (.bool true) (bG rfl rfl rfl rfl) (Lv (.bool true) (aA rfl rfl rfl) (Lv (.bool true) (ah rfl rfl) (Lv (.pointer none) (ah rfl rfl) (Fx.L.call (by rfl) (rC (args := [.pointer none]) rfl rfl Tryd.func20 rfl rfl) rfl ((Lm _).mono ?_))))))
 rintro e9 w7 ⟨z2,he,hz1,hb6⟩
 refine⟨_,he,?_⟩
 clear he
 have s7:=Sb hb6
 have b7:=s7.below b6 b6.size b6.size
 refine Lv (.agg (Fx.ay 20 (fun zq=>if zq<12 then .bool false else if zq<18 then .int .u64 (0)else .slice none 0 0))) (bX (vs := []) (places := #[(0,6),(6,6),(12,6),(18,1),(19,1)]) (m:=20) (x:=fun zq=>if zq<12 then .bool false else if zq<18 then .int .u64 (0)else .slice none 0 0) rfl rfl Tryd.underlying51 (by kernel_rfl) (by kernel_rfl) (by rfl)) (Fx.L.call (by rfl) (rC (args := [.agg (Fx.ay 20 z2),.agg (Fx.ay 20 (fun zq=>if zq<12 then .bool false else if zq<18 then .int .u64 (0)else .slice none 0 0))]) rfl rfl Tryd.func19 rfl rfl) rfl ((uT (N8 (LH _) (LH _) LG) (Ol hz1 (fun j hj=>by rcases j with _|_|_|_|_|_|_|_|_|_|_|_|_|_|_|_|_|_|_|_|j <;> first|rfl|omega))).mono ?_))
 rintro e w8 ⟨he,UE⟩
 refine⟨.bool true,by rw[he],?_⟩
 clear he
 have s8:=Sb UE
 have b8:=s8.below b7 b7.size b7.size
 refine Lv (.bool true) (aA rfl rfl rfl) (Lv (.bool true) (ah rfl rfl) (Fx.L.call (by rfl) (rC (args := []) rfl rfl Tryd.func21 rfl rfl) rfl ((Dx _ (hK.below b8 l0)).mono ?_)))
 rintro e w9 ⟨he,XT⟩
 refine⟨.bool true,by rw[he],?_⟩
 clear he
 have s9:=Sb XT
 have b9:=s9.below b8 b8.size b8.size
 refine Lv (.bool true) (aA rfl rfl rfl) (Lv (.bool true) (aj rfl rfl) (Ln (sN (Wr (⟨.bool true,rV Tryd.results5 (by exact rfl),?_⟩)))))
 exact⟨rfl,b9⟩
end Go.Proofs.YtahbiajdgealnaaDoor
namespace Go.Proofs.YtahbiajdgealnaaDoor
open Go.RowKit Go.WideShapes Go.ChangeShapes Go.Deep Rt
def VU:List (Option IntKind) := [some .i64,some .u64,some .u64,some .u64,some .u64,some .u64,some .u64,some .u64,some .u8,some .u64,some .i64,some .i64,some .u64,some .u64]
def VW(x:Nat->Value):EvM:=⟨numOf (x 0),numOf (x 1),fun i=>numOf (x (i+2)),numOf (x 8),numOf (x 9),numOf (x 10),numOf (x 11),numOf (x 12),numOf (x 13)⟩
theorem L9{n:Int}(h:(Lit.int .u64 n).wf=true):gL n:=by have:=Tf h; unfold gL; omega
theorem bdI{n:Int}(h:(Lit.int .i64 n).wf=true):qF n:=by have:=Tg h; unfold qF; omega
theorem Om{x:Nat->Value}(h : ∀(j:Nat) (k:Option IntKind),VU[j]? = some k->N7 k (x j)):(∀ j,j<14->x j=aW (VW x) j)/\iI (VW x):=by
 have o : ∀(j:Nat) (k:IntKind),VU[j]? = some (some k)->x j = .int k (numOf (x j))/\(Lit.int k (numOf (x j))).wf=true:=fun j k e=>(h j (some k) e).num
 refine⟨fun j hj => ?_,?_⟩
 ·rcases j with _|_|_|_|_|_|_|_|_|_|_|_|_|_|j
  ·exact(o 0 .i64 rfl).1
  ·exact(o 1 .u64 rfl).1
  ·exact(o 2 .u64 rfl).1
  ·exact(o 3 .u64 rfl).1
  ·exact(o 4 .u64 rfl).1
  ·exact(o 5 .u64 rfl).1
  ·exact(o 6 .u64 rfl).1
  ·exact(o 7 .u64 rfl).1
  ·exact(o 8 .u8 rfl).1
  ·exact(o 9 .u64 rfl).1
  ·exact(o 10 .i64 rfl).1
  ·exact(o 11 .i64 rfl).1
  ·exact(o 12 .u64 rfl).1
  ·exact(o 13 .u64 rfl).1
  omega
 refine⟨bdI (o 0 .i64 rfl).2,L9 (o 1 .u64 rfl).2,fun i hi => ?_,VK (o 8 .u8 rfl).2,L9 (o 9 .u64 rfl).2,bdI (o 10 .i64 rfl).2,bdI (o 11 .i64 rfl).2,L9 (o 12 .u64 rfl).2,L9 (o 13 .u64 rfl).2⟩
 show gL (numOf (x (i+2)))
 rcases i with _|_|_|_|_|_|i
 ·exact L9 (o 2 .u64 rfl).2
 ·exact L9 (o 3 .u64 rfl).2
 ·exact L9 (o 4 .u64 rfl).2
 ·exact L9 (o 5 .u64 rfl).2
 ·exact L9 (o 6 .u64 rfl).2
 ·exact L9 (o 7 .u64 rfl).2
 omega
theorem LK{P:Program}{fs:Array Field}{T:TypeId}{H:Type}{enc:TypeId × Value->H}{w W:World}{r:Reach}{base D:Nat}{v:Value}{d:DataW H}{ps:List MemPlace}(hu:P.underlying T=some (.struct fs))(hk:rQ P D T=some VU)(hv:Value.okWide P W r base T v)(h:DataW.Trod enc P w 0 (fun _=>true) true T v d ps) : ∃ V:EvM,v = .agg (Fx.ay 14 (aW V))/\iI V:=by
 unfold Value.okWide at hv
 rw[hu]at hv
 obtain⟨cs,rfl,_⟩:=hv
 obtain⟨fuel,hf⟩:=h
 have hF:=uR _ _ _ hk _ _ _ hf
 have hl:cs.size=14:=by have:=hF.1; simpa [Value.cells,VU] using this
 have hx : ∀(j:Nat) (k:Option IntKind),VU[j]? = some k->N7 k ((fun j=>cs[j]?.getD undef) j):=fun j k e=>by
  obtain⟨v,h1,h2⟩:=hF.2 j k e
  have h3:cs[j]? = some v:=by simpa [Value.cells] using h1
  show N7 k (cs[j]?.getD undef)
  rw[h3]; exact h2
 obtain⟨h1,h2⟩:=Om hx
 refine⟨_,congrArg Value.agg ?_,h2⟩
 apply Array.ext_getElem?
 intro j
 by_cases hj:j<14
 ·rw[Fx.dN _ hj,<- h1 j hj]
  show cs[j]? = some (cs[j]?.getD undef)
  rw[Array.getElem?_eq_getElem (by omega)]; rfl
 rw[Array.getElem?_eq_none (by omega),Array.getElem?_eq_none (by rw[Fx.aV]; omega)]
set_option maxRecDepth 100000 in
theorem Oo{H:Type}{enc:TypeId × Value->H}{w W:World}{r:Reach}{base:Nat}{v:Value}{d:DataW H}{ps:List MemPlace}(hv:Value.okWide Tryd.prog W r base 28 v)(h:DataW.Trod enc Tryd.prog w 0 (fun _=>true) true 28 v d ps) : ∃ V:EvM,v = .agg (Fx.ay 14 (aW V))/\iI V :=
 LK (D:=8) Tryd.underlying28 (by kernel_rfl) hv h
end Go.Proofs.YtahbiajdgealnaaDoor
namespace Go.Proofs.YtahbiajdgealnaaDoor
open Go Go.RowKit Rt
set_option linter.unusedVariables false
set_option maxRecDepth 100000
theorem kG : Tryd.prog.globalNamed "leat/ledger.kinds" = some 0 := by kernel_rfl
theorem kT:(Tryd.prog.globals[0]?).map (·.type)=some 118:=by kernel_rfl
theorem kC:Tryd.prog.cellsOf 117=1:=by kernel_rfl
theorem kC8:Tryd.prog.cellsOf 118=8:=by kernel_rfl
theorem Dy{H:Type}{enc:TypeId × Value->H}{P:Program}{w:World}{base:Nat}{sp:Nat->Bool}{held:Bool}{fuel:Nat}{t:TypeId}{ps rs:Array TypeId}{va:Bool}{v:Value}{q:List MemPlace}(ht:P.underlying t=some (.func ps rs va))(h:DataW.trod enc P w base sp held fuel t [v]=some (.nil,q)):v = .nilFunc:=by
 cases fuel with
 | zero=>simp[DataW.trod]at h
 | succ n=>cases v <;> simp[DataW.trod,ht]at h <;> rfl
theorem Dz {W : World} (h : laidMetH Tryd.prog [("leat/ledger.kinds", Rows.laid_leat_ledger_kinds)] W) : Fx.jT W 0 0 8 yR := by
 obtain⟨g,t,cs,fuel,p,hg,ht,hv,hd⟩:=h.funcs (List.mem_singleton.2 rfl)
 obtain rfl:=Option.some.inj (kG.symm.trans hg)
 obtain rfl:=Option.some.inj (kT.symm.trans ht)
 have hd':DataW.trod (funcToken Tryd.prog) Tryd.prog W 0 (fun _=>true) true fuel 118 cs.toList=some (.agg [.nil,.held [40,42,108,101,97,116,47,108,101,100,103,101,114,46,76,101,100,103,101,114,41,46,109,97,107,101,115],.held [40,42,108,101,97,116,47,108,101,100,103,101,114,46,76,101,100,103,101,114,41,46,114,97,105,115,101,115],.held [40,42,108,101,97,116,47,108,101,100,103,101,114,46,76,101,100,103,101,114,41,46,116,97,107,101,115],.held [40,42,108,101,97,116,47,108,101,100,103,101,114,46,76,101,100,103,101,114,41,46,102,114,101,101,115],.held [40,42,108,101,97,116,47,108,101,100,103,101,114,46,76,101,100,103,101,114,41,46,109,111,118,101,115],.held [40,42,108,101,97,116,47,108,101,100,103,101,114,46,76,101,100,103,101,114,41,46,106,111,105,110,115],.held [40,42,108,101,97,116,47,108,101,100,103,101,114,46,76,101,100,103,101,114,41,46,108,101,97,118,101,115]],p):=hd
 obtain⟨xs,m,_,ex,hlen,hl,hel⟩:=DataW.trod_array Tryd.underlying118 hd'
 have e1:xs.map (·.1) = [.nil,.held [40,42,108,101,97,116,47,108,101,100,103,101,114,46,76,101,100,103,101,114,41,46,109,97,107,101,115],.held [40,42,108,101,97,116,47,108,101,100,103,101,114,46,76,101,100,103,101,114,41,46,114,97,105,115,101,115],.held [40,42,108,101,97,116,47,108,101,100,103,101,114,46,76,101,100,103,101,114,41,46,116,97,107,101,115],.held [40,42,108,101,97,116,47,108,101,100,103,101,114,46,76,101,100,103,101,114,41,46,102,114,101,101,115],.held [40,42,108,101,97,116,47,108,101,100,103,101,114,46,76,101,100,103,101,114,41,46,109,111,118,101,115],.held [40,42,108,101,97,116,47,108,101,100,103,101,114,46,76,101,100,103,101,114,41,46,106,111,105,110,115],.held [40,42,108,101,97,116,47,108,101,100,103,101,114,46,76,101,100,103,101,114,41,46,108,101,97,118,101,115]]:=by
  have:=congrArg Prod.fst ex
  simp only[DataW.agg.injEq]at this
  exact this.symm
 rw[kC8]at hlen
 rw[kC]at hel
 have key : ∀ i,i<8 -> ∀ d,(xs.map (·.1))[i]? = some d -> ∃ c q,cs[i]? = some c/\DataW.trod (funcToken Tryd.prog) Tryd.prog W 0 (fun _=>true) true m 117 [c]=some (d,q):=fun i hi d hdi=>by
  have h1:=hel i hi
  rw[Nat.mul_one]at h1
  have hc:(cs.toList.drop i).take 1 = [cs.toList[i]'(by omega)]:=by rw[List.drop_eq_getElem_cons (by omega)]; rfl
  rw[hc]at h1
  rw[List.getElem?_map]at hdi
  cases hx:xs[i]? with
  | none=>rw[hx]at hdi; cases hdi
  | some x =>
    rw[hx]at h1 hdi
    simp only[Option.map_some,Option.some.injEq]at hdi
    refine⟨cs.toList[i]'(by omega),x.2,?_,by rw[h1,<- hdi]⟩
    rw[<- Array.getElem?_toList,List.getElem?_eq_getElem (by omega)]
 rw[e1]at key
 intro j hj
 rw[Nat.zero_add,World.var?_cell kG hv j]
 obtain⟨c0,q0,a0,b0⟩:=key 0 (by decide) _ rfl
 have d0:=Dy Tryd.underlying117 b0
 obtain⟨c1,q1,a1,b1⟩:=key 1 (by decide) _ rfl
 have d1:=func_of_trod (f0:=145) Tryd.underlying117 (by kernel_rfl) b1
 obtain⟨c2,q2,a2,b2⟩:=key 2 (by decide) _ rfl
 have d2:=func_of_trod (f0:=146) Tryd.underlying117 (by kernel_rfl) b2
 obtain⟨c3,q3,a3,b3⟩:=key 3 (by decide) _ rfl
 have d3:=func_of_trod (f0:=147) Tryd.underlying117 (by kernel_rfl) b3
 obtain⟨c4,q4,a4,b4⟩:=key 4 (by decide) _ rfl
 have d4:=func_of_trod (f0:=148) Tryd.underlying117 (by kernel_rfl) b4
 obtain⟨c5,q5,a5,b5⟩:=key 5 (by decide) _ rfl
 have d5:=func_of_trod (f0:=149) Tryd.underlying117 (by kernel_rfl) b5
 obtain⟨c6,q6,a6,b6⟩:=key 6 (by decide) _ rfl
 have d6:=func_of_trod (f0:=150) Tryd.underlying117 (by kernel_rfl) b6
 obtain⟨c7,q7,a7,b7⟩:=key 7 (by decide) _ rfl
 have d7:=func_of_trod (f0:=151) Tryd.underlying117 (by kernel_rfl) b7
 rcases j with _|_|_|_|_|_|_|_|j
 ·rw[a0,d0]; rfl
 ·rw[a1,d1]; rfl
 ·rw[a2,d2]; rfl
 ·rw[a3,d3]; rfl
 ·rw[a4,d4]; rfl
 ·rw[a5,d5]; rfl
 ·rw[a6,d6]; rfl
 ·rw[a7,d7]; rfl
 omega
theorem LM (os : Os) (args : Array Value) : laidMetH Tryd.prog [("leat/ledger.kinds", Rows.laid_leat_ledger_kinds)] ((World.doorLaid Tryd.prog 600 os).forCall (fun _ _ => 0) ⟨#[], args, []⟩).memory :=
 laidMetH_of_parts3 (fuel:=8) (laidMet_of_run' 8 (by kernel_rfl) (by kernel_rfl)) (by kernel_rfl) (by kernel_rfl)
end Go.Proofs.YtahbiajdgealnaaDoor
