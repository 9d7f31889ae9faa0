/-
  What the proof of the law rests on, part 7: walks of functions, and plain laws; each says its conditions itself.
-/
import Derived.Deep.Slices
import Derived.Lib.SmallJoins
import Derived.ChangeArms
import Derived.Test.YtahbiajdgealnaaGreatDoorRows
import Derived.LaidMore
import Derived.OpenShut
import Derived.ProofKit
import Derived.Stop.Joined
import Derived.Test.YtahbiajdgealnaaGreatDoorZA6
set_option maxHeartbeats 1600000
set_option linter.unusedVariables false
set_option linter.unusedSimpArgs false
namespace Go.Proofs.YtahbiajdgealnaaGreatDoor
open Go.RowKit Go
set_option linter.unusedVariables false
set_option maxRecDepth 20000
namespace Rt
def sM(x:Nat->Int):Int:=x 0*18446744073709551616+x 1
structure Cu(L:gV):Prop where
 up : ∀ i j,i<j->j<L.gn->sM (L.g i)<sM (L.g j)
 wf : ∀ q,q<L.gn->iD (L.g q 1)/\iD (L.g q 4)
 ga : ∀ q,q<L.gn->1<=L.g q 0/\L.g q 0<=6 /\ ∃ j,j<L.rn (L.g q 0-1).toNat/\L.rq (L.g q 0-1).toNat j=L.g q 1
section
variable {L:gV} {N:Nat} {v:EvM}
theorem TR(a:iD v.req){x:Nat->Int}(hx:iD (x 1)):D9 v x=true<->sM (uF v)<sM x:=by
 unfold D9 sM iD at *
 rw[Bool.or_eq_true,Bool.and_eq_true,decide_eq_true_iff,decide_eq_true_iff,decide_eq_true_iff]
 show v.o<x 0\/x 0=v.o/\v.req<x 1<->v.o*18446744073709551616+v.req<x 0*18446744073709551616+x 1
 omega
theorem JX{a:Nat}{r:Int}(d:gV)(f:d.rn=aJ L.rn a (L.rn a+1))(g:d.rq=aJ L.rq a (aJ (L.rq a) (L.rn a) r)):(∀ b y,(∃ j,j<L.rn b/\L.rq b j=y) -> ∃ j,j<d.rn b/\d.rq b j=y) /\ ∃ j,j<d.rn a/\d.rq a j=r:=by
 rw[f,g]
 unfold aJ
 refine⟨fun b y ⟨j,h,e⟩ => ?_,L.rn a,by rw[if_pos rfl]; omega,by rw[if_pos rfl,if_pos rfl]⟩
 by_cases c:b=a
 ·subst c
  exact⟨j,by rw[if_pos rfl]; omega,by rw[if_pos rfl,if_neg (by omega)]; exact e⟩
 exact⟨j,by rw[if_neg c]; exact h,by rw[if_neg c]; exact e⟩
attribute [local irreducible] dn cO in
theorem LM(h:Cu L)(J:dh v=true)(M:fC v)(t:iE L v=0):Cu (kK L v):=by
 have z:=qG J
 have m:iD v.req:=M.req
 unfold iE at t
 split at t
 ·cases t
 rename_i c1
 obtain⟨w,x⟩:=JX (L:=L) (a:=bA v) (r:=v.req) (kK L v) rfl rfl
 have K : ∀ j,j<L.gn -> ¬ (L.g j 0=v.o/\L.g j 1=v.req):=fun j f e=>c1 (by
  obtain⟨_,_,q,b,y⟩:=h.ga j f
  rw[e.1,e.2]at y
  rw[e.1]at b
  unfold gV.jQ
  rw[Bv]
  exact⟨q,b,decide_eq_true y⟩)
 obtain⟨k,u⟩ : ∃ k,k=Fx.down (fun i=>D9 v (L.g i)) L.gn:=⟨_,rfl⟩
 have l:k<=L.gn:=by rw[u]; exact Fx.xA _ _
 have I : ∀ q,k<=q->q<L.gn->sM (uF v)<sM (L.g q):=fun q D d=>(TR m (h.wf q d).1).1 (Fx.Gt (P:=fun i=>D9 v (L.g i)) (n:=L.gn) (i:=q) (by omega) d)
 have H : ∀ q,q<k->sM (L.g q)<sM (uF v):=fun q D=>by
  obtain⟨j,rfl⟩ : ∃ j,k=j+1:=⟨k-1,by omega⟩
  have d:=Fx.Gu (P:=fun i=>D9 v (L.g i)) (n:=L.gn) (j:=j) u.symm
  have E : ¬ sM (uF v)<sM (L.g j):=fun e=>by
   have:=(TR m (h.wf j (by omega)).1).2 e
   rw[this]at d; cases d
  have F:sM (L.g j)<sM (uF v):=by
   rcases Int.lt_trichotomy (sM (L.g j)) (sM (uF v))with c|c|c
   ·exact c
   ·exfalso
    have G:=(h.wf j (by omega)).1
    refine K j (by omega) ?_
    unfold sM at c
    have c:L.g j 0*18446744073709551616+L.g j 1=v.o*18446744073709551616+v.req:=c
    unfold iD at G m
    omega
   ·exact absurd c E
  by_cases e:q=j
  ·rw[e]; exact F
  ·have:=h.up q j (by omega) (by omega); omega
 have p:(kK L v).g=Fx.bX L.g k (uF v):=by rw[u]; rfl
 have s:(kK L v).gn=L.gn+1:=rfl
 refine⟨fun i j N f => ?_,fun q b => ?_,fun q b => ?_⟩
 ·rw[s]at f
  rw[p]
  rcases dO l (show i<L.gn+1 by omega)with rfl|⟨q,b,eq,q1,q2⟩
  ·rcases dO l f with rfl|⟨r,hr,er,w,x⟩
   ·omega
   rw[dD,er]; exact I r (by omega) hr
  rcases dO l f with rfl|⟨r,hr,er,w,x⟩
  ·rw[dD,eq]; exact H q (by omega)
  rw[eq,er]; exact h.up q r (by omega) hr
 ·rw[s]at b
  rw[p]
  rcases dO l b with rfl|⟨r,hr,er,_,_⟩
  ·rw[dD]; exact⟨m,by show iD 0; unfold iD; omega⟩
  rw[er]; exact h.wf r hr
 rw[s]at b
 rw[p]
 rcases dO l b with rfl|⟨r,hr,er,_,_⟩
 ·rw[dD]; exact⟨z.1,z.2.1,x⟩
 rw[er]
 obtain⟨A,B,C⟩:=h.ga r hr
 exact⟨A,B,w _ _ C⟩
attribute [local irreducible] dn cO in
theorem LP(h:Cu L)(w:dh v=true)(s:fC v)(u:iq L v=0):Cu (jF L v):=by
 obtain⟨t,x⟩:=JX (L:=L) (a:=bA v) (r:=v.req) (jF L v) rfl rfl
 have e : ∀ q,(jF L v).g q=if q=yE L v then aJ (L.g (yE L v)) 4 v.req else L.g q:=fun q=>rfl
 have b : ∀ j p,(p=0\/p=1)->(jF L v).g j p=L.g j p:=fun j p o=>by
  rw[e]
  by_cases c:j=yE L v
  ·subst c; rw[if_pos rfl]; rcases o with rfl|rfl <;> rfl
  ·rw[if_neg c]
 refine⟨fun i j m n => ?_,fun q d => ?_,fun q d => ?_⟩
 ·unfold sM
  rw[b i 0 (.inl rfl),b i 1 (.inr rfl),b j 0 (.inl rfl),b j 1 (.inr rfl)]
  exact h.up i j m n
 ·rw[b q 1 (.inr rfl)]
  refine⟨(h.wf q d).1,?_⟩
  rw[e]
  by_cases c:q=yE L v
  ·rw[if_pos c]; exact s.req
  rw[if_neg c]; exact(h.wf q d).2
 rw[b q 0 (.inl rfl),b q 1 (.inr rfl)]
 obtain⟨f,k,l⟩:=h.ga q d
 exact⟨f,k,t _ _ l⟩
theorem LQ(h:Cu L)(e:fC v):Cu (aW L v):=by
 unfold aW
 by_cases c:bL L v=0
 ·rw[if_pos c]
  have b:=(rdy (oq c)).1
  have a:dM L v=0:=by
   unfold bL at c
   rw[if_neg (by rw[b]; decide)]at c
   split at c; · cases c
   split at c; · cases c
   split at c; · cases c
   exact c
  have d:Cu (iw L v):=by
   unfold dM at a
   unfold iw
   by_cases f:v.kind=1
   ·rw[if_pos f]; exact⟨h.up,h.wf,h.ga⟩
   rw[if_neg f]at a ⊢
   by_cases g:v.kind=2
   ·rw[if_pos g]; exact⟨h.up,h.wf,h.ga⟩
   rw[if_neg g]at a ⊢
   by_cases i:v.kind=3
   ·rw[if_pos i]at a ⊢; exact LM h b e a
   rw[if_neg i]at a ⊢
   by_cases j:v.kind=4
   ·rw[if_pos j]at a ⊢; exact LP h b e a
   rw[if_neg j]at a ⊢
   by_cases k:v.kind=5
   ·rw[if_pos k]; exact⟨h.up,h.wf,h.ga⟩
   rw[if_neg k]
   by_cases l:v.kind=6
   ·rw[if_pos l]; exact⟨h.up,h.wf,h.ga⟩
   ·rw[if_neg l]; exact⟨h.up,h.wf,h.ga⟩
  exact⟨d.up,d.wf,d.ga⟩
 rw[if_neg c]; exact h
theorem TS(k a:Nat):Cu (jR k a).core:=⟨fun i j _ h=>absurd h (Nat.not_lt_zero _),fun q h=>absurd h (Nat.not_lt_zero _),fun q h=>absurd h (Nat.not_lt_zero _)⟩
theorem fK.new(k l d e f c b g:Nat):fK (Ai k l d e f c b) (jR k g).core where
 T:=⟨fun q=>⟨fun h=>(nomatch h),fun⟨i,h,_⟩=>absurd h (Nat.not_lt_zero _)⟩,rfl,fun i h=>absurd h (Nat.not_lt_zero _)⟩
 inn:=rfl
 left:=rfl
 known:=rfl
 row:=fun i h=>absurd h (Nat.not_lt_zero _)
 own:=fun a _=>rfl
 gi:=fun i j h=>absurd h (Nat.not_lt_zero _)
 gn:=rfl
 g1:=fun q h=>absurd h (Nat.not_lt_zero _)
 g2:=fun q h=>absurd h (Nat.not_lt_zero _)
 ask:=fun a r _=>⟨fun h=>(nomatch h),fun⟨j,h,_⟩=>absurd h (Nat.not_lt_zero _)⟩
 ga:=fun i h=>absurd h (Nat.not_lt_zero _)
 li:=fun i j h=>absurd h (Nat.not_lt_zero _)
structure StC(L:gV)(m:dY)(l:List Int)(gl:List Hu):Prop where
 nn:l.length=L.nn
 gn:gl.length=L.gn
 n : ∀ k,k<L.nn->l.getD k 0=L.id k/\m.T.par (l.getD k 0)=L.par k/\BQ m (l.getD k 0)=L.R k
 g : ∀ k,k<L.gn->(gl.getD k g0).x=L.g k
theorem StC.of{m:dY}{l:List Int}{c:List Hu}(h:fK m L)(F:Inv0 L N)(u:Cu L)(B:l.Pairwise (· < ·) /\ ∀ k,k∈l<->m.T.has k=true)(s:GrS m c):StC L m l c:=by
 have w:l=(List.range L.nn).map L.id:=xE B.1 (by
  rw[List.pairwise_map]
  exact(List.pairwise_lt_range (n:=L.nn)).imp_of_mem fun {a b} _ hb hab=>F.rise a b hab (List.mem_range.1 hb)) fun k=>by
  rw[B.2,h.T.has,List.mem_map]
  exact⟨fun⟨i,d,e⟩=>⟨i,List.mem_range.2 d,e⟩,fun⟨i,d,e⟩=>⟨i,List.mem_range.1 d,e⟩⟩
 have y:c.map JR=(List.range L.gn).map fun q=>sM (L.g q):=xE (by rw[List.pairwise_map]; exact s.up) (by
  rw[List.pairwise_map]
  exact(List.pairwise_lt_range (n:=L.gn)).imp_of_mem fun {a b} _ hb hab=>u.up a b hab (List.mem_range.1 hb)) fun k=>by
  rw[List.mem_map,List.mem_map]
  constructor
  ·rintro ⟨x,v,e⟩
   obtain⟨i,d,p⟩:=s.mem x v
   obtain⟨q,o,r⟩:=h.g2 i d
   refine⟨q,List.mem_range.2 o,?_⟩
   rw[r,<- p]; exact e
  ·rintro ⟨q,o,e⟩
   obtain⟨j,G,C⟩:=h.g1 q (List.mem_range.1 o)
   obtain⟨x,v,E⟩:=s.all j G
   refine⟨x,v,?_⟩
   rw[<- e,<- C,<- E]; rfl
 have I:c.length=L.gn:=by have:=congrArg List.length y; rwa [List.length_map,List.length_map,List.length_range]at this
 refine⟨by rw[w,List.length_map,List.length_range],I,fun k f => ?_,fun k f => ?_⟩
 ·have:l.getD k 0=L.id k:=by
   rw[w,List.getD_eq_getElem?_getD,List.getElem?_eq_getElem (by rw[List.length_map,List.length_range]; exact f)]
   simp
  rw[this]
  exact⟨rfl,h.T.par k f,h.row k f⟩
 have t:k<c.length:=by omega
 have H:c.getD k g0∈c:=by rw[List.getD_eq_getElem?_getD,List.getElem?_eq_getElem t]; exact List.getElem_mem t
 have D:JR (c.getD k g0)=sM (L.g k):=by
  have A:=congrArg (fun z=>z.getD k 0) y
  simp only[List.getD_eq_getElem?_getD,List.getElem?_map,List.getElem?_eq_getElem t,List.getElem?_range f]at A
  rw[List.getD_eq_getElem?_getD,List.getElem?_eq_getElem t]; exact A
 obtain⟨i,d,p⟩:=s.mem _ H
 obtain⟨q,o,r⟩:=h.g2 i d
 have J:sM (L.g q)=sM (L.g k):=by rw[r,<- p,<- D]; rfl
 have:q=k:=by
  rcases Nat.lt_trichotomy q k with h5|h5|h5
  ·have:=u.up q k h5 f; omega
  ·exact h5
  ·have:=u.up k q h5 o; omega
 rw[p,<- r,this]
end
end Rt
end Go.Proofs.YtahbiajdgealnaaGreatDoor
namespace Go.Proofs.YtahbiajdgealnaaGreatDoor
open Go.RowKit Go.WideShapes Go.ChangeShapes Go.Deep
theorem O4{w:World}{x:Addr}{v:Value}(h:w.cell? x=some v) : ∃ b a,x=⟨b,a,none⟩:=by
 obtain⟨b,a,c⟩:=x
 cases c with
 | none=>exact⟨b,a,rfl⟩
 | some q =>
   unfold World.cell? at h
   simp at h
   split at h <;> cases h
def At4(a k1 k2 c:IntKind)(w:World)(b off:Nat)(x0 x1 x2 d:Int):Prop :=
 w.cell? ⟨b,off,none⟩=some (.int a x0)/\w.cell? ⟨b,off+1,none⟩=some (.int k1 x1)/\w.cell? ⟨b,off+2,none⟩=some (.int k2 x2)/\w.cell? ⟨b,off+3,none⟩=some (.int c d)
def Wf4(a k1 k2 b:IntKind)(x0 x1 x2 c:Int):Prop:=(Lit.int a x0).wf=true/\(Lit.int k1 x1).wf=true/\(Lit.int k2 x2).wf=true/\(Lit.int b c).wf=true
def Sl4(g k1 k2 h:IntKind)(w:World)(a:Option Addr)(len:Nat)(c d e f:Nat->Int):Prop :=
 ∀ i,i<len->(∃ b j,a=some ⟨b,j,none⟩/\At4 g k1 k2 h w b (j+i*4) (c i) (d i) (e i) (f i))/\Wf4 g k1 k2 h (c i) (d i) (e i) (f i)
theorem Sl4.up{m k1 k2 n:IntKind}{w w':World}{a:Option Addr}{len:Nat}{g j k l:Nat->Int}(h:Sl4 m k1 k2 n w a len g j k l)(f:Below w.heap.size w w'):Sl4 m k1 k2 n w' a len g j k l:=by
 intro i q
 obtain⟨⟨b,d,e,o,r,s,t⟩,hw⟩:=h i q
 have c:=block_lt_of_cell o
 dsimp only at c
 exact⟨⟨b,d,e,(f.cell (p:=⟨b,d+i*4,none⟩) c).trans o,(f.cell (p:=⟨b,d+i*4+1,none⟩) c).trans r,(f.cell (p:=⟨b,d+i*4+2,none⟩) c).trans s,(f.cell (p:=⟨b,d+i*4+3,none⟩) c).trans t⟩,hw⟩
instance {g k1 k2 i:IntKind} {w w':World} {a:Option Addr} {len:Nat} {c d e f:Nat->Int}:Rt.Tr w w' (Sl4 g k1 k2 i w a len c d e f) (Sl4 g k1 k2 i w' a len c d e f):=⟨fun b h=>h.up b⟩
end Go.Proofs.YtahbiajdgealnaaGreatDoor
namespace Go.Proofs.YtahbiajdgealnaaGreatDoor
open Go.RowKit Go.WideShapes Go.ChangeShapes Go.Deep
def vM(P:Program):Nat->TypeId->Option (List (Option IntKind))
 | 0,_=>none
 | d+1,t=>match P.underlying t with
   | some (.int k)=>some [some k]
   | some .bool=>some [none]
   | some (.array n e)=>(vM P d e).bind fun a=>if P.cellsOf e=a.length/\P.cellsOf t=n*a.length then some (List.replicate n a).flatten else none
   | some (.struct fs)=>(fs.toList.foldlM (fun l f=>(vM P d f.type).bind fun a=>if f.offset=l.length/\P.cellsOf f.type=a.length then some (l++a)else none) []).bind fun l=>if P.cellsOf t=l.length then some l else none
   | _=>none
def Ic(k:Option IntKind)(v:Value):Prop:=match k with|some k => ∃ n,v = .int k n/\(Lit.int k n).wf=true|none => ∃ b,v = .bool b
def Yj(ks:List (Option IntKind))(cs:List Value):Prop:=cs.length=ks.length /\ ∀(j:Nat) (k:Option IntKind),ks[j]? = some k -> ∃ v,cs[j]? = some v/\Ic k v
theorem Bz{ks:List (Option IntKind)}{k:Option IntKind} : ∀(n j:Nat),(List.replicate n ks).flatten[j]? = some k->ks[j % ks.length]? = some k/\j / ks.length<n
 | 0,j,h=>by simp at h
 | n+1,j,h=>by
   rw[List.replicate_succ,List.flatten_cons]at h
   by_cases b:j<ks.length
   ·rw[List.getElem?_append_left b]at h
    rw[Nat.mod_eq_of_lt b,Nat.div_eq_of_lt b]; exact⟨h,by omega⟩
   ·rw[List.getElem?_append_right (by omega)]at h
    have c:0<ks.length:=by
     rcases Nat.eq_zero_or_pos ks.length with e|e
     ·obtain⟨a,_⟩:=Bz n _ h
      have:=(List.getElem?_eq_some_iff.1 a).1; omega
     ·exact e
    obtain⟨a,d⟩:=Bz n _ h
    rw[Nat.mod_eq_sub_mod (by omega),Nat.div_eq_sub_div c (by omega)]
    exact⟨a,by omega⟩
section
variable {H:Type} {enc:TypeId × Value->H} {P:Program} {w:World} {base:Nat} {spare:Nat->Bool} {held:Bool}
theorem EA{ks:List (Option IntKind)}{cs:List Value}{o s j:Nat}{k:Option IntKind}(h:Yj ks ((cs.drop o).take s))(e:s=ks.length)(b:ks[j]? = some k) : ∃ v,cs[o+j]? = some v/\Ic k v:=by
 obtain⟨n,a,c⟩:=h.2 j k b
 have d:=(List.getElem?_eq_some_iff.1 b).1
 rw[List.getElem?_take_of_lt (by omega),List.getElem?_drop]at a
 exact⟨n,a,c⟩
theorem BA : ∀(d:Nat) (t:TypeId) (q:List (Option IntKind)),vM P d t=some q -> ∀(C:Nat) (p:List Value) (x:DataW H × List MemPlace),DataW.trod enc P w base spare held C t p=some x->Yj q p
 | 0,_,_,h=>by simp[vM]at h
 | d+1,t,q,h=>by
   intro C p x z
   unfold vM at h
   split at h
   ·rename_i k hu
    simp only[Option.some.injEq]at h; subst h
    obtain⟨n,rfl,_,U⟩:=DataW.trod_int hu z
    refine⟨rfl,fun j W a => ?_⟩
    match j,a with
    | 0,a=>simp at a; subst a; exact⟨_,rfl,n,rfl,U⟩
    | j+1,a=>simp at a
   ·rename_i hu
    simp only[Option.some.injEq]at h; subst h
    obtain⟨b,rfl,_⟩:=DataW.trod_bool hu z
    refine⟨rfl,fun j W a => ?_⟩
    match j,a with
    | 0,a=>simp at a; subst a; exact⟨_,rfl,b,rfl⟩
    | j+1,a=>simp at a
   ·rename_i n e hu
    obtain⟨I,S,h⟩:=Option.bind_eq_some_iff.1 h
    split at h
    ·rename_i hc
     simp only[Option.some.injEq]at h; subst h
     obtain⟨Y,m,_,_,c,F,J⟩:=DataW.trod_array hu z
     refine⟨by rw[c,hc.2]; simp,fun j k a => ?_⟩
     obtain⟨r,A⟩:=Bz n j a
     have u:=J (j / I.length) A
     rw[List.getElem?_eq_getElem (by omega),hc.1]at u
     have:=EA (BA d e I S _ _ _ u) rfl r
     rw[Nat.mul_comm,Nat.div_add_mod]at this
     exact this
    ·cases h
   ·rename_i fs hu
    obtain⟨l,c,h⟩:=Option.bind_eq_some_iff.1 h
    split at h
    ·rename_i hc
     simp only[Option.some.injEq]at h; subst h
     obtain⟨Y,m,_,_,T,F,K⟩:=DataW.trod_struct hu z
     refine⟨by rw[T,hc],?_⟩
     have M : ∀ f,f∈fs.toList -> ∃ y,DataW.trod enc P w base spare held m f.type ((p.drop f.offset).take (P.cellsOf f.type))=some y:=by
      intro f N
      obtain⟨i,u,e⟩:=List.mem_iff_getElem.1 N
      have E:i<fs.size:=by simpa using u
      have r:fs[i]? = some f:=by rw[Array.getElem?_eq_getElem E]; simpa using e
      have:=K i f r
      rw[List.getElem?_eq_getElem (by rw[F]; exact E)]at this
      exact⟨_,this⟩
     have X : ∀(L:List Field) (o:List (Option IntKind)),(∀ f,f∈L -> ∃ y,DataW.trod enc P w base spare held m f.type ((p.drop f.offset).take (P.cellsOf f.type))=some y)->(∀(j:Nat) (k:Option IntKind),o[j]? = some k -> ∃ v,p[j]? = some v/\Ic k v) -> ∀ l,L.foldlM (fun l f=>(vM P d f.type).bind fun q=>if f.offset=l.length/\P.cellsOf f.type=q.length then some (l++q)else none) o=some l -> ∀(j:Nat) (k:Option IntKind),l[j]? = some k -> ∃ v,p[j]? = some v/\Ic k v:=by
      intro L
      induction L with
      | nil=>intro o _ B l c; simp at c; subst c; exact B
      | cons f L ih =>
        intro o D B l c
        rw[List.foldlM_cons]at c
        obtain⟨Z,r,A⟩:=Option.bind_eq_some_iff.1 c
        obtain⟨G,R,s⟩:=Option.bind_eq_some_iff.1 r
        split at s
        ·rename_i hcc
         simp only[Option.some.injEq]at s; subst s
         refine ih (o++G) (fun g O=>D g (List.mem_cons_of_mem _ O)) (fun j k a => ?_) l A
         by_cases Q:j<o.length
         ·rw[List.getElem?_append_left Q]at a; exact B j k a
         ·rw[List.getElem?_append_right (by omega)]at a
          obtain⟨y,V⟩:=D f (List.mem_cons_self ..)
          have:=EA (BA d f.type G R _ _ _ V) hcc.2 a
          rw[hcc.1,show o.length+(j-o.length)=j by omega]at this
          exact this
        ·cases s
     exact X fs.toList [] M (fun j k a=>by simp at a) l c
    ·cases h
   ·cases h
end
section
variable {H:Type} {enc:TypeId × Value->H} {P:Program} {w:World} {base:Nat} {spare:Nat->Bool} {held:Bool}
theorem Gb{t e:TypeId}{ks:List (Option IntKind)}{fuel D:Nat}{cs:List Value}{x:DataW H × List MemPlace}(S:P.underlying t=some (.slice e))(O:vM P D e=some ks)(F:P.cellsOf e=ks.length)(C:0<ks.length)
 (h:DataW.trod enc P w base spare held fuel t cs=some x) : ∃ a c l,cs = [.slice a c l]/\c<=maxLen/\c<=l /\ ∃ X:Nat->Nat->Value,(∀ i,i<c -> ∀(j:Nat) (k:Option IntKind),ks[j]? = some k->Ic k (X i j))/\Fx.ku w a c ks.length (Fx.flat ks.length X):=by
 rcases open_slice S h with ⟨rfl,_⟩|⟨a',c,l,m,n,D',Pl,rfl,_,hl,hm,hmm,_,hx⟩
 ·exact⟨none,0,0,rfl,by unfold maxLen; omega,Nat.le_refl _,fun _ _=>undef,fun i d=>absurd d (by omega),fun h=>absurd h (by omega)⟩
 have W:c<=m:=by rw[hmm]; split <;> omega
 have r : ∀ i j:Nat,∃ q:Value,i<c -> ∀ k,ks[j]? = some k->w.cell? (a'.add (i*ks.length+j))=some q/\Ic k q:=by
  intro i j
  by_cases d:i<c/\j<ks.length
  ·obtain⟨U,A,J⟩:=hx i (by omega)
   rw[F]at A
   obtain⟨_,V,M⟩:=World.cells?_some A
   obtain⟨q,y,z⟩:=(BA _ _ _ O _ _ _ J).2 j _ (List.getElem?_eq_getElem d.2)
   refine⟨q,fun _ k v => ?_⟩
   rw[List.getElem?_eq_getElem d.2,Option.some.injEq]at v
   subst v
   have E:=M j (by omega)
   rw[add_add]at E
   exact⟨by rw[<- y]; simpa using E,z⟩
  ·refine⟨undef,fun y k z=>absurd ⟨y,(List.getElem?_eq_some_iff.1 z).1⟩ d⟩
 refine⟨some a',c,l,rfl,by omega,hl,fun i j=>Classical.choose (r i j),fun i d j k v=>(Classical.choose_spec (r i j) d k v).2,fun K => ?_⟩
 have G:a'.add (0*ks.length+0)=a':=by unfold Addr.add; simp
 obtain⟨Z,L⟩:=r 0 0
 have Q:=List.getElem?_eq_getElem C
 have B:=(L K _ Q)
 have g:=B.1
 rw[G]at g
 have o : ∃ b f,a'=⟨b,f,none⟩:=by
  have u:=B.2
  unfold Ic at u
  split at u
  ·obtain⟨Y,rfl,_⟩:=u; exact O4 g
  ·obtain⟨T,rfl⟩:=u
   unfold World.cell? at g
   cases a' with
   | mk b f sp =>
     cases sp with
     | none=>exact⟨b,f,rfl⟩
     | some s=>simp at g; split at g <;> simp_all
 obtain⟨b,f,o⟩:=o
 refine⟨b,f,by rw[o],fun p R => ?_⟩
 have N:p % ks.length<ks.length:=Nat.mod_lt _ C
 have d:p / ks.length<c:=Nat.div_lt_of_lt_mul (by rw[Nat.mul_comm]; exact R)
 have:=(Classical.choose_spec (r (p / ks.length) (p % ks.length)) d _ (List.getElem?_eq_getElem N)).1
 have I:a'.add (p / ks.length*ks.length+p % ks.length)=⟨b,f+p,none⟩:=by rw[o,addr_add,Nat.mul_comm,Nat.div_add_mod]
 exact(congrArg w.cell? I).symm.trans this
end
def numOf:Value->Int | .int _ n=>n|_=>0
theorem Ic.num{k:IntKind}{v:Value}(h:Ic (some k) v):v = .int k (numOf v)/\(Lit.int k (numOf v)).wf=true:=by
 obtain⟨n,rfl,a⟩:=h; exact⟨rfl,a⟩
theorem Yk{n:Int}(h:(Lit.int .u8 n).wf=true):0<=n/\n<=255:=by simp[Lit.wf,IntKind.min,IntKind.max,IntKind.bits,IntKind.signed]at h; omega
theorem abH{n:Int}(h:(Lit.int .u64 n).wf=true):0<=n/\n<18446744073709551616:=by simp[Lit.wf,IntKind.min,IntKind.max,IntKind.bits,IntKind.signed]at h; omega
theorem abI{n:Int}(h:(Lit.int .i64 n).wf=true) : -9223372036854775808<=n/\n<=9223372036854775807:=by simp[Lit.wf,IntKind.min,IntKind.max,IntKind.bits,IntKind.signed]at h; omega
section
variable {H:Type} {enc:TypeId × Value->H} {P:Program} {w:World}
theorem EB{t e:TypeId}{ks:List (Option IntKind)}{a:Option Addr}{len cap D:Nat}{d:DataW H}{q:List MemPlace}(p:P.underlying t=some (.slice e))(m:vM P D e=some ks)(c:P.cellsOf e=ks.length)(o:0<ks.length)
 (h:DataW.Trod enc P w 0 (fun _=>true) true t (.slice a len cap) d q):len<=maxLen /\ ∃ X:Nat->Nat->Value,(∀ i,i<len -> ∀(j:Nat) (k:Option IntKind),ks[j]? = some k->Ic k (X i j))/\Fx.ku w a len ks.length (Fx.flat ks.length X):=by
 obtain⟨u,l⟩:=h
 obtain⟨r,v,s,b,n,_,X,g,f⟩:=Gb p m c o l
 simp[Value.cells]at b
 obtain⟨rfl,rfl,rfl⟩:=b
 exact⟨n,X,g,f⟩
theorem ku.qU{w:World}{a:Option Addr}{n s:Nat}{x y:Nat->Value}(h:Fx.ku w a n s x)(e : ∀ p,p<n*s->x p=y p):Fx.ku w a n s y:=fun f=>by
 obtain⟨b,j,d,g⟩:=h f
 exact⟨b,j,d,fun i c=>by rw[<- e i c]; exact g i c⟩
end
end Go.Proofs.YtahbiajdgealnaaGreatDoor
namespace Go.Proofs.YtahbiajdgealnaaGreatDoor
open Go.RowKit Rt
open Fx (fD eT fI bC gL gK dw dR fZ iL dZ jg fP jh iV Lv sN Ln Ws Qv Wl Rp Wc Qs Wr Sb Lk Wk rC rV sR Rs Rn Rd Rk Wb Wx Wo Dw Wt qQ JL Qn EI Ao yj yI Ca Dl pG gY yL lZ sO uq vP wB xR Cy Ak rv aA aP bG aQ ev bX Stp dG aU flat dz Mp eX aT gN iF bD down iH jB jU iA ku bH bJ cells_one iG bT wD unseen jr gM bU dH bK bP bV bW fU gJ oQ gG)
set_option maxRecDepth 20000
set_option linter.unusedVariables false
namespace Rt
def WT(L:gV)(c:Option Addr)(d:Nat)(a:Option Addr)(b:Nat):CO:=⟨L.inn,L.left,L.known,c,L.nn,d,a,L.gn,b⟩
def Uu(L:gV):Nat->Nat->Value:=fun k=>kQ (L.id k) (L.par k) (L.R k)
def Uv(L:gV):Nat->Nat->Value:=fun k=>iM (L.g k)
structure LWf(L:gV):Prop where
 n : ∀ k,k<L.nn->iD (L.id k)/\iD (L.par k) /\ ∀ p,p<54->oL (L.R k p)
 g : ∀ k,k<L.gn->oL (L.g k 0)/\iD (L.g k 1)/\iD (L.g k 2)/\oL (L.g k 3)/\iD (L.g k 4)
 k : ∀ i,i<6->iD (L.known i)
 bn:L.nn<=900000
 bg:L.gn<=900000
theorem TT{n:Int}(h:iD n):(Lit.int .u64 n).wf=true:=Fx.rE h
theorem amC{n:Int}(h:oL n):(Lit.int .i64 n).wf=true:=Fx.Py h
theorem JY{n:Int}(h:iD n):mZ (some .u64) (.int .u64 n)=some (.int .u64 n):=by simp[mZ,TT h]
theorem TU{n:Int}(h:oL n):mZ (some .i64) (.int .i64 n)=some (.int .i64 n):=by simp[mZ,amC h]
theorem Db(b:Nat->Bool):Fx.Kd (List.replicate 6 none) (fun j => .bool (b j)):=fun i a=>⟨.bool (b i),by rw[List.getElem_replicate]; rfl⟩
theorem Yl{id par:Int}{R:Nat->Int}(h:iD id/\iD par /\ ∀ p,p<54->oL (R p)):Fx.Kd (some .u64::some .u64::List.replicate 54 (some .i64)) (kQ id par R):=fun i a=>by
 match i,a with
 | 0,_=>exact⟨_,JY h.1⟩
 | 1,_=>exact⟨_,JY h.2.1⟩
 | i+2,a =>
   have b:i<54:=by simp at a; omega
   have e:(some IntKind.u64::some IntKind.u64::List.replicate 54 (some IntKind.i64))[i+2]=some .i64:=by rw[List.getElem_cons_succ,List.getElem_cons_succ,List.getElem_replicate]
   rw[e,KZ _ _ _ (p:=i) rfl]
   exact⟨_,TU (h.2.2 i b)⟩
theorem Ym{x:Nat->Int}(h:oL (x 0)/\iD (x 1)/\iD (x 2)/\oL (x 3)/\iD (x 4)):Fx.Kd [some .i64,some .u64,some .u64,some .i64,some .u64] (iM x):=fun i a=>by
 match i,a with
 | 0,_=>exact⟨_,TU h.1⟩
 | 1,_=>exact⟨_,JY h.2.1⟩
 | 2,_=>exact⟨_,JY h.2.2.1⟩
 | 3,_=>exact⟨_,TU h.2.2.2.1⟩
 | 4,_=>exact⟨_,JY h.2.2.2.2⟩
theorem LWf.of{L:gV}{N:Nat}(a:Inv0 L N)(o:zh L)(m:Cu L)(A:N<=900000):LWf L where
 n:=fun k c=>by
  have y:=a.pos k c
  have z:=a.top k c
  have f:=ko (a.may k c)
  refine⟨⟨by omega,by omega⟩,?_,fun p r=>by have:=f p r; exact⟨by omega,by omega⟩⟩
  rcases a.up k c with e|⟨j,b,e⟩
  ·rw[e]; exact⟨by omega,by omega⟩
  ·have h:=a.pos j b
   have l:=a.top j b
   rw[<- e]; exact⟨by omega,by omega⟩
 g:=fun k c=>by
  obtain⟨d,u,v,w,x⟩:=o.gb k c
  obtain⟨s,t⟩:=m.wf k c
  obtain⟨j,b,e⟩:=gX.1 d
  rw[a.Bj]at b
  rw[(a.tid j b).1]at e
  have h:=a.pos j b
  have l:=a.top j b
  exact⟨⟨by omega,by omega⟩,s,by rw[<- e]; exact⟨by omega,by omega⟩,⟨by omega,by omega⟩,t⟩
 k:=fun i q=>by have:=a.kn i q; exact⟨by omega,by omega⟩
 bn:=by have:=a.nn; omega
 bg:=by have:=a.gn; omega
end Rt
structure Nu(w:World)(s:CO)(L:gV):Prop where
 e:s=WT L s.na s.nc s.ga s.gc
 n:ku w s.na L.nn 56 (flat 56 (Uu L))
 g:ku w s.ga L.gn 5 (flat 5 (Uv L))
theorem Nu.up{w w':World}{s:CO}{L:gV}(h:Nu w s L)(a:Below w.heap.size w w'):Nu w' s L:=⟨h.e,h.n.up a rfl,h.g.up a rfl⟩
instance {w w':World} {s:CO} {L:gV}:Rt.Tr w w' (Nu w s L) (Nu w' s L):=⟨fun b h=>h.up b⟩
theorem Nu.ldg{w:World}{p:Nat}{m:jK}(h:Al w p m):Nu w m.s m.core:=⟨rfl,h.an,h.ag⟩
theorem Nu.of{w:World}{B:Nat}{m:dY}{s:CO}{l:List Int}{p:List Hu}{L:gV}{N:Nat}(h:StQ w B m s l p)(d:fK m L)(r:Inv0 L N)(q:Cu L):Nu w s L:=by
 have e:=StC.of d r q h.ls h.gs
 have f:s.nn=L.nn:=by rw[h.nn,e.nn]
 have i:s.gn=L.gn:=by rw[h.gn,e.gn]
 refine⟨?_,?_,?_⟩
 ·cases s
  unfold WT
  have a:=h.inn
  have b:=h.left
  have c:=h.known
  simp only at a b c f i ⊢
  rw[a,b,c,d.inn,d.left,d.known,f,i]
 ·have:=h.n.arr
  rw[f]at this
  refine ku.qU this<|bH fun k o j _ => ?_
  obtain⟨a,b,c⟩:=e.n k o
  unfold TK Uu
  rw[b,c,a]
 have:=h.g.arr
 rw[i]at this
 refine ku.qU this<|bH fun k o j _ => ?_
 unfold Ut Uv
 rw[e.g k o]
theorem abJ(L:gV)(t A m x:Option Addr)(u B o y:Nat)(w:World)(l:LWf L)(hN1:ku w t L.nn 56 (flat 56 (Uu L)))(hN2:ku w A L.nn 56 (flat 56 (Uu L)))(hG1:ku w m L.gn 5 (flat 5 (Uv L)))(hG2:ku w x L.gn 5 (flat 5 (Uv L))) :
 Calls Tryz.prog 17 #[.agg (aA 20 (nH (WT L t u m o))),.agg (aA 20 (nH (WT L A B x y)))] w fun e w'=>e = .returned (.bool true)/\Below w.heap.size w w':=by
 have hbn:=l.bn
 have hbg:=l.bg
 refine Kent Tryz.func17 80 ?_
 refine ay<|pK fun c w1 kV S s1 z1 => ?_
 have V:=aY s1.old (Below.refl w.heap.size w)
 have tL:=gH kV
 have vR:=S.lt
 refine pK fun d w2 ae s s2 z2 => ?_
 have⟨z,b2⟩:=eG s2.old S V
 have qO:=jc ae V.size
 have IY:=bY ae S.lt
 have zJ:=s.lt
 refine av aF<|aC<|Ws<|ay<|av ((pt c))<|Lv (.agg (aA 6 (fun j => .bool (L.inn j)))) (fA z.aH 0 (fun j h=>by rw[Nat.zero_add]; exact yX _ h))<|av ((pt d))<|Lv (.agg (aA 6 (fun j => .bool (L.inn j)))) (fA s.aH 0 (fun j h=>by rw[Nat.zero_add]; exact yX _ h))<|Lv aF (Fx.Aq (n:=6) (ks:=List.replicate 6 none) (X:=fun j => .bool (L.inn j)) (Y:=fun j => .bool (L.inn j)) 12 true rfl rfl rfl (Fx.EJ (fun _ _=>rfl)) (Db _) (Db _) rfl (by kernel_rfl) (by kernel_rfl) (by kernel_rfl) (by kernel_rfl) (by kernel_rfl))<|av aF<|av ((pf c 6))<|Lv (.agg (aA 6 (fun j => .bool (L.left j)))) (fA z.aH 6 (fun j h=>zL (p:=j) _ h (by omega)))<|av ((pf d 6))<|Lv (.agg (aA 6 (fun j => .bool (L.left j)))) (fA s.aH 6 (fun j h=>zL (p:=j) _ h (by omega)))<|Lv aF (Fx.Aq (n:=6) (ks:=List.replicate 6 none) (X:=fun j => .bool (L.left j)) (Y:=fun j => .bool (L.left j)) 12 true rfl rfl rfl (Fx.EJ (fun _ _=>rfl)) (Db _) (Db _) rfl (by kernel_rfl) (by kernel_rfl) (by kernel_rfl) (by kernel_rfl) (by kernel_rfl))<|av aF<|av aF<|av ((pf c 12))<|Lv (.agg (aA 6 (rv .u64 L.known))) (fA z.aH 12 (fun j h=>iY (p:=j) _ h (by omega)))<|av ((pf d 12))<|Lv (.agg (aA 6 (rv .u64 L.known))) (fA s.aH 12 (fun j h=>iY (p:=j) _ h (by omega)))<|Lv aF (Fx.Aq (n:=6) (ks:=List.replicate 6 (some .u64)) (X:=rv .u64 L.known) (Y:=rv .u64 L.known) 12 true rfl rfl rfl (Fx.EJ (fun _ _=>rfl)) (Fx.Dm fun i Q=>TT (l.k i Q)) (Fx.Dm fun i Q=>TT (l.k i Q)) rfl (by kernel_rfl) (by kernel_rfl) (by kernel_rfl) (by kernel_rfl) (by kernel_rfl))<|av aF<|av aF<|av ((pf c 18))<|Lv (.slice t (L.nn) (u)) (aL z.aH 18)<|av (au L.nn)<|av ((pf d 18)) ?_
 refine Lv (.slice A (L.nn) (B)) (aL s.aH 18)<|av (au L.nn)<|Lv aF (jJ rfl)<|av aF<|av aF<|av ((pf c 19))<|Lv (.slice m (L.gn) (o)) (aL z.aH 19)<|av (au L.gn)<|av ((pf d 19))<|Lv (.slice x (L.gn) (y)) (aL s.aH 19)<|av (au L.gn)<|Lv aF (jJ rfl)<|av aF<|aC<|aK<|Wk<|sN<|Ws<|ay<|av (au 0)<|aC<|Wb<|Wo (fun f v => ∃ k:Nat,k<=L.nn/\f 2=(pt c)/\f 3=(pt d)/\f 5=au ((k:Int))/\aP v c 20 (nH (WT L t u m o)) 53/\aP v d 20 (nH (WT L A B x y)) 53/\Below w.heap.size w v) (fun f _=>(L.nn-(intOf (f 5)).toNat)) ⟨0,by omega,(by rfl),(by rfl),Fx.ic,z,s,b2⟩ ?_
 rintro f1 C ⟨k,hk,J,O,E,K,U,H⟩
 refine Ws<|ay<|aS E<|Lv ((pf c 18)) (iN J 18)<|Lv (.slice t (L.nn) (u)) (aL K.aH 18)<|av (au L.nn) ?_
 by_cases ac:(k:Int)<(L.nn:Int)
 ·refine Lv aG (gy ac)<|aC<|aM<|Wk<|sN<|Ws<|Wb<|Ws ?_
  -- region 6 draws
  refine wh<|Qv ((pf c 18)) (fun b a=>iN J 18)<|Qv (.slice t (L.nn) (u)) (fun b a=>aL (K.aH.dr a) 18)<|dS E ?_
  obtain⟨W,oq1,eq1,m6⟩:=(hN1.up H rfl) (by omega)
  have aed:W<C.heap.size:=m6.lt (by omega)
  refine Qv ((pf W (56*k+oq1))) (fun b a=>cu 56 (hx:=(rfl.trans (congrArg (fun q=>Value.slice q (L.nn) (u)) eq1))))<|Qv (.agg (aA 56 (Uu L k))) (fun b a=>fA (m6.dr a) (56*k) (fun R r=>Fx.iT (k:=k) (by omega) r))<|Qv ((pf d 18)) (fun b a=>iN O 18)<|Qv (.slice A (L.nn) (B)) (fun b a=>aL (U.aH.dr a) 18)<|dS E ?_
  obtain⟨Z,oq2,ET,m7⟩:=(hN2.up H rfl) (by omega)
  have amF:Z<C.heap.size:=m7.lt (by omega)
  refine Qv ((pf Z (56*k+oq2))) (fun b a=>cu 56 (hx:=(rfl.trans (congrArg (fun q=>Value.slice q (L.nn) (B)) ET))))<|Qv (.agg (aA 56 (Uu L k))) (fun b a=>fA (m7.dr a) (56*k) (fun R r=>Fx.iT (k:=k) (by omega) r))<|Qv aF (fun b a=>Fx.Aq (n:=56) (ks:=((some .u64)::(some .u64)::List.replicate 54 (some .i64))) (X:=Uu L k) (Y:=Uu L k) 12 true rfl rfl rfl (Fx.EJ (fun _ _=>rfl)) (Yl (l.n k (by omega))) (Yl (l.n k (by omega))) rfl (by kernel_rfl) (by kernel_rfl) (by kernel_rfl) (by kernel_rfl) (by kernel_rfl))<|Qn ?_
  rintro _ ⟨G,rfl⟩
  obtain⟨BI,M⟩ : ∃ b,b=World.drewN C G:=⟨_,rfl⟩
  rw[<- M]
  have s3:Stp C.heap.size C BI:=by rw[M]; exact Sb (iU C G)
  have⟨m8,m9,b4⟩:=jk s3.old K U H
  clear M
  refine sN<|aK<|Wk<|bP<|sN<|Wl<|aS E<|Lv (au ((k:Int)+1)) eZ<|av (au ((k:Int)+1))<|Ln<|gJ ⟨k+1,by omega,J,O,Fx.ic,m8,m9,b4⟩ ?_
  show(L.nn-(intOf ((au ((k:Int)+1)))).toNat)<_
  simp only[E,intOf]; omega
 refine Lv aF (gD ac)<|aC<|aK<|Wx<|bV<|fU<|bW<|sN<|Ws<|ay<|av (au 0)<|aC<|Wb<|Wo (fun f v => ∃ k:Nat,k<=L.gn/\f 2=(pt c)/\f 3=(pt d)/\f 6=au ((k:Int))/\aP v c 20 (nH (WT L t u m o)) 53/\aP v d 20 (nH (WT L A B x y)) 53/\Below w.heap.size w v) (fun f _=>(L.gn-(intOf (f 6)).toNat)) ⟨0,by omega,J,O,Fx.ic,K,U,H⟩ ?_
 rintro f2 D ⟨k,hk,P,h5,F,T,m13,I⟩
 refine Ws<|ay<|aS F<|Lv ((pf c 19)) (iN P 19)<|Lv (.slice m (L.gn) (o)) (aL T.aH 19)<|av (au L.gn) ?_
 by_cases ad:(k:Int)<(L.gn:Int)
 ·refine Lv aG (gy ad)<|aC<|aM<|Wk<|sN<|Ws<|Wb<|Ws ?_
  -- region 11 draws
  refine wh<|Qv ((pf c 19)) (fun b a=>iN P 19)<|Qv (.slice m (L.gn) (o)) (fun b a=>aL (T.aH.dr a) 19)<|dS F ?_
  obtain⟨aa,oq3,Ur,m14⟩:=(hG1.up I rfl) (by omega)
  have aty:aa<D.heap.size:=m14.lt (by omega)
  refine Qv ((pf aa (5*k+oq3))) (fun b a=>cu 5 (hx:=(rfl.trans (congrArg (fun q=>Value.slice q (L.gn) (o)) Ur))))<|Qv (.agg (aA 5 (Uv L k))) (fun b a=>fA (m14.dr a) (5*k) (fun R r=>Fx.iT (k:=k) (by omega) r))<|Qv ((pf d 19)) (fun b a=>iN h5 19)<|Qv (.slice x (L.gn) (y)) (fun b a=>aL (m13.aH.dr a) 19)<|dS F ?_
  obtain⟨ab,oq4,VA,m15⟩:=(hG2.up I rfl) (by omega)
  have atA:ab<D.heap.size:=m15.lt (by omega)
  refine Qv ((pf ab (5*k+oq4))) (fun b a=>cu 5 (hx:=(rfl.trans (congrArg (fun q=>Value.slice q (L.gn) (y)) VA))))<|Qv (.agg (aA 5 (Uv L k))) (fun b a=>fA (m15.dr a) (5*k) (fun R r=>Fx.iT (k:=k) (by omega) r))<|Qv aF (fun b a=>Fx.Aq (n:=5) (ks := [(some .i64),(some .u64),(some .u64),(some .i64),(some .u64)]) (X:=Uv L k) (Y:=Uv L k) 12 true rfl rfl rfl (Fx.EJ (fun _ _=>rfl)) (Ym (l.g k (by omega))) (Ym (l.g k (by omega))) rfl (by kernel_rfl) (by kernel_rfl) (by kernel_rfl) (by kernel_rfl) (by kernel_rfl))<|Qn ?_
  rintro _ ⟨G,rfl⟩
  obtain⟨wq2,N⟩ : ∃ b,b=World.drewN D G:=⟨_,rfl⟩
  rw[<- N]
  have s4:Stp D.heap.size D wq2:=by rw[N]; exact Sb (iU D G)
  have⟨m16,m17,b6⟩:=jk s4.old T m13 I
  clear N
  refine sN<|aK<|Wk<|bP<|sN<|Wl<|aS F<|Lv (au ((k:Int)+1)) eZ<|av (au ((k:Int)+1))<|Ln<|gJ ⟨k+1,by omega,P,h5,Fx.ic,m16,m17,b6⟩ ?_
  show(L.gn-(intOf ((au ((k:Int)+1)))).toNat)<_
  simp only[F,intOf]; omega
 refine Lv aF (gD ad)<|aC<|aK<|Wx<|bV<|fU<|bW<|sN<|ay<|av aG<|aC<|Wr<|aI aG ?_
 exact⟨rfl,I⟩
theorem WU{w:World}{b c:CO}{L:gV}(h1:Nu w b L)(a:Nu w c L)(d:LWf L):Calls Tryz.prog 17 #[.agg (aA 20 (nH b)),.agg (aA 20 (nH c))] w fun e w'=>e = .returned (.bool true)/\Below w.heap.size w w':=by
 rw[h1.e,a.e]
 exact abJ L _ _ _ _ _ _ _ _ w d h1.n a.n h1.g a.g
namespace Rt
def Nv(x y:Value):Nat->Value:=fun q=>if q=0 then x else y
theorem aeQ(x y v:Value):dz (Nv x y) 0 v=Nv v y:=by funext q; unfold dz Nv; split <;> rfl
theorem aeR(x y v:Value) : ∀ j,j<2->dz (Nv x y) 1 v j=Nv x v j:=fun j a=>by
 unfold dz Nv
 rcases j with _|_|j
 ·rfl
 ·rfl
 ·omega
def Gc(a:Nat->Nat):Nat->Value:=fun i=>(pt (a i))
def Gd(w:World)(B n:Nat)(b:Nat->Nat)(a:Nat->jK):Prop := ∀ i,i<n->su w B (b i) (a i)
theorem Gd.up{w w':World}{B n:Nat}{b:Nat->Nat}{a:Nat->jK}(h:Gd w B n b a)(c:Below w.heap.size w w'):Gd w' B n b a:=fun i d=>(h i d).up c
instance {w w':World} {B n:Nat} {c:Nat->Nat} {a:Nat->jK}:Rt.Tr w w' (Gd w B n c a) (Gd w' B n c a):=⟨fun b h=>h.up b⟩
theorem Gd.jG{w w':World}{B n:Nat}{c:Nat->Nat}{b:Nat->jK}{a:List TypeId}(h:Gd w B n c b)(e:iG a w w')(f:(Jd.all fun T => !a.contains T)=true):Gd w' B n c b:=fun i d=>(h i d).jG e f
instance {w w':World} {B n:Nat} {d:Nat->Nat} {c:Nat->jK} {a:List TypeId}:Rt.Tc a w w' (Gd w B n d c) (Gd w' B n d c) ((Jd.all fun T => !a.contains T)):=⟨fun b h e=>h.jG b (by simpa using e)⟩
theorem Gd.put{w:World}{B n o p:Nat}{b:Nat->Nat}{a:Nat->jK}{m:jK}(h:Gd w B n b a)(d:su w B p m):Gd w B n (aJ b o p) (aJ a o m):=fun i c=>by
 unfold aJ
 by_cases e:i=o
 ·rw[if_pos e,if_pos e]; exact d
 ·rw[if_neg e,if_neg e]; exact h i c
theorem Gd.snoc{w:World}{B n p:Nat}{b:Nat->Nat}{a:Nat->jK}{m:jK}(h:Gd w B n b a)(c:su w B p m):Gd w B (n+1) (aJ b n p) (aJ a n m):=fun i d=>by
 unfold aJ
 by_cases e:i=n
 ·rw[if_pos e,if_pos e]; exact c
 ·rw[if_neg e,if_neg e]; exact h i (by omega)
theorem abK{n p:Nat}{a:Nat->Nat}{z:Nat->Value} : ∀ j,j<(n+1)*1->gM (Gc a) (n*1) (bG z (0*1) 1 (fun _=>(pt p))) j=Gc (aJ a n p) j:=by
 intro j b
 unfold gM Gc aJ
 by_cases h:j<n*1
 ·rw[if_pos h,if_neg (by omega)]
 rw[if_neg h,if_pos (by omega)]
 unfold bG
 rw[if_pos (by omega)]
theorem TV{o p:Nat}{a:Nat->Nat}:dz (Gc a) o ((pt p))=Gc (aJ a o p):=by
 funext j; unfold dz Gc aJ
 by_cases h:j=o
 ·rw[if_pos h,if_pos h]
 rw[if_neg h,if_neg h]
theorem abL{n:Nat}{e:Nat->EvM}{v:EvM}{z:Nat->Value} : ∀ j,j<(n+1)*14->gM (CZ e) (n*14) (bG z (0*14) 14 (bO v)) j=CZ (aJ e n v) j:=fun j a =>
 (Fx.wJ j a).trans (bH (fun i _ q _=>by unfold Fx.pJ aJ; split <;> rfl) j a)
structure WM where
 n:Nat
 la:Option Addr
 lc:Nat
 pl:Nat->Nat
 ml:Nat->jK
 an:Nat
 aa:Option Addr
 ac:Nat
 ev:Nat->EvM
end Rt
structure nP(w:World)(B p:Nat)(M:WM)(T:Nat):Prop where
 c:aP w p 2 (Nv (.slice M.la M.n M.lc) (.slice M.aa M.an M.ac)) 44
 l:Fx.Own w B 72 1 (.slice M.la M.n M.lc) M.n (Gc M.pl)
 a:Fx.Own w B 32 14 (.slice M.aa M.an M.ac) M.an (CZ M.ev)
 g:Gd w B M.n M.pl M.ml
 inv : ∀ i,i<M.n->Inv (M.ml i).core T
 wf : ∀ k,k<M.an->fC (M.ev k)
 may : ∀ k,k<M.an->dh (M.ev k)=true
 sm : ∀ k,k<M.an->sI (M.ev k)
 cz:Cz M.n M.an M.ev fun o=>(M.ml o).s.known
 pB:B<=p
 n1:1<=M.n
 n6:M.n<=6
def abM:List Nat := [44,72,32]++Jd
theorem nP.up{w w':World}{B p T:Nat}{M:WM}(h:nP w B p M T)(b:Below w.heap.size w w'):nP w' B p M T := { h with c:=h.c.bZ (Sb b) (Nat.ne_of_lt h.c.lt),l:=h.l.up b,a:=h.a.up b,g:=h.g.up b }
instance {w w':World} {B p T:Nat} {M:WM}:Rt.Tr w w' (nP w B p M T) (nP w' B p M T):=⟨fun b h=>h.up b⟩
theorem nP.jG{w w':World}{B p T:Nat}{M:WM}{e:List TypeId}(h:nP w B p M T)(b:iG e w w')(j:(abM.all fun T => !e.contains T)=true):nP w' B p M T:=by
 have i : ∀ d∈abM,e.contains d=false:=fun d f=>by
  have:=List.all_eq_true.1 j d f
  simpa using this
 exact { h with c:=h.c.jG b (i _ (by decide)),l:=h.l.jG b (i _ (by decide)),a:=h.a.jG b (i _ (by decide)),g:=h.g.jG b (List.all_eq_true.2 fun T f=>List.all_eq_true.1 j T (List.mem_append_right _ f)) }
instance {w w':World} {B p T:Nat} {M:WM} {a:List TypeId}:Rt.Tc a w w' (nP w B p M T) (nP w' B p M T) ((abM.all fun T => !a.contains T)):=⟨fun b h e=>h.jG b (by simpa using e)⟩
theorem Nw{w:World}{B p k a:Nat}(d:aP w p 27 (kJ (jR k a)) 71)(f:aP w a 1 (fun _ => .slice none 0 0) 123)(h1:B<=p)(b:B<=a):su w B p (jR k a) where
 c:=d
 n:=wB _ _ _ _ _
 g:=wB _ _ _ _ _
 tc:=f
 t:=wB _ _ _ _ _
 r:=⟨fun _ _=>wB _ _ _ _ _,fun _ _ _ _ _ _ e=>by cases e⟩
 pB:=h1
 tB:=b
 bn:=Nat.zero_le _
 bg:=Nat.zero_le _
 bt:=Nat.zero_le _
 br:=fun _ _=>Nat.zero_le _
theorem Rt.Aj(k a:Nat):Inv (jR k a).core 0 where
 Bj:=rfl
 nn:=Nat.zero_le _
 tid:=fun _ h=>absurd h (Nat.not_lt_zero _)
 rise:=fun _ _ _ h=>absurd h (Nat.not_lt_zero _)
 pos:=fun _ h=>absurd h (Nat.not_lt_zero _)
 top:=fun _ h=>absurd h (Nat.not_lt_zero _)
 up:=fun _ h=>absurd h (Nat.not_lt_zero _)
 dep:=fun _=>⟨0,Nat.zero_le _,by show(-1:Int)<0; decide⟩
 gn:=Nat.le_refl _
 rn:=fun _ _=>Nat.le_refl _
 may:=fun _ h=>absurd h (Nat.not_lt_zero _)
 g47:=fun _ h=>absurd h (Nat.not_lt_zero _)
 kn:=fun _ _=>⟨Int.le_refl _,by show(0:Int)<_; decide⟩
 s:=⟨fun _ h=>absurd h (Nat.not_lt_zero _),fun _ h=>absurd h (Nat.not_lt_zero _)⟩
 b:=⟨fun _ _=>Int.le_refl _,fun _ h=>absurd h (Nat.not_lt_zero _),fun _ _ _ h=>absurd h (Nat.not_lt_zero _)⟩
set_option maxRecDepth 20000 in
theorem LU(n:Nat)(w:World)(V:1<=n)(W:n<=6) :
 Calls Tryz.prog 12 #[au ((n:Int))] w fun e w' => ∃ p M,e = .returned ((pt p))/\M.n=n/\M.an=0/\(∀ i,(M.ml i).core=(jR n 0).core)/\nP w' w.heap.size p M 0/\Below w.heap.size w w':=by
 refine Kent Tryz.func12 30 ?_
 refine ay<|av (.pointer none)<|aC<|ay<|av (.agg (aA 2 (fun _ => .slice none 0 0)))<|pK fun b P kV X s1 z1 => ?_
 have b1:=aY s1.old (Below.refl w.heap.size w)
 have tL:=gH kV
 have vR:=X.lt
 refine av ((pt b))<|aC<|Ws<|ay<|av (au 0)<|aC<|Wb ?_
 have m2:aP P b 2 (Nv (.slice none 0 0) (.slice none 0 0)) 44:=X.congr (fun j _=>by unfold Nv; split <;> rfl)
 have m3:Fx.Own P w.heap.size 72 1 (.slice none 0 0) 0 (Gc (fun _=>0)):=wB _ _ _ _ _
 have m4:Gd P w.heap.size 0 (fun _=>0) (fun _=>jR n 0):=fun _ h=>absurd h (Nat.not_lt_zero _)
 refine Wo (fun f G => ∃ k:Nat,∃ a:Option Addr,∃ u:Nat,∃ t:Nat->Nat,∃ r:Nat->jK,k<=n/\(∀ i,∃ z,r i=jR n z)/\f 0=au ((n:Int))/\f 3=(pt b)/\f 4=au ((k:Int))/\aP G b 2 (Nv (.slice a k u) (.slice none 0 0)) 44/\Fx.Own G w.heap.size 72 1 (.slice a (k) (u)) k (Gc t)/\Gd G w.heap.size k t r/\Below w.heap.size w G) (fun f _=>(n-(intOf (f 4)).toNat)) ⟨0,none,0,(fun _=>0),(fun _=>jR n 0),by omega,(fun _=>⟨0,rfl⟩),Fx.ic,(by rfl),Fx.ic,m2,m3,m4,b1⟩ ?_
 rintro f1 w2 ⟨k,a,u,t,r,hk,F,J,E,K,m5,m6,m7,A⟩
 refine Ws<|ay<|aS K<|aS J ?_
 by_cases S:(k:Int)<(n:Int)
 ·refine Lv aG (gy S)<|aC<|aM<|Wk<|sN<|Ws<|Wb<|ay<|aS J<|jM (X0 n _ V W) ?_
  rintro e9 w3 ⟨d,O,T,hp3,_,hb3,hc3,ht3,amG⟩
  refine⟨.tuple #[(pt d),au 0],T,?_⟩
  clear T
  have⟨N,m9,m10,Q⟩:=mF hb3 m5 m6 m7 A
  have hL1:su w3 w.heap.size d (jR n O):=Nw hc3 ht3 (Nat.le_trans A.size hp3) (Nat.le_trans A.size amG)
  refine av (.tuple #[(pt d),au 0])<|av ((pt d))<|av (au 0)<|av ((pt d))<|av (au 0)<|aC<|Wl<|aS E<|aS E<|av ((pt b))<|av ((pt b))<|Lv (.slice a (k) (u)) (aL N.aH 0)<|av ((pt d))<|yj (vs := [(0,(pt d))]) (s:=1) (zc:=fun _ => .pointer none) (y:=bG (fun j => .pointer none) (0*1) 1 (fun _=>(pt d))) (by rfl) rfl rfl Tryz.underlying41 (by kernel_rfl) (by rfl) (by rfl) (by kernel_rfl) (by rw[bD (off:=0*1) (s:=1) (y:=fun _=>(pt d)) rfl (cells_one (by rfl)) (by rfl)]; rfl) rfl fun g2 w4 I Y s3 z2 => ?_
  have⟨m12,L,m14,m15,H⟩:=qm s3.old N m9 m10 hL1 Q
  have qO:=jc I Q.size
  have Es:=bY I N.lt
  have zk:(.slice a (k) (u):Value).ownBlock≠some g2:=by rw[I]; exact m9.jC (Nat.le_refl _)
  have zJ:=Y.lt
  refine yI (B:=w.heap.size) (s:=1) (bytes:=8) (k:=k) (m:=1) (v := .slice a (k) (u)) (x:=Gc t) (by rfl) rfl rfl rfl Tryz.underlying41 (by kernel_rfl) (by kernel_rfl) rfl rfl L Y.aH (xM (fun _=>rfl)) (by omega) (by omega) (by omega) H.size fun D C w5 ho1 U tJ hlt1 => ?_
  have gI:=yL U L
  have⟨Z,m18,m19⟩:=EK gI m12 m14 m15
  have m16:Fx.Own w5 w.heap.size 72 1 (bI D (k+1) C) (k+1) (Gc (aJ t k d)):=(ho1.congr (fun j hj=>abK j hj))
  have R:Below w.heap.size w w5:=xR H U H.size (fun q hq=>(L.ge hq).1)
  refine av ((pt b))<|av ((pt b))<|iQ Z 0 (bI D (k+1) C) fun w6 m20 s4 z3 => ?_
  have m21:aP w6 b 2 (Nv (bI D (k+1) C) (.slice none 0 0)) 44:=m20.to (aeQ _ _ _)
  have jN:=gY s4 Z.ty
  have⟨m22,m23,m24⟩:=EK jN m18 m19 m16
  have b6:=s4.below R R.size (by omega)
  refine Ln<|bP<|sN<|Wl<|aS K<|Lv (au ((k:Int)+1)) eZ<|av (au ((k:Int)+1))<|Ln ?_
  have lW:Gd w6 w.heap.size (k+1) (aJ t k d) (aJ r k (jR n O)):=m22.snoc m23
  skip
  refine gJ ⟨k+1,(some ⟨D,0,none⟩),C,(aJ t k d),(aJ r k (jR n O)),by omega,(fun i=>by unfold aJ; split <;> first|exact⟨_,rfl⟩|exact F i),(J.trans Fx.ic),E,Fx.ic,m21,m24,lW,b6⟩ ?_
  show(n-(intOf ((au ((k:Int)+1)))).toNat)<_
  simp only[K,intOf]; omega
 refine Lv aF (gD S)<|aC<|aK<|Wx<|bV<|fU<|bW<|sN<|ay<|aS E<|av ((pt b))<|aC<|Wr<|aI ((pt b)) ?_
 obtain rfl:k=n:=by omega
 exact⟨b,⟨k,a,u,t,r,0,none,0,fun _=>⟨0,0,fun _=>0,0,0,0,0,0,0⟩⟩,rfl,rfl,rfl,(fun i=>by obtain⟨z,e⟩:=F i; show(r i).core=_; rw[e]; rfl),{ c:=m5,l:=m6,a:=wB _ _ _ _ _,g:=m7,inv:=fun i _=>by obtain⟨z,e⟩:=F i; show Inv (r i).core 0; rw[e]; exact Aj k z,wf:=fun _ h=>absurd h (Nat.not_lt_zero _),may:=fun _ h=>absurd h (Nat.not_lt_zero _),sm:=fun _ h=>absurd h (Nat.not_lt_zero _),cz:=Cz.zero k (fun o _=>by obtain⟨z,e⟩:=F o; show(r o).s.known=_; rw[e]; rfl),pB:=tL,n1:=V,n6:=W },A⟩
end Go.Proofs.YtahbiajdgealnaaGreatDoor
namespace Go.Proofs.YtahbiajdgealnaaGreatDoor
open Go.RowKit Go Rt
set_option linter.unusedVariables false
set_option maxRecDepth 20000
namespace Rt
section
variable {L:gV} {N:Nat} {v:EvM}
theorem LV(b:Inv0 L N)(h:zh L):zh (aW L v):=by
 unfold aW
 by_cases c:bL L v=0
 ·rw[if_pos c]
  have a:=(rdy (oq c)).1
  have d:dM L v=0:=by
   unfold bL at c
   rw[if_neg (by rw[a]; decide)]at c
   split at c; · cases c
   split at c; · cases c
   split at c; · cases c
   exact c
  have:=FQ b h a d
  exact⟨this.us,this.gb⟩
 rw[if_neg c]; exact h
def vN(L:gV)(x i:Int):Int:=if L.node x<0 then 0 else dV (L.R (L.node x).toNat) i
theorem LW(i:Int):dV Nk i=0:=by
 unfold dV
 by_cases c:(fV i&&may Nk)=true
 ·rw[if_pos c]
  rw[Bool.and_eq_true]at c
  obtain⟨a,d,e,b⟩:=nV c.1
  have:=xJ (ko c.2) a d
  rw[b,this]; rfl
 rw[if_neg c]
theorem fK.local{m:dY}(h:fK m L)(a:Inv0 L N)(x i:Int):dV (nW m x) i=vN L x i:=by
 unfold nW vN
 by_cases c:L.node x<0
 ·rw[if_neg (by rw[(h.JW a x).2 c]; decide),if_pos c]; exact LW i
 rw[if_pos ((h.node a x).2 (by omega)),if_neg c,h.rk a (by omega)]
structure Gf(m m':dY):Prop where
 et:m'.tp=m.tp
 em:m'.mb=m.mb
 ep:m'.pb=m.pb
 er:m'.rb=m.rb
 eg:m'.gb=m.gb
 ea:m'.ab=m.ab
theorem Gf.refl(m:dY):Gf m m:=⟨rfl,rfl,rfl,rfl,rfl,rfl⟩
theorem Gf.trans{a b c:dY}(h:Gf a b)(k:Gf b c):Gf a c:=⟨k.et.trans h.et,k.em.trans h.em,k.ep.trans h.ep,k.er.trans h.er,k.eg.trans h.eg,k.ea.trans h.ea⟩
end
end Rt
structure Am(w:World)(B lp:Nat)(m:dY)(L:gV)(N:Nat):Prop where
 q:jV w B lp m
 s:fK m L
 i:Inv0 L N
 u:zh L
 g:Cu L
section
variable {w w':World} {B lp:Nat} {m:dY} {L:gV} {N:Nat} {v:EvM}
theorem Am.up(h:Am w B lp m L N)(a:Below w.heap.size w w'):Am w' B lp m L N := { h with q:=h.q.up a }
instance:Rt.Tr w w' (Am w B lp m L N) (Am w' B lp m L N):=⟨fun b h=>h.up b⟩
theorem Am.jG{a:List TypeId}(h:Am w B lp m L N)(b:Fx.iG a w w')(c:(a.contains 106 || a.contains 135)=false):Am w' B lp m L N := { h with q:=h.q.jG b c }
instance {a:List TypeId}:Rt.Tc a w w' (Am w B lp m L N) (Am w' B lp m L N) (!(a.contains 106 || a.contains 135)):=⟨fun b h e=>h.jG b (by simpa using e)⟩
theorem Am.weak{a:Nat}(h:Am w B lp m L N)(b:a<=B):Am w a lp m L N := { h with q:=h.q.weak b }
theorem Am.mono{a:Nat}(h:Am w B lp m L N)(b:N<=a):Am w B lp m L a := { h with i:=h.i.mono b }
theorem Am.wf(h:Am w B lp m L N)(a:N<=900000):LWf L:=LWf.of h.i h.u h.g a
theorem jV.BD(h:jV w B lp m)(a:Fx.jB (Sw m lp w.heap.size) w w')(c:B<=w.heap.size):Below B w w':=⟨a.os,a.tape,a.output,a.size,fun k d=>a.block k (by omega) fun b=>by
 rcases b with b|b
 ·have:=(h.ltS b).1; omega
 ·omega⟩
theorem jV.typed(h:jV w B lp m)(d:Fx.jB (Sw m lp w.heap.size) w w'):Fx.EF [106] w w':=⟨d.os,d.tape,d.output,d.size,fun k T b e=>d.block k b.ltw fun f=>by
 rcases f with (rfl|rfl|rfl|rfl|rfl|rfl)|f
 ·have:=Fx.Ty.only h.c.ty b
  rw[this]at e; simp at e
 ·exact h.t.map.qw b
 ·exact h.p.qw b
 ·exact h.r.qw b
 ·exact h.g.qw b
 ·exact h.a.qw b
 ·have:=b.ltw; omega⟩
theorem WV{B:Nat}{a b c:World}(h:Below a.heap.size a b)(e:Below B b c)(d:a.heap.size<=B):Below a.heap.size a c:=h.trans (e.mono d)
theorem xQ{P:Program}{g:Nat}{a b:Array Value}{w:World}{R:Ending->World->Prop}(h:Calls P g b w R)(e:a=b):Calls P g a w R:=e ▸ h
theorem Ny{x:Value}{y:Nat->Value}(hy : ∀ j,j<14->y j=bO v j):(#[x,.agg (Fx.aA 14 y)]:Array Value) = #[x,.agg (Fx.aA 14 (bO v))]:=congrArg (fun z=>(#[x,.agg z]:Array Value)) (Fx.eH hy)
theorem Yn(k:Nat)(d:1<=k/\k<=6)(w:World):Calls Tryz.prog 14 #[au ((k:Int))] w fun e w' => ∃ lp m,e = .returned (.tuple #[(pt lp),au 0])/\Am w' w.heap.size lp m (jR k 0).core 0/\Below w.heap.size w w' :=
 (Yh k d w).mono fun e w' ⟨lp,m,c,⟨n,i,j,l,h,g,a⟩,f,b⟩=>⟨lp,m,c,⟨f,by rw[a]; exact fK.new ..,(Aj k 0).toInv0,(Aj k 0).s,TS k 0⟩,b⟩
theorem Dc(h:Am w B lp m L N)(b:fC v)(c:1<=B)(d:Fx.iF w 0 0 8 EX){y:Nat->Value}(hy : ∀ j,j<14->y j=bO v j) :
 Calls Tryz.prog 15 #[(pt lp),.agg (Fx.aA 14 y)] w fun e w'=>e = .returned (au (bL L v))/\Am w' B lp (kP m v) (aW L v) (N+1)/\Fx.jB (Sw m lp w.heap.size) w w':=by
 have a:=h.s.apply h.q.t.inv h.i v
 refine xQ ((Wu m lp B w h.q v b (h.s.sound h.q.t.inv h.i) c d).mono fun e w' ⟨k,l,f⟩=>⟨by rw[k,a.1],⟨l,a.2,zf h.i,LV h.i h.u,LQ h.g b⟩,f⟩) (Ny hy)
theorem Nz(h:Am w B lp m L N)(g:fC v)(a:1<=B)(b:Fx.iF w 0 0 8 EX){y:Nat->Value}(hy : ∀ j,j<14->y j=bO v j) :
 Calls Tryz.prog 22 #[(pt lp),.agg (Fx.aA 14 y)] w fun e w'=>e = .returned (au (bL L v))/\Below w.heap.size w w':=by
 have f:=h.s.apply h.q.t.inv h.i v
 refine xQ ((amg m lp B w h.q v g (h.s.sound h.q.t.inv h.i) a b).mono fun e w' ⟨d,c⟩=>⟨by rw[d,f.1],c⟩) (Ny hy)
theorem WW(h:Am w B lp m L N):Calls Tryz.prog 23 #[(pt lp)] w fun e w'=>e = .returned (.agg (Fx.aA 6 (Fx.rv .u64 L.known)))/\Below w.heap.size w w':=by
 rw[<- h.s.known]; exact Wv m lp B w h.q
theorem Hw(h:Am w B lp m L N)(i x:Int)(hi : -9223372036854775808<=i/\i<=9223372036854775807):Calls Tryz.prog 19 #[(pt lp),au i,aD x] w fun e w'=>e = .returned (au (vN L x i))/\Below w.heap.size w w':=by
 rw[<- h.s.local h.i]; exact Ww m lp B w h.q i x hi
def lsP(L:gV)(x:Int):Nat->Value:=Fx.rv .u64 fun q=>bf L.t L.tn q x
theorem abN(h:Am w B lp m L N)(x:Int):Calls Tryz.prog 20 #[(pt lp),aD x] w fun e w' => ∃ a c,e = .returned (.slice a (dn L.t L.tn x) c)/\Fx.Own w' w.heap.size 28 1 (.slice a (dn L.t L.tn x) c) (dn L.t L.tn x) (lsP L x)/\Below w.heap.size w w':=by
 obtain⟨d,l⟩:=h.s.T.path h.q.t.inv h.i x
 refine(abv m lp B w h.q x).mono fun e w' ⟨a,c,g,b,f⟩=>⟨a,c,by rw[g,d],?_,f⟩
 unfold Un at b
 rw[d]at b
 exact b.congr fun j k=>by
  rw[Nat.mul_one]at k
  show Value.int .u64 ((m.T.path x).getD j 0)=aD (bf L.t L.tn j x)
  rw[l j (by omega)]
structure Kk(w:World)(B:Nat)(s:CO)(L:gV):Prop where
 e:s=WT L s.na s.nc s.ga s.gc
 n:Fx.Own w B 61 56 (.slice s.na L.nn s.nc) L.nn (Fx.flat 56 (Uu L))
 g:Fx.Own w B 66 5 (.slice s.ga L.gn s.gc) L.gn (Fx.flat 5 (Uv L))
theorem Kk.r{s:CO}(h:Kk w B s L):Nu w s L:=⟨h.e,h.n.arr,h.g.arr⟩
theorem Kk.up{s:CO}(h:Kk w B s L)(a:Below w.heap.size w w'):Kk w' B s L:=⟨h.e,h.n.up a,h.g.up a⟩
instance {s:CO}:Rt.Tr w w' (Kk w B s L) (Kk w' B s L):=⟨fun b h=>h.up b⟩
theorem Kk.jG{s:CO}{a:List TypeId}(h:Kk w B s L)(c:Fx.iG a w w')(b:(a.contains 61 || a.contains 66)=false):Kk w' B s L:=by
 rw[Bool.or_eq_false_iff]at b
 exact⟨h.e,h.n.jG c b.1,h.g.jG c b.2⟩
instance {s:CO} {a:List TypeId}:Rt.Tc a w w' (Kk w B s L) (Kk w' B s L) (!(a.contains 61 || a.contains 66)):=⟨fun b h e=>h.jG b (by simpa using e)⟩
theorem Kk.Ke{s:CO}{a:List TypeId}(h:Kk w B s L)(c:Fx.EF a w w')(b:(a.contains 61 || a.contains 66)=false):Kk w' B s L:=by
 rw[Bool.or_eq_false_iff]at b
 exact⟨h.e,h.n.Ke c b.1,h.g.Ke c b.2⟩
theorem NA(h:Am w B lp m L N)(z:N<=900000):Calls Tryz.prog 18 #[(pt lp)] w fun e w' => ∃ s,e = .returned (.agg (Fx.aA 20 (nH s)))/\Kk w' w.heap.size s L/\Below w.heap.size w w':=by
 refine(WQ m lp B w h.q (by rw[h.s.gn]; have:=h.i.gn; omega)).mono fun e w' ⟨s,l,y,x,a,v⟩=>⟨s,x,?_,v⟩
 have b:=StC.of h.s h.i h.g a.ls a.gs
 have o:s.nn=L.nn:=by rw[a.nn,b.nn]
 have p:s.gn=L.gn:=by rw[a.gn,b.gn]
 have f:=a.n
 have d:=a.g
 rw[o]at f
 rw[p]at d
 refine⟨(Nu.of a h.s h.i h.g).e,f.congr (Fx.bH fun k c j _ => ?_),d.congr (Fx.bH fun k c j _ => ?_)⟩
 ·obtain⟨r,t,u⟩:=b.n k c
  unfold TK Uu
  rw[t,u,r]
 unfold Ut Uv
 rw[b.g k c]
end
end Go.Proofs.YtahbiajdgealnaaGreatDoor
namespace Go.Proofs.YtahbiajdgealnaaGreatDoor
open Go.RowKit Rt
open Fx (fD eT fI bC gL gK dw dR fZ iL dZ jg fP jh iV Lv sN Ln Ws Qv Wl Rp Wc Qs Wr Sb Lk Wk rC rV sR Rs Rn Rd Rk Wb Wx Wo Dw Wt qQ JL Qn EI Ao yj yI Ca Dl pG gY yL lZ sO uq vP wB xR Cy Ak rv aA aP bG aQ ev bX Stp dG aU flat dz Mp eX aT gN iF bD down iH jB jU iA ku bH bJ cells_one iG bT wD unseen jr gM bU dH bK bP bV bW fU gJ oQ gG)
set_option maxRecDepth 20000
set_option linter.unusedVariables false
namespace Rt
def NC:Int:=1099511627777
def TW(n:Int)(i:Nat):Int:=if i=0 then n else 0
def vA:EvM:=⟨1,1,fun _=>0,1,0,0,10,0,0⟩
def vB:EvM:=⟨2,1,TW 1,3,NC,0,4,1,0⟩
def vC:EvM:=⟨1,2,TW 1,5,NC,2,4,0,0⟩
def vD:EvM:=⟨2,1,TW 2,3,NC,0,4,1,0⟩
theorem LX{n:Int}(h:iD n)(i:Nat):iD (TW n i):=by
 unfold TW
 split
 ·exact h
 exact⟨by decide,by decide⟩
theorem aeS:fC vA:=⟨⟨by decide,by decide⟩,⟨by decide,by decide⟩,fun _ _=>⟨Int.le_refl 0,(by decide:(0:Int)<=18446744073709551615)⟩,⟨by decide,by decide⟩,⟨by decide,by decide⟩,⟨by decide,by decide⟩,⟨by decide,by decide⟩,⟨by decide,by decide⟩,⟨by decide,by decide⟩⟩
theorem aeT:fC vB:=⟨⟨by decide,by decide⟩,⟨by decide,by decide⟩,fun i _=>LX ⟨by decide,by decide⟩ i,⟨by decide,by decide⟩,⟨by decide,by decide⟩,⟨by decide,by decide⟩,⟨by decide,by decide⟩,⟨by decide,by decide⟩,⟨by decide,by decide⟩⟩
theorem aeU:fC vC:=⟨⟨by decide,by decide⟩,⟨by decide,by decide⟩,fun i _=>LX ⟨by decide,by decide⟩ i,⟨by decide,by decide⟩,⟨by decide,by decide⟩,⟨by decide,by decide⟩,⟨by decide,by decide⟩,⟨by decide,by decide⟩,⟨by decide,by decide⟩⟩
theorem aeV:fC vD:=⟨⟨by decide,by decide⟩,⟨by decide,by decide⟩,fun i _=>LX ⟨by decide,by decide⟩ i,⟨by decide,by decide⟩,⟨by decide,by decide⟩,⟨by decide,by decide⟩,⟨by decide,by decide⟩,⟨by decide,by decide⟩,⟨by decide,by decide⟩⟩
theorem TY{m:dY}(b:m.T.ok)(v:EvM):(kP m v).T.ok:=by
 unfold kP
 by_cases c:cZ m v=0
 ·rw[if_pos c]
  have f:=xq c
  have a:=(BS c).2.1
  have g:=qG f
  show(iZ m v).T.ok
  unfold gT at a
  unfold iZ
  by_cases d:v.kind=1
  ·rw[if_pos d]at a ⊢
   have e:m.T.err (qP v) v.node=0:=by
    unfold mP at a
    split at a
    ·cases a
    ·exact a
   exact AO.put b e (by unfold qP; omega)
  rw[if_neg d]
  repeat' split
  all_goals exact b
 rw[if_neg c]; exact b
structure O5(m:dY)(L:gV)(N:Nat):Prop where
 s:fK m L
 t:m.T.ok
 i:Inv0 L N
theorem O5.new(k:Nat):O5 (Ai k 0 0 0 0 0 0) (jR k 0).core 0:=⟨fK.new ..,AO.zero _ _,(Aj k 0).toInv0⟩
theorem O5.apply{m:dY}{L:gV}{N:Nat}(h:O5 m L N)(v:EvM):O5 (kP m v) (aW L v) (N+1):=⟨(h.s.apply h.t h.i v).2,TY h.t v,zf h.i⟩
theorem O5.err{m:dY}{L:gV}{N:Nat}(h:O5 m L N)(v:EvM){c:Int}(e:cZ m v=c):bL L v=c:=(h.s.apply h.t h.i v).1.symm.trans e
theorem O5.loc{m:dY}{L:gV}{N:Nat}(h:O5 m L N)(x i:Int){c:Int}(e:dV (nW m x) i=c):vN L x i=c:=(h.s.local h.i x i).symm.trans e
noncomputable def wq0:dY:=Ai 2 0 0 0 0 0 0
noncomputable def BI:dY:=kP wq0 vA
noncomputable def wq2:dY:=kP BI vC
noncomputable def Oy:dY:=kP wq2 vD
theorem tw0:O5 wq0 (jR 2 0).core 0 := .new 2
theorem tw1:O5 BI (aW (jR 2 0).core vA) 1:=tw0.apply vA
theorem tw2:O5 wq2 (aW (aW (jR 2 0).core vA) vC) 2:=tw1.apply vC
theorem tw3:O5 Oy (aW (aW (aW (jR 2 0).core vA) vC) vD) 3:=tw2.apply vD
theorem WX:bL (jR 2 0).core vA=0:=tw0.err vA (by kernel_rfl)
theorem WY:bL (aW (jR 2 0).core vA) vB=11:=tw1.err vB (by kernel_rfl)
theorem WZ:bL (aW (jR 2 0).core vA) vC=0:=tw1.err vC (by kernel_rfl)
theorem W9:bL (aW (aW (jR 2 0).core vA) vC) vD=0:=tw2.err vD (by kernel_rfl)
theorem ND:nW Oy NC=(bE (wq2.R 0) 2 4).1:=by
 unfold nW
 rw[if_pos (show Oy.T.has NC=true by kernel_rfl)]
 unfold BQ
 rw[show Oy.idx NC=0 by kernel_rfl,show Oy.R 0=(qH wq2 (fun x=>bE x 2 4) (wq2.T.path NC)).R 0 by kernel_rfl]
 show(if wq2.T.x 0∈wq2.T.path NC then(bE (wq2.R 0) 2 4).1 else wq2.R 0)=_
 rw[if_pos]
 rw[show wq2.T.path NC = [NC] by kernel_rfl]
 exact List.mem_singleton.2 (by kernel_rfl)
theorem Xa:vN (aW (aW (aW (jR 2 0).core vA) vC) vD) NC 1=6:=tw3.loc _ _ (by rw[ND]; kernel_rfl)
theorem Xb:vN (aW (aW (aW (jR 2 0).core vA) vC) vD) NC 2=0:=tw3.loc _ _ (by rw[ND]; kernel_rfl)
theorem Xc:(aW (aW (aW (jR 2 0).core vA) vC) vD).gn=1:=tw3.s.gn.symm.trans (by kernel_rfl)
end Rt
theorem iJ(w:World)(c:iF w 0 0 8 EX) :
 Calls Tryz.prog 11 #[] w fun e w'=>e = .returned (.bool true)/\Below w.heap.size w w':=by
 have g:=c.lt (by omega)
 have f:1<=w.heap.size:=by omega
 refine Kent Tryz.func11 69 ?_
 refine ay<|av aF<|aC<|ay<|jM (Yn 2 (by omega) _) ?_
 rintro H Y ⟨lp,X,d,R,I⟩
 refine⟨_,d,?_⟩
 clear d
 have n:=R.weak (Below.refl w.heap.size w).size
 have h:=aY I (Below.refl w.heap.size w)
 refine av (.tuple #[(pt lp),au 0])<|av ((pt lp))<|av (au 0)<|av ((pt lp))<|av (au 0)<|aC<|Ws<|ay<|av (au 0)<|Lv aF (jJ rfl)<|av aF<|av ((pt lp))<|Lv aF (Fx.nQ rfl rfl rfl (by kernel_rfl))<|av aF<|aC<|aK<|Wk<|sN<|ay<|av (aD 1099511627777)<|aC<|ay<|av ((pt lp))<|av (.agg (aA 14 (bG (bG (bG (bG (fun a=>if a<1 then au 0 else if a<8 then aD 0 else if a<9 then .int .u8 (0)else if a<10 then aD 0 else if a<12 then au 0 else aD 0) 0 1 (fun _=>au 1)) 1 1 (fun _=>aD 1)) 8 1 (fun _ => .int .u8 (1))) 11 1 (fun _=>au 10))))<|dA (Dc (v:=vA) n aeS f (c.below h g) (fun j l=>by rcases j with _|_|_|_|_|_|_|_|_|_|_|_|_|_|j <;> first|rfl|omega)) (au 0) (by rw[WX]) ?_
 rintro Z ⟨A,t⟩
 have U:=n.q.typed t
 have N:=n.q.BD t h.size
 have r:=WV h N (Nat.le_refl _)
 refine av (au 0)<|aC<|ay<|av ((pt lp))<|Lv (.agg (aA 6 (bG (rv .u64 (fun _=>0)) 0 1 (fun _=>aD 1)))) (Fx.uK (vs := [(0,aD 1)]) (s:=1) (m:=6) (x:=rv .u64 (fun _=>0)) rfl rfl Tryz.underlying30 (by kernel_rfl) (by kernel_rfl) (by rw[bD (off:=0) (s:=1) (y:=fun _=>aD 1) (by kernel_rfl) (cells_one (by rfl)) (by rfl)]; rfl))<|av (aD 1099511627777)<|av (.agg (aA 14 (bG (bG (bG (bG (bG (bG (bG (fun a=>if a<1 then au 0 else if a<8 then aD 0 else if a<9 then .int .u8 (0)else if a<10 then aD 0 else if a<12 then au 0 else aD 0) 0 1 (fun _=>au 2)) 1 1 (fun _=>aD 1)) 2 6 (bG (rv .u64 (fun _=>0)) 0 1 (fun _=>aD 1))) 8 1 (fun _ => .int .u8 (3))) 9 1 (fun _=>aD 1099511627777)) 11 1 (fun _=>au 4)) 12 1 (fun _=>aD 1))))<|dA (Nz (v:=vB) A aeT f (c.below r g) (fun j l=>by rcases j with _|_|_|_|_|_|_|_|_|_|_|_|_|_|j <;> first|rfl|omega)) (au 11) (by rw[WY]) ?_
 intro w3 J
 have⟨p,i⟩:=eG J A r
 refine av (au 11)<|aC<|ay<|av ((pt lp))<|Lv (.agg (aA 6 (bG (rv .u64 (fun _=>0)) 0 1 (fun _=>aD 1)))) (Fx.uK (vs := [(0,aD 1)]) (s:=1) (m:=6) (x:=rv .u64 (fun _=>0)) rfl rfl Tryz.underlying30 (by kernel_rfl) (by kernel_rfl) (by rw[bD (off:=0) (s:=1) (y:=fun _=>aD 1) (by kernel_rfl) (cells_one (by rfl)) (by rfl)]; rfl))<|av (aD 1099511627777)<|av (.agg (aA 14 (bG (bG (bG (bG (bG (bG (bG (fun a=>if a<1 then au 0 else if a<8 then aD 0 else if a<9 then .int .u8 (0)else if a<10 then aD 0 else if a<12 then au 0 else aD 0) 0 1 (fun _=>au 1)) 1 1 (fun _=>aD 2)) 2 6 (bG (rv .u64 (fun _=>0)) 0 1 (fun _=>aD 1))) 8 1 (fun _ => .int .u8 (5))) 9 1 (fun _=>aD 1099511627777)) 10 1 (fun _=>au 2)) 11 1 (fun _=>au 4))))<|dA (Dc (v:=vC) p aeU f (c.below i g) (fun j l=>by rcases j with _|_|_|_|_|_|_|_|_|_|_|_|_|_|j <;> first|rfl|omega)) (au 0) (by rw[WZ]) ?_
 rintro w4 ⟨o,u⟩
 have V:=p.q.typed u
 have O:=p.q.BD u i.size
 have k:=WV i O (Nat.le_refl _)
 refine av (au 0)<|aC<|ay<|av ((pt lp))<|Lv (.agg (aA 6 (bG (rv .u64 (fun _=>0)) 0 1 (fun _=>aD 2)))) (Fx.uK (vs := [(0,aD 2)]) (s:=1) (m:=6) (x:=rv .u64 (fun _=>0)) rfl rfl Tryz.underlying30 (by kernel_rfl) (by kernel_rfl) (by rw[bD (off:=0) (s:=1) (y:=fun _=>aD 2) (by kernel_rfl) (cells_one (by rfl)) (by rfl)]; rfl))<|av (aD 1099511627777)<|av (.agg (aA 14 (bG (bG (bG (bG (bG (bG (bG (fun a=>if a<1 then au 0 else if a<8 then aD 0 else if a<9 then .int .u8 (0)else if a<10 then aD 0 else if a<12 then au 0 else aD 0) 0 1 (fun _=>au 2)) 1 1 (fun _=>aD 1)) 2 6 (bG (rv .u64 (fun _=>0)) 0 1 (fun _=>aD 2))) 8 1 (fun _ => .int .u8 (3))) 9 1 (fun _=>aD 1099511627777)) 11 1 (fun _=>au 4)) 12 1 (fun _=>aD 1))))<|dA (Dc (v:=vD) o aeV f (c.below k g) (fun j l=>by rcases j with _|_|_|_|_|_|_|_|_|_|_|_|_|_|j <;> first|rfl|omega)) (au 0) (by rw[W9]) ?_
 rintro w5 ⟨B,z⟩
 have W:=o.q.typed z
 have P:=o.q.BD z k.size
 have D:=WV k P (Nat.le_refl _)
 refine av (au 0)<|aC<|ay<|av (au 0)<|Lv aG (eP rfl)<|av aG<|av (au 11)<|Lv aG (eP rfl)<|av aG<|av aG<|av (au 0)<|Lv aG (eP rfl)<|av aG<|av aG<|av (au 0)<|Lv aG (eP rfl)<|av aG<|av aG<|av ((pt lp))<|av (aD 1099511627777)<|dA (Hw B 1 NC (by omega)) (au 6) (by rw[Xa]) ?_
 intro w6 K
 have⟨C,E⟩:=eG K B D
 refine Lv aG (eP rfl)<|av aG<|av aG<|av ((pt lp))<|av (aD 1099511627777)<|dA (Hw C 2 NC (by omega)) (au 0) (by rw[Xb]) ?_
 intro w7 L
 have⟨T,F⟩:=eG L C E
 refine Lv aG (eP rfl)<|av aG<|av aG<|av ((pt lp))<|jM (NA T (by omega)) ?_
 rintro H w8 ⟨b,d,S,M⟩
 refine⟨_,d,?_⟩
 clear d
 have G:=aY M F
 have Q:b.gn=1:=(congrArg CO.gn S.e).trans Xc
 refine Lv (.slice b.ga (b.gn) (b.gc)) (Fx.NI (y:=nH b) rfl rfl Tryz.underlying53 rfl (by kernel_rfl) (by kernel_rfl) rfl)<|av (au b.gn)<|Lv aG (iV rfl rfl rfl (by rw[Q]; rfl))<|av aG<|av aG<|aC<|Wr<|aI aG ?_
 exact⟨rfl,G⟩
namespace Rt
structure Hy where
 who:Nat
 meet:Bool
 other:Nat
 kind:Nat
 node:Nat
 dst:Nat
 aX:Nat
 req:Nat
 of:Nat
structure Gg(x:Hy):Prop where
 who:x.who<=255
 other:x.other<=255
 kind:x.kind<=255
 node:x.node<=255
 dst:x.dst<=255
 aX:x.aX<=65535
 req:x.req<=255
 of:x.of<=255
def EY(x:Hy):Nat->Value:=fun p=>if p=0 then .int .u8 (x.who:Int)else if p=1 then .bool x.meet else if p=2 then .int .u8 (x.other:Int)else if p=3 then .int .u8 (x.kind:Int)else if p=4 then .int .u8 (x.node:Int)else if p=5 then .int .u8 (x.dst:Int)else if p=6 then .int .u16 (x.aX:Int)else if p=7 then .int .u8 (x.req:Int)else .int .u8 (x.of:Int)
theorem Cv{k n r:Nat}(e:r=k % n):Int.tmod (k:Int) (n:Int)=(r:Int):=by
 rw[Int.tmod_eq_emod_of_nonneg (by omega),e]
 exact(Int.natCast_emod k n).symm
theorem Df(V:EvM)(x:Int) : ∀ j,j<14->dz (bO V) 9 (aD x) j=bO { V with node:=x } j:=fun j a=>by
 rcases j with _|_|_|_|_|_|_|_|_|_|_|_|_|_|j <;> first|rfl|omega
theorem Ua(V:EvM)(x:Int) : ∀ j,j<14->dz (bO V) 10 (au x) j=bO ⟨V.o,V.seq,V.deps,V.kind,V.node,x,V.aX,V.req,V.of⟩ j:=fun j a=>by
 rcases j with _|_|_|_|_|_|_|_|_|_|_|_|_|_|j <;> first|rfl|omega
theorem EC(V:EvM)(x:Int) : ∀ j,j<14->dz (bO V) 11 (au x) j=bO { V with aX:=x } j:=fun j a=>by
 rcases j with _|_|_|_|_|_|_|_|_|_|_|_|_|_|j <;> first|rfl|omega
theorem Ub(V:EvM)(x:Int) : ∀ j,j<14->dz (bO V) 12 (aD x) j=bO { V with req:=x } j:=fun j a=>by
 rcases j with _|_|_|_|_|_|_|_|_|_|_|_|_|_|j <;> first|rfl|omega
theorem aeW(V:EvM)(x:Int) : ∀ j,j<14->dz (bO V) 13 (aD x) j=bO { V with of:=x } j:=fun j a=>by
 rcases j with _|_|_|_|_|_|_|_|_|_|_|_|_|_|j <;> first|rfl|omega
end Rt
set_option maxRecDepth 20000 in
set_option maxHeartbeats 2000000 in
theorem Xd(M:WM)(B p T:Nat)(x:Hy)(w:World)(Z:nP w B p M T)(hx:Gg x) :
 Calls Tryz.prog 38 #[(pt p),.agg (aA 9 (EY x))] w fun e w' => ∃ V,fC V/\sI V/\(V.o=((x.who % M.n:Nat):Int)+1/\V.seq=(M.ml (x.who % M.n)).s.known (x.who % M.n)+1/\V.deps=(M.ml (x.who % M.n)).s.known)/\e = .returned (.agg (aA 14 (bO V)))/\Below w.heap.size w w':=by
 have hWc:=Z.c
 have hWl:=Z.l
 have hWa:=Z.a
 have hWg:=Z.g
 have hn1:=Z.n1
 have hn6:=Z.n6
 have hpB:=Z.pB
 have ZJ:p<w.heap.size:=hWc.lt
 have hxw:=hx.who
 have hxo:=hx.other
 have hxk:=hx.kind
 have hxn:=hx.node
 have hxt:=hx.dst
 have hxa:=hx.aX
 have hxr:=hx.req
 have hxf:=hx.of
 refine Kent Tryz.func38 143 ?_
 refine ay<|pK fun G w1 kV m1 s1 z1 => ?_
 have⟨m2,m3,m4,m5,b1⟩:=qm s1.old hWc hWl hWa hWg (Below.refl w.heap.size w)
 have tL:=gH kV
 have mH:=bY kV hWc.lt
 have vR:=m1.lt
 refine wC 14 (fun h=>if h<1 then au 0 else if h<8 then aD 0 else if h<9 then .int .u8 (0)else if h<10 then aD 0 else if h<12 then au 0 else aD 0) fun U w2 xH m6 s2 z2 => ?_
 have⟨m7,m8,m9,m10,m11,b2⟩:=qo s2.old m2 m3 m4 m5 m1 b1
 have qO:=jc xH b1.size
 have Rz:=bY xH m2.lt
 have M9:(.slice M.aa (M.an) (M.ac):Value).ownBlock≠some U:=by rw[xH]; exact m4.jC (Nat.le_refl _)
 have Er:=bY xH m1.lt
 have zJ:=m6.lt
 refine aC<|Ws ?_
 obtain⟨o,eo⟩ : ∃ r,r=x.who % M.n:=⟨_,rfl⟩
 have ho:o<M.n:=by rw[eo]; exact Nat.mod_lt _ (by omega)
 -- region 1 draws
 refine wh<|aR ((pt G))<|Qv (.int .u8 ((x.who:Int))) (fun E D=>aL (m11.aH.dr D) 0)<|Qv (au x.who) (fun E D=>dw rfl rfl (by kernel_rfl) Tryz.underlying3 (iA (by omega) rfl))<|aR ((pt p))<|aR ((pt p))<|aR ((pt p))<|Qv (.slice M.la (M.n) (M.lc)) (fun E D=>aL (m7.aH.dr D) 0)<|aR (au M.n)<|Qv (au o) (fun E D=>Fx.tu rfl rfl rfl (by omega) (Cv eo))<|aR (au o)<|Qn ?_
 rintro _ ⟨qd,rfl⟩
 obtain⟨BI,qD⟩ : ∃ E,E=World.drewN w2 qd:=⟨_,rfl⟩
 rw[<- qD]
 have s3:Stp w2.heap.size w2 BI:=by rw[qD]; exact Sb (iU w2 qd)
 have⟨m12,m13,m14,m15,m16,m17,b3⟩:=jl s3.old m7 m8 m9 m10 m11 m6 b2
 clear qD
 refine sN<|ay<|av ((pt p))<|av ((pt p))<|av ((pt p))<|Lv (.slice M.la (M.n) (M.lc)) (aL m12.aH 0)<|av (au o) ?_
 obtain⟨BK,eq1⟩:=m13.addr (by omega)
 have m18:Fx.Own BI B 72 1 (bI BK M.n M.lc) M.n (Gc M.pl):=m13.dU (congrArg (fun q=>Value.slice q M.n M.lc) eq1)
 refine Lv ((pf BK o)) (cu 1 (hx:=(rfl.trans (congrArg (fun q=>Value.slice q (M.n) (M.lc)) eq1))))<|Lv ((pt (M.pl o))) (aL m18.aH o)<|av ((pt (M.pl o)))<|aC<|Ws ?_
 obtain⟨H,aeX⟩ : ∃ r,r=x.kind % 7:=⟨_,rfl⟩
 have atD:H<7:=by rw[aeX]; exact Nat.mod_lt _ (by omega)
 have Xe:=m15 o (by omega)
 have ED:=Xe.c
 have aeY:=Xe.n
 have hkn:=(Z.inv o (by omega)).kn
 have hko:=hkn o (by omega)
 have hko:0<=(M.ml o).s.known o/\(M.ml o).s.known o<1099511627776:=hko
 have hU : ∀ k,k<(M.ml o).s.nn->iD ((M.ml o).id k):=fun k hk=>by have Y:=(Z.inv o (by omega)).pos k hk; have I:=(Z.inv o (by omega)).top k hk; exact⟨by show(0:Int)<=(M.ml o).core.id k; omega,by show(M.ml o).core.id k<=_; omega⟩
 have hbn:=(Z.g o (by omega)).bn
 -- region 3 draws
 refine qQ (T:=32) (T':=32) (a := .tmp 7) (v := .tmp 44) (m:=14) (z:=fun h=>if h<1 then au 0 else if h<8 then aD 0 else if h<9 then .int .u8 (0)else if h<10 then aD 0 else if h<12 then au 0 else aD 0) (y:=bG (bG (bG (bG (fun h=>if h<1 then au 0 else if h<8 then aD 0 else if h<9 then .int .u8 (0)else if h<10 then aD 0 else if h<12 then au 0 else aD 0) 0 1 (fun _=>au ((o:Int)+1))) 1 1 (fun _=>aD ((M.ml o).s.known o+1))) 2 6 (rv .u64 ((M.ml o).s.known))) 8 1 (fun _ => .int .u8 ((H:Int)+1))) (u := .agg (aA 14 (bG (bG (bG (bG (fun h=>if h<1 then au 0 else if h<8 then aD 0 else if h<9 then .int .u8 (0)else if h<10 then aD 0 else if h<12 then au 0 else aD 0) 0 1 (fun _=>au ((o:Int)+1))) 1 1 (fun _=>aD ((M.ml o).s.known o+1))) 2 6 (rv .u64 ((M.ml o).s.known))) 8 1 (fun _ => .int .u8 ((H:Int)+1))))) 20 21 (List.replicate 22 (0,2,[],[])) #[au ((o:Int)),au ((o:Int)+1),(pt (M.pl o)),au ((o:Int)),(pt (M.pl o)),(pt (M.pl o)),(pf (M.pl o) 12),(pf (M.pl o) (o+12)),aD ((M.ml o).s.known o),aD ((M.ml o).s.known o+1),(pt (M.pl o)),(pt (M.pl o)),(pt (M.pl o)),(pf (M.pl o) 12),.agg (aA 6 (rv .u64 ((M.ml o).s.known))),(pf G 3),.int .u8 ((x.kind:Int)),.int .u8 ((H:Int)),.int .u8 ((H:Int)+1),.agg (aA 14 (bG (bG (bG (bG (fun h=>if h<1 then au 0 else if h<8 then aD 0 else if h<9 then .int .u8 (0)else if h<10 then aD 0 else if h<12 then au 0 else aD 0) 0 1 (fun _=>au ((o:Int)+1))) 1 1 (fun _=>aD ((M.ml o).s.known o+1))) 2 6 (rv .u64 ((M.ml o).s.known))) 8 1 (fun _ => .int .u8 ((H:Int)+1)))),undef,undef] (by kernel_rfl) (by kernel_rfl) (by kernel_rfl) (by kernel_rfl) (by kernel_rfl) (by kernel_rfl) rfl (by kernel_rfl) rfl rfl (by kernel_rfl) (fun A=>(show ev _ (.tmp 7)=(pt A)from by kernel_rfl)) (fun A=>(show ev _ (.tmp 44) = .agg (aA 14 (bG (bG (bG (bG (fun h=>if h<1 then au 0 else if h<8 then aD 0 else if h<9 then .int .u8 (0)else if h<10 then aD 0 else if h<12 then au 0 else aD 0) 0 1 (fun _=>au ((o:Int)+1))) 1 1 (fun _=>aD ((M.ml o).s.known o+1))) 2 6 (rv .u64 ((M.ml o).s.known))) 8 1 (fun _ => .int .u8 ((H:Int)+1))))from by kernel_rfl)) (bJ _ _) (bT (bT (bT (bT (fun jq _=>by show((fun h=>if h<1 then au 0 else if h<8 then aD 0 else if h<9 then .int .u8 (0)else if h<10 then aD 0 else if h<12 then au 0 else aD 0:Nat->Value) jq).oneCell'=true; simp only[]; repeat (first|rfl|split)) (fun _ _=>rfl)) (fun _ _=>rfl)) (fun _ _=>rfl)) (fun _ _=>rfl)) (by kernel_rfl) (fun A => ?_) ?_
 ·refine⟨?_,?_,?_,?_,?_,?_,?_,?_,?_,?_,?_,?_,?_,?_,?_,?_,?_,?_,?_,?_,?_,?_,trivial⟩
  ·exact .inr (.inr oD)
  ·exact .inr (.inr (qR (au ((o:Int)+1)) fun E D=>Fx.Ig rfl (show ev _ (.tmp 25)=au ((o:Int))from by kernel_rfl) (show ev _ (.const (au 1))=au 1 from by kernel_rfl) Fx.io))
  ·exact .inr (.inr oD)
  ·exact .inr (.inr oD)
  ·exact .inr (.inr oD)
  ·exact .inr (.inr oD)
  ·exact .inr (.inr oD)
  ·exact .inr (.inr (qR ((pf (M.pl o) (o+12))) fun E D=>fZ rfl (show ev _ (.tmp 31)=(pf (M.pl o) 12)from by kernel_rfl) (show ev _ (.tmp 28)=au ((o:Int))from by kernel_rfl) Tryz.underlying30 (s:=1) (by kernel_rfl) (by omega) (by omega) (by omega)))
  ·exact .inr (.inr (qR (aD ((M.ml o).s.known o)) fun E D=>bC (x:=kJ (M.ml o)) rfl (show ev _ (.tmp 32)=(pf (M.pl o) (o+12))from by kernel_rfl) (by kernel_rfl) (ED.aH.below D (by have:=ED.lt; omega)) (i:=o+12) (by omega) (by omega) (jD _ (by omega) (iY _ (by omega) (by omega)))))
  ·exact .inr (.inr (qR (aD ((M.ml o).s.known o+1)) fun E D=>Fx.Ig rfl (show ev _ (.tmp 33)=aD ((M.ml o).s.known o)from by kernel_rfl) (show ev _ (.const (aD 1))=aD 1 from by kernel_rfl) (jr (by omega) (by omega))))
  ·exact .inr (.inr oD)
  ·exact .inr (.inr oD)
  ·exact .inr (.inr oD)
  ·exact .inr (.inr oD)
  ·exact .inr (.inr (qR (.agg (aA 6 (rv .u64 ((M.ml o).s.known)))) fun E D=>dZ (x:=kJ (M.ml o)) (y:=rv .u64 ((M.ml o).s.known)) rfl (show ev _ (.tmp 38)=(pf (M.pl o) 12)from by kernel_rfl) (by kernel_rfl) (by kernel_rfl) (ED.aH.below D (by have:=ED.lt; omega)) (i:=12) (by omega) (by omega) (fun j C=>jD _ (by omega) (iY _ C (by omega)))))
  ·exact .inr (.inr oD)
  ·exact .inr (.inr (qR (.int .u8 ((x.kind:Int))) fun E D=>bC (x:=EY x) rfl (show ev _ (.tmp 40)=(pf G 3)from by kernel_rfl) (by kernel_rfl) (m16.aH.below D (by have:=m16.lt; omega)) (i:=3) (by omega) (by omega) rfl))
  ·exact .inr (.inr (qR (.int .u8 ((H:Int))) fun E D=>Fx.tu rfl (show ev _ (.tmp 41) = .int .u8 ((x.kind:Int))from by kernel_rfl) (show ev _ (.const (.int .u8 (7))) = .int .u8 (7)from by kernel_rfl) (by omega) (Cv aeX)))
  ·exact .inr (.inr (qR (.int .u8 ((H:Int)+1)) fun E D=>Fx.Ig rfl (show ev _ (.const (.int .u8 (1))) = .int .u8 (1)from by kernel_rfl) (show ev _ (.tmp 42) = .int .u8 ((H:Int))from by kernel_rfl) (Fx.u8e (by omega) (by omega))))
  ·exact .inr (.inr (qR (.agg (aA 14 (bG (bG (bG (bG (fun h=>if h<1 then au 0 else if h<8 then aD 0 else if h<9 then .int .u8 (0)else if h<10 then aD 0 else if h<12 then au 0 else aD 0) 0 1 (fun _=>au ((o:Int)+1))) 1 1 (fun _=>aD ((M.ml o).s.known o+1))) 2 6 (rv .u64 ((M.ml o).s.known))) 8 1 (fun _ => .int .u8 ((H:Int)+1))))) fun E D=>fP (vs := [(0,au ((o:Int)+1)),(1,aD ((M.ml o).s.known o+1)),(2,.agg (aA 6 (rv .u64 ((M.ml o).s.known)))),(3,.int .u8 ((H:Int)+1))]) (places := #[(0,1),(1,1),(2,6),(8,1),(9,1),(10,1),(11,1),(12,1),(13,1)]) (m:=14) (x:=fun h=>if h<1 then au 0 else if h<8 then aD 0 else if h<9 then .int .u8 (0)else if h<10 then aD 0 else if h<12 then au 0 else aD 0) rfl (Fx.YG (show ev _ (.tmp 26)=au ((o:Int)+1)from by kernel_rfl) (show ev _ (.tmp 34)=aD ((M.ml o).s.known o+1)from by kernel_rfl) (show ev _ (.tmp 39) = .agg (aA 6 (rv .u64 ((M.ml o).s.known)))from by kernel_rfl) (show ev _ (.tmp 43) = .int .u8 ((H:Int)+1)from by kernel_rfl)) Tryz.underlying32 (by kernel_rfl) (by kernel_rfl) (by rw[bD (off:=0) (s:=1) (y:=fun _=>au ((o:Int)+1)) (by kernel_rfl) (cells_one (by rfl)) (by rfl)]; rw[bD (off:=1) (s:=1) (y:=fun _=>aD ((M.ml o).s.known o+1)) (by kernel_rfl) (cells_one (by rfl)) (by rfl)]; rw[bD (off:=2) (s:=6) (y:=rv .u64 ((M.ml o).s.known)) (by kernel_rfl) (bJ _ _) (by rfl)]; rw[bD (off:=8) (s:=1) (y:=fun _ => .int .u8 ((H:Int)+1)) (by kernel_rfl) (cells_one (by rfl)) (by rfl)]; rfl)))
  ·exact .inl rfl
  exact .inr (.inl rfl)
 rintro A w3 f1 hf1 Dy m19 hb1
 have abq:p≠A:=Nat.ne_of_lt (Nat.lt_of_lt_of_le (m12.lt) Dy)
 have amL:G≠A:=Nat.ne_of_lt (Nat.lt_of_lt_of_le (m16.lt) Dy)
 have abo:U≠A:=Nat.ne_of_lt (Nat.lt_of_lt_of_le (m17.lt) Dy)
 have amM:BK≠A:=Nat.ne_of_lt (Nat.lt_of_lt_of_le (m18.lt) Dy)
 have aeZ:(M.pl o)≠A:=Nat.ne_of_lt (Nat.lt_of_lt_of_le (ED.lt) Dy)
 have abr:(.slice M.aa (M.an) (M.ac):Value).ownBlock≠some A:=fun e=>by have:=(m14.ge e).2; omega
 have⟨m22,m23,m24,lW,nY,b4⟩:=qo hb1 m15 m16 m17 m18 aeY b3
 have Dy:w.heap.size<=A:=Nat.le_trans b3.size Dy
 have KQ:=m19.lt
 have q1:f1 3=(pt G):=by rw[hf1]; kernel_rfl
 have q2:f1 4=(pt U):=by rw[hf1]; kernel_rfl
 have q3:f1 6=(pt (M.pl o)):=by rw[hf1]; kernel_rfl
 have q4:f1 7=(pt A):=by rw[hf1]; kernel_rfl
 clear hf1
 refine sN<|Ws ?_
 obtain⟨d,eV0⟩ : ∃ V:EvM,V=(⟨(o:Int)+1,(M.ml o).s.known o+1,(M.ml o).s.known,(H:Int)+1,0,0,0,0,0⟩:EvM):=⟨_,rfl⟩
 have hz1:iD 0:=⟨by decide,by decide⟩
 have hz2:oL 0:=⟨by decide,by decide⟩
 have t:fC d:=by rw[eV0]; exact⟨⟨by show(_:Int)<=(o:Int)+1; omega,by show(o:Int)+1<=_; omega⟩,⟨by show(0:Int)<=(M.ml o).s.known o+1; omega,by show(M.ml o).s.known o+1<=_; omega⟩,fun i hi=>⟨(hkn i hi).1,by have q:(M.ml o).s.known i<1099511627776:=(hkn i hi).2; show(M.ml o).s.known i<=_; omega⟩,⟨by show(0:Int)<=(H:Int)+1; omega,by show(H:Int)+1<=255; omega⟩,hz1,hz2,hz2,hz1,hz1⟩
 have nT:aP w3 A 14 (bO d) 32:=m19.congr (fun j C=>by rw[eV0]; rcases j with _|_|_|_|_|_|_|_|_|_|_|_|_|_|j <;> first|rfl|omega|exact congrArg (Value.int .u8) (by omega))
 have X:sI d:=by rw[eV0]; exact⟨by show(0:Int)<=_; decide,by show(0:Int)<=_; decide⟩
 have hd0:d.o=(o:Int)+1/\d.seq=(M.ml o).s.known o+1/\d.deps=(M.ml o).s.known:=by rw[eV0]; exact⟨rfl,rfl,rfl⟩
 have ek0:d.kind=(H:Int)+1:=by rw[eV0]
 refine Wl<|av (aD 0)<|aC ?_
 have oF:Fx.Own w3 B 72 1 (.slice M.la (M.n) (M.lc)) M.n (Gc M.pl):=lW.dU (congrArg (fun q=>Value.slice q M.n M.lc) eq1.symm)
 refine Cy (fun f w_ => ∃ nd:Int,iD nd/\f 3=(pt G)/\f 4=(pt U)/\f 7=(pt A)/\f 8=aD nd/\aP w_ G 9 (EY x) 36/\aP w_ U 14 (fun h=>if h<1 then au 0 else if h<8 then aD 0 else if h<9 then .int .u8 (0)else if h<10 then aD 0 else if h<12 then au 0 else aD 0) 32/\aP w_ A 14 (bO d) 32/\Below w.heap.size w w_) ?_ ?_
 ·refine Ws ?_
  have Xf:=m22 o (by omega)
  have Uc:=Xf.c
  have apw:=Xf.n
  refine Wl<|aS q3<|av ((pt (M.pl o)))<|av ((pt (M.pl o)))<|av ((pf (M.pl o) 18))<|Lv (.slice (M.ml o).s.na ((M.ml o).s.nn) ((M.ml o).s.nc)) (aL Uc.aH 18)<|av (au (((M.ml o).s.nn:Nat):Int))<|Lv (.bool (decide (0<(((M.ml o).s.nn:Nat):Int)))) (Fx.Pq rfl rfl rfl)<|aC<|Wc (b:=decide (0<(((M.ml o).s.nn:Nat):Int))) rfl (fun c51 => ?_)<|fun c51 => ?_
  ·have c51:=of_decide_eq_true c51
   obtain⟨Uw,afb⟩ : ∃ r,r=x.node % (M.ml o).s.nn:=⟨_,rfl⟩
   have amN:Uw<(M.ml o).s.nn:=by rw[afb]; exact Nat.mod_lt _ (by omega)
   -- region 6 draws
   refine wh<|dS q3<|aR ((pt (M.pl o)))<|aR ((pt (M.pl o)))<|aR ((pf (M.pl o) 18))<|Qv (.slice (M.ml o).s.na ((M.ml o).s.nn) ((M.ml o).s.nc)) (fun E D=>aL (Uc.aH.dr D) 18)<|Qv ((pf G 4)) (fun E D=>iN q1 4)<|Qv (.int .u8 ((x.node:Int))) (fun E D=>aL (m23.aH.dr D) 4)<|Qv (au x.node) (fun E D=>dw rfl rfl (by kernel_rfl) Tryz.underlying3 (iA (by omega) rfl))<|dS q3<|aR ((pt (M.pl o)))<|aR ((pt (M.pl o)))<|aR ((pf (M.pl o) 18))<|Qv (.slice (M.ml o).s.na ((M.ml o).s.nn) ((M.ml o).s.nc)) (fun E D=>aL (Uc.aH.dr D) 18)<|aR (au (((M.ml o).s.nn:Nat):Int))<|Qv (au Uw) (fun E D=>Fx.tu rfl rfl rfl (by omega) (Cv afb)) ?_
   obtain⟨La,ET⟩:=nY.addr (by omega)
   have nE:Fx.Own w3 B 61 56 (.slice (some ⟨La,0,none⟩) ((M.ml o).s.nn) ((M.ml o).s.nc)) ((M.ml o).s.nn) (H9 (M.ml o)):=nY.dU (congrArg (fun q=>Value.slice q ((M.ml o).s.nn) ((M.ml o).s.nc)) ET)
   refine Qv ((pf La (56*Uw))) (fun E D=>cu 56 (hx:=(rfl.trans (congrArg (fun q=>Value.slice q ((M.ml o).s.nn) ((M.ml o).s.nc)) ET))))<|aR ((pf La (56*Uw)))<|Qv (aD ((M.ml o).id Uw)) (fun E D=>aL (nE.aH.dr D) (56*Uw) (Fx.gW (k:=Uw) (j:=0) (by omega) (by omega) rfl))<|aR (aD ((M.ml o).id Uw))<|Qn ?_
   rintro _ ⟨qd,rfl⟩
   obtain⟨wq2,vg⟩ : ∃ E,E=World.drewN w3 qd:=⟨_,rfl⟩
   rw[<- vg]
   have s5:Stp w3.heap.size w3 wq2:=by rw[vg]; exact Sb (iU w3 qd)
   have⟨nG,oJ,qL,qW,b5⟩:=qm s5.old m23 m24 nT nE b4
   clear vg
   have mW:Fx.Own wq2 B 61 56 (.slice (M.ml o).s.na ((M.ml o).s.nn) ((M.ml o).s.nc)) ((M.ml o).s.nn) (H9 (M.ml o)):=qW.dU (congrArg (fun q=>Value.slice q ((M.ml o).s.nn) ((M.ml o).s.nc)) ET.symm)
   exact wD ⟨((M.ml o).id Uw),(hU Uw amN),q1,q2,q4,Fx.ic,nG,oJ,qL,b5⟩
  have c51:=of_decide_eq_false c51
  refine Wk ?_
  exact wD ⟨0,⟨by decide,by decide⟩,q1,q2,q4,Fx.ic,m23,m24,nT,b4⟩
 rintro f2 w4 ⟨nd,NG,Y,I,F,h4,lY,lX,K,J⟩
 refine Ws<|ay<|Lv ((pf A 8)) (iN F 8)<|Lv (.int .u8 (d.kind)) (aL K.aH 8)<|aC<|Wb<|ay ?_
 by_cases c73:d.kind=1
 ·refine Lv aG (eP c73)<|av aG<|aC<|aM<|Ws<|Ws ?_
  obtain⟨r76,afc⟩ : ∃ r,r=x.node % 2:=⟨_,rfl⟩
  have atE:r76<2:=by rw[afc]; exact Nat.mod_lt _ (by omega)
  refine Wl<|Lv ((pf G 4)) (iN Y 4)<|Lv (.int .u8 ((x.node:Int))) (aL lY.aH 4)<|Lv (.int .u8 ((r76:Int))) (Fx.tu rfl rfl rfl (by omega) (Cv afc)) ?_
  by_cases c77:(r76:Int)=1
  ·refine Lv aG (eP c77)<|aC<|aM<|Wl<|aS h4<|Lv ((pf A 9)) (iN F 9)<|iQ K 9 (aD nd) fun w5 oZ s6 z3 => ?_
   obtain⟨L,eV1⟩ : ∃ V:EvM,V=⟨d.o,d.seq,d.deps,d.kind,nd,d.dst,d.aX,d.req,d.of⟩:=⟨_,rfl⟩
   have JZ:fC L:=by rw[eV1]; exact⟨t.o,t.seq,t.deps,t.kind,NG,t.dst,t.aX,t.req,t.of⟩
   have amP:L.o=(o:Int)+1/\L.seq=(M.ml o).s.known o+1/\L.deps=(M.ml o).s.known:=by rw[eV1]; exact hd0
   have amQ:sI L:=by rw[eV1]; exact⟨X.aX,X.req⟩
   have mX:aP w5 A 14 (bO L) 32:=oZ.congr (fun j C=>by rw[eV1]; exact Df _ _ j C)
   have gI:=gY s6 K.ty
   have rM:=kR gI lY
   have vU:=lX.bZ s6 (by omega)
   have b7:=s6.below J J.size (by omega)
   refine aC<|Wl<|Lv ((pf G 6)) (iN Y 6)<|Lv (.int .u16 ((x.aX:Int))) (aL rM.aH 6)<|Lv (au x.aX) (dw rfl rfl (by kernel_rfl) Tryz.underlying2 (iA (by omega) rfl))<|Lv ((pf A 11)) (iN F 11)<|iQ mX 11 (au x.aX) fun w6 qY s7 z4 => ?_
   obtain⟨V2,eV2⟩ : ∃ V:EvM,V=⟨L.o,L.seq,L.deps,L.kind,L.node,L.dst,(x.aX:Int),L.req,L.of⟩:=⟨_,rfl⟩
   have amR:fC V2:=by rw[eV2]; exact⟨JZ.o,JZ.seq,JZ.deps,JZ.kind,JZ.node,JZ.dst,(show oL ((x.aX:Int))from⟨by omega,by omega⟩),JZ.req,JZ.of⟩
   have amS:V2.o=(o:Int)+1/\V2.seq=(M.ml o).s.known o+1/\V2.deps=(M.ml o).s.known:=by rw[eV2]; exact amP
   have amT:sI V2:=by rw[eV2]; exact⟨by show(x.aX:Int)<=65536; omega,amQ.req⟩
   have qZ:aP w6 A 14 (bO V2) 32:=qY.congr (fun j C=>by rw[eV2]; exact EC _ _ j C)
   have uS:=vU.bZ s7 (by omega)
   have b8:=s7.below b7 b7.size (by omega)
   refine Ln<|bP<|sN<|ay<|Lv (.agg (aA 14 (bO V2))) (fA qZ.aH 0 (ha:=F))<|fB uS 0 (ha:=I) (h1:=(gu _)) fun w7 rZ s8 z5 => ?_
   have sP:aP w7 U 14 (bO V2) 32:=aU rZ
   have sQ:=qZ.bZ s8 (by omega)
   have b9:=s8.below b8 b8.size (by omega)
   refine aC (Wr (⟨.agg (aA 14 (bO V2)),rV Tryz.results38 ⟨_,I,aT sP.aH (by kernel_rfl) (by kernel_rfl)⟩,?_⟩))
   exact⟨V2,amR,amT,by rw[<- eo]; exact amS,rfl,b9⟩
  refine Lv aF (fF c77)<|aC<|aK<|Wk<|sN<|Wl<|Lv ((pf G 6)) (iN Y 6)<|Lv (.int .u16 ((x.aX:Int))) (aL lY.aH 6)<|Lv (au x.aX) (dw rfl rfl (by kernel_rfl) Tryz.underlying2 (iA (by omega) rfl))<|Lv ((pf A 11)) (iN F 11)<|iQ K 11 (au x.aX) fun w8 sS s9 z6 => ?_
  obtain⟨V3,eV3⟩ : ∃ V:EvM,V=⟨d.o,d.seq,d.deps,d.kind,d.node,d.dst,(x.aX:Int),d.req,d.of⟩:=⟨_,rfl⟩
  have amU:fC V3:=by rw[eV3]; exact⟨t.o,t.seq,t.deps,t.kind,t.node,t.dst,(show oL ((x.aX:Int))from⟨by omega,by omega⟩),t.req,t.of⟩
  have amV:V3.o=(o:Int)+1/\V3.seq=(M.ml o).s.known o+1/\V3.deps=(M.ml o).s.known:=by rw[eV3]; exact hd0
  have amW:sI V3:=by rw[eV3]; exact⟨by show(x.aX:Int)<=65536; omega,X.req⟩
  have rO:aP w8 A 14 (bO V3) 32:=sS.congr (fun j C=>by rw[eV3]; exact EC _ _ j C)
  have pR:=lX.bZ s9 (by omega)
  have b10:=s9.below J J.size (by omega)
  refine Ln<|bP<|sN<|ay<|Lv (.agg (aA 14 (bO V3))) (fA rO.aH 0 (ha:=F))<|fB pR 0 (ha:=I) (h1:=(gu _)) fun w9 vW s10 z7 => ?_
  have mU:aP w9 U 14 (bO V3) 32:=aU vW
  have m64:=rO.bZ s10 (by omega)
  have b11:=s10.below b10 b10.size (by omega)
  refine aC (Wr (⟨.agg (aA 14 (bO V3)),rV Tryz.results38 ⟨_,I,aT mU.aH (by kernel_rfl) (by kernel_rfl)⟩,?_⟩))
  exact⟨V3,amU,amW,by rw[<- eo]; exact amV,rfl,b11⟩
 refine Lv aF (fF c73)<|av aF<|aC<|aK<|ay ?_
 by_cases c85:d.kind=2
 ·refine Lv aG (eP c85)<|av aG<|aC<|aM<|ay<|aS h4<|Lv ((pf A 9)) (iN F 9)<|iQ K 9 (aD nd) fun rJ wm s11 z8 => ?_
  obtain⟨P,eV4⟩ : ∃ V:EvM,V=⟨d.o,d.seq,d.deps,d.kind,nd,d.dst,d.aX,d.req,d.of⟩:=⟨_,rfl⟩
  have J2:fC P:=by rw[eV4]; exact⟨t.o,t.seq,t.deps,t.kind,NG,t.dst,t.aX,t.req,t.of⟩
  have amX:P.o=(o:Int)+1/\P.seq=(M.ml o).s.known o+1/\P.deps=(M.ml o).s.known:=by rw[eV4]; exact hd0
  have amY:sI P:=by rw[eV4]; exact⟨X.aX,X.req⟩
  have uy:aP rJ A 14 (bO P) 32:=wm.congr (fun j C=>by rw[eV4]; exact Df _ _ j C)
  have xV:=gY s11 K.ty
  have uz:=kR xV lY
  have sj:=lX.bZ s11 (by omega)
  have b12:=s11.below J J.size (by omega)
  refine aC<|Wl<|Lv ((pf G 6)) (iN Y 6)<|Lv (.int .u16 ((x.aX:Int))) (aL uz.aH 6)<|Lv (au x.aX) (dw rfl rfl (by kernel_rfl) Tryz.underlying2 (iA (by omega) rfl))<|Lv (au ((x.aX:Int)+1)) eZ<|Lv ((pf A 11)) (iN F 11)<|iQ uy 11 (au ((x.aX:Int)+1)) fun DI ru s12 z9 => ?_
  obtain⟨V5,eV5⟩ : ∃ V:EvM,V=⟨P.o,P.seq,P.deps,P.kind,P.node,P.dst,(x.aX:Int)+1,P.req,P.of⟩:=⟨_,rfl⟩
  have amZ:fC V5:=by rw[eV5]; exact⟨J2.o,J2.seq,J2.deps,J2.kind,J2.node,J2.dst,(show oL ((x.aX:Int)+1)from⟨by omega,by omega⟩),J2.req,J2.of⟩
  have ana:V5.o=(o:Int)+1/\V5.seq=(M.ml o).s.known o+1/\V5.deps=(M.ml o).s.known:=by rw[eV5]; exact amX
  have anb:sI V5:=by rw[eV5]; exact⟨by show(x.aX:Int)+1<=65536; omega,amY.req⟩
  have sU:aP DI A 14 (bO V5) 32:=ru.congr (fun j C=>by rw[eV5]; exact EC _ _ j C)
  have uD:=sj.bZ s12 (by omega)
  have b13:=s12.below b12 b12.size (by omega)
  refine Ln<|bP<|sN<|ay<|Lv (.agg (aA 14 (bO V5))) (fA sU.aH 0 (ha:=F))<|fB uD 0 (ha:=I) (h1:=(gu _)) fun Ch sZ s13 z10 => ?_
  have yB:aP Ch U 14 (bO V5) 32:=aU sZ
  have wQ:=sU.bZ s13 (by omega)
  have b14:=s13.below b13 b13.size (by omega)
  refine aC (Wr (⟨.agg (aA 14 (bO V5)),rV Tryz.results38 ⟨_,I,aT yB.aH (by kernel_rfl) (by kernel_rfl)⟩,?_⟩))
  exact⟨V5,amZ,anb,by rw[<- eo]; exact ana,rfl,b14⟩
 refine Lv aF (fF c85)<|av aF<|aC<|aK<|ay ?_
 by_cases c94:d.kind=3
 ·refine Lv aG (eP c94)<|av aG<|aC<|aM<|ay<|aS h4<|Lv ((pf A 9)) (iN F 9)<|iQ K 9 (aD nd) fun EN wF AQ z11 => ?_
  obtain⟨Q,eV6⟩ : ∃ V:EvM,V=⟨d.o,d.seq,d.deps,d.kind,nd,d.dst,d.aX,d.req,d.of⟩:=⟨_,rfl⟩
  have J3:fC Q:=by rw[eV6]; exact⟨t.o,t.seq,t.deps,t.kind,NG,t.dst,t.aX,t.req,t.of⟩
  have anc:Q.o=(o:Int)+1/\Q.seq=(M.ml o).s.known o+1/\Q.deps=(M.ml o).s.known:=by rw[eV6]; exact hd0
  have ane:sI Q:=by rw[eV6]; exact⟨X.aX,X.req⟩
  have wR:aP EN A 14 (bO Q) 32:=wF.congr (fun j C=>by rw[eV6]; exact Df _ _ j C)
  have aad:=gY AQ K.ty
  have vX:=kR aad lY
  have uT:=lX.bZ AQ (by omega)
  have b15:=AQ.below J J.size (by omega)
  refine aC<|ay<|Lv ((pf G 6)) (iN Y 6)<|Lv (.int .u16 ((x.aX:Int))) (aL vX.aH 6)<|Lv (au x.aX) (dw rfl rfl (by kernel_rfl) Tryz.underlying2 (iA (by omega) rfl))<|Lv (au ((x.aX:Int)+1)) eZ<|Lv ((pf A 11)) (iN F 11)<|iQ wR 11 (au ((x.aX:Int)+1)) fun Mv tN s15 z12 => ?_
  obtain⟨R,eV7⟩ : ∃ V:EvM,V=⟨Q.o,Q.seq,Q.deps,Q.kind,Q.node,Q.dst,(x.aX:Int)+1,Q.req,Q.of⟩:=⟨_,rfl⟩
  have J4:fC R:=by rw[eV7]; exact⟨J3.o,J3.seq,J3.deps,J3.kind,J3.node,J3.dst,(show oL ((x.aX:Int)+1)from⟨by omega,by omega⟩),J3.req,J3.of⟩
  have anf:R.o=(o:Int)+1/\R.seq=(M.ml o).s.known o+1/\R.deps=(M.ml o).s.known:=by rw[eV7]; exact anc
  have ang:sI R:=by rw[eV7]; exact⟨by show(x.aX:Int)+1<=65536; omega,ane.req⟩
  have wo:aP Mv A 14 (bO R) 32:=tN.congr (fun j C=>by rw[eV7]; exact EC _ _ j C)
  have afd:=gY s15 wR.ty
  have xW:=kR afd vX
  have wu:=uT.bZ s15 (by omega)
  have b16:=s15.below b15 b15.size (by omega)
  refine aC<|Wl<|Lv ((pf G 7)) (iN Y 7)<|Lv (.int .u8 ((x.req:Int))) (aL xW.aH 7)<|Lv (aD x.req) (dw rfl rfl (by kernel_rfl) Tryz.underlying28 (jr (by omega) rfl))<|Lv (aD ((x.req:Int)+1)) eZ<|Lv ((pf A 12)) (iN F 12)<|iQ wo 12 (aD ((x.req:Int)+1)) fun Mw yR s16 z13 => ?_
  obtain⟨V8,eV8⟩ : ∃ V:EvM,V=⟨R.o,R.seq,R.deps,R.kind,R.node,R.dst,R.aX,(x.req:Int)+1,R.of⟩:=⟨_,rfl⟩
  have anh:fC V8:=by rw[eV8]; exact⟨J4.o,J4.seq,J4.deps,J4.kind,J4.node,J4.dst,J4.aX,(show iD ((x.req:Int)+1)from⟨by omega,by omega⟩),J4.of⟩
  have ani:V8.o=(o:Int)+1/\V8.seq=(M.ml o).s.known o+1/\V8.deps=(M.ml o).s.known:=by rw[eV8]; exact anf
  have anj:sI V8:=by rw[eV8]; exact⟨ang.aX,by show(x.req:Int)+1<=256; omega⟩
  have yC:aP Mw A 14 (bO V8) 32:=yR.congr (fun j C=>by rw[eV8]; exact Ub _ _ j C)
  have xG:=wu.bZ s16 (by omega)
  have b17:=s16.below b16 b16.size (by omega)
  refine Ln<|bP<|sN<|ay<|Lv (.agg (aA 14 (bO V8))) (fA yC.aH 0 (ha:=F))<|fB xG 0 (ha:=I) (h1:=(gu _)) fun w16 xY H7 z14 => ?_
  have yS:aP w16 U 14 (bO V8) 32:=aU xY
  have AZ:=yC.bZ H7 (by omega)
  have b18:=H7.below b17 b17.size (by omega)
  refine aC (Wr (⟨.agg (aA 14 (bO V8)),rV Tryz.results38 ⟨_,I,aT yS.aH (by kernel_rfl) (by kernel_rfl)⟩,?_⟩))
  exact⟨V8,anh,anj,by rw[<- eo]; exact ani,rfl,b18⟩
 refine Lv aF (fF c94)<|av aF<|aC<|aK<|ay ?_
 by_cases afe:d.kind=4
 ·refine Lv aG (eP afe)<|av aG<|aC<|aM<|ay<|Lv ((pf G 7)) (iN Y 7)<|Lv (.int .u8 ((x.req:Int))) (aL lY.aH 7)<|Lv (aD x.req) (dw rfl rfl (by kernel_rfl) Tryz.underlying28 (jr (by omega) rfl))<|Lv (aD ((x.req:Int)+1)) eZ<|Lv ((pf A 12)) (iN F 12)<|iQ K 12 (aD ((x.req:Int)+1)) fun Qy zN Ki z15 => ?_
  obtain⟨S,eV9⟩ : ∃ V:EvM,V=⟨d.o,d.seq,d.deps,d.kind,d.node,d.dst,d.aX,(x.req:Int)+1,d.of⟩:=⟨_,rfl⟩
  have J5:fC S:=by rw[eV9]; exact⟨t.o,t.seq,t.deps,t.kind,t.node,t.dst,t.aX,(show iD ((x.req:Int)+1)from⟨by omega,by omega⟩),t.of⟩
  have ank:S.o=(o:Int)+1/\S.seq=(M.ml o).s.known o+1/\S.deps=(M.ml o).s.known:=by rw[eV9]; exact hd0
  have aff:sI S:=by rw[eV9]; exact⟨X.aX,by show(x.req:Int)+1<=256; omega⟩
  have zO:aP Qy A 14 (bO S) 32:=zN.congr (fun j C=>by rw[eV9]; exact Ub _ _ j C)
  have afg:=gY Ki K.ty
  have xL:=kR afg lY
  have Ck:=lX.bZ Ki (by omega)
  have b19:=Ki.below J J.size (by omega)
  refine aC<|Wl<|Lv ((pf G 8)) (iN Y 8)<|Lv (.int .u8 ((x.of:Int))) (aL xL.aH 8)<|Lv (aD x.of) (dw rfl rfl (by kernel_rfl) Tryz.underlying28 (jr (by omega) rfl))<|Lv (aD ((x.of:Int)+1)) eZ<|Lv ((pf A 13)) (iN F 13)<|iQ zO 13 (aD ((x.of:Int)+1)) fun Qz A8 s19 z16 => ?_
  obtain⟨Ux,Xg⟩ : ∃ V:EvM,V=⟨S.o,S.seq,S.deps,S.kind,S.node,S.dst,S.aX,S.req,(x.of:Int)+1⟩:=⟨_,rfl⟩
  have afh:fC Ux:=by rw[Xg]; exact⟨J5.o,J5.seq,J5.deps,J5.kind,J5.node,J5.dst,J5.aX,J5.req,(show iD ((x.of:Int)+1)from⟨by omega,by omega⟩)⟩
  have afi:Ux.o=(o:Int)+1/\Ux.seq=(M.ml o).s.known o+1/\Ux.deps=(M.ml o).s.known:=by rw[Xg]; exact ank
  have afj:sI Ux:=by rw[Xg]; exact⟨aff.aX,aff.req⟩
  have CS:aP Qz A 14 (bO Ux) 32:=A8.congr (fun j C=>by rw[Xg]; exact aeW _ _ j C)
  have vk:=Ck.bZ s19 (by omega)
  have b20:=s19.below b19 b19.size (by omega)
  refine Ln<|bP<|sN<|ay<|Lv (.agg (aA 14 (bO Ux))) (fA CS.aH 0 (ha:=F))<|fB vk 0 (ha:=I) (h1:=(gu _)) fun XO wT s20 z17 => ?_
  have vo:aP XO U 14 (bO Ux) 32:=aU wT
  have og:=CS.bZ s20 (by omega)
  have KP:=s20.below b20 b20.size (by omega)
  refine aC (Wr (⟨.agg (aA 14 (bO Ux)),rV Tryz.results38 ⟨_,I,aT vo.aH (by kernel_rfl) (by kernel_rfl)⟩,?_⟩))
  exact⟨Ux,afh,afj,by rw[<- eo]; exact afi,rfl,KP⟩
 refine Lv aF (fF afe)<|av aF<|aC<|aK<|ay ?_
 by_cases afk:d.kind=5
 ·refine Lv aG (eP afk)<|av aG<|aC<|aM<|ay<|aS h4<|Lv ((pf A 9)) (iN F 9)<|iQ K 9 (aD nd) fun Mx nJ s21 z18 => ?_
  obtain⟨N,Xh⟩ : ∃ V:EvM,V=⟨d.o,d.seq,d.deps,d.kind,nd,d.dst,d.aX,d.req,d.of⟩:=⟨_,rfl⟩
  have BX:fC N:=by rw[Xh]; exact⟨t.o,t.seq,t.deps,t.kind,NG,t.dst,t.aX,t.req,t.of⟩
  have afl:N.o=(o:Int)+1/\N.seq=(M.ml o).s.known o+1/\N.deps=(M.ml o).s.known:=by rw[Xh]; exact hd0
  have afm:sI N:=by rw[Xh]; exact⟨X.aX,X.req⟩
  have oN:aP Mx A 14 (bO N) 32:=nJ.congr (fun j C=>by rw[Xh]; exact Df _ _ j C)
  have afn:=gY s21 K.ty
  have oh:=kR afn lY
  have pV:=lX.bZ s21 (by omega)
  have Kg:=s21.below J J.size (by omega)
  refine aC<|ay<|Lv ((pf G 6)) (iN Y 6)<|Lv (.int .u16 ((x.aX:Int))) (aL oh.aH 6)<|Lv (au x.aX) (dw rfl rfl (by kernel_rfl) Tryz.underlying2 (iA (by omega) rfl))<|Lv (au ((x.aX:Int)+1)) eZ<|Lv ((pf A 11)) (iN F 11)<|iQ oN 11 (au ((x.aX:Int)+1)) fun Um qE s22 z19 => ?_
  obtain⟨O,Xi⟩ : ∃ V:EvM,V=⟨N.o,N.seq,N.deps,N.kind,N.node,N.dst,(x.aX:Int)+1,N.req,N.of⟩:=⟨_,rfl⟩
  have BZ:fC O:=by rw[Xi]; exact⟨BX.o,BX.seq,BX.deps,BX.kind,BX.node,BX.dst,(show oL ((x.aX:Int)+1)from⟨by omega,by omega⟩),BX.req,BX.of⟩
  have afo:O.o=(o:Int)+1/\O.seq=(M.ml o).s.known o+1/\O.deps=(M.ml o).s.known:=by rw[Xi]; exact afl
  have Yo:sI O:=by rw[Xi]; exact⟨by show(x.aX:Int)+1<=65536; omega,afm.req⟩
  have tZ:aP Um A 14 (bO O) 32:=qE.congr (fun j C=>by rw[Xi]; exact EC _ _ j C)
  have afp:=gY s22 oN.ty
  have pW:=kR afp oh
  have sD:=pV.bZ s22 (by omega)
  have Qp:=s22.below Kg Kg.size (by omega)
  refine aC ?_
  obtain⟨W,Xj⟩ : ∃ r,r=x.dst % 6:=⟨_,rfl⟩
  have hr6:W<6:=by rw[Xj]; exact Nat.mod_lt _ (by omega)
  refine Wl<|Lv ((pf G 5)) (iN Y 5)<|Lv (.int .u8 ((x.dst:Int))) (aL pW.aH 5)<|Lv (au x.dst) (dw rfl rfl (by kernel_rfl) Tryz.underlying3 (iA (by omega) rfl))<|Lv (au W) (Fx.tu rfl rfl rfl (by omega) (Cv Xj))<|Lv (au ((W:Int)+1)) eZ<|Lv ((pf A 10)) (iN F 10)<|iQ tZ 10 (au ((W:Int)+1)) fun w22 xZ s23 z20 => ?_
  obtain⟨Uy,Xk⟩ : ∃ V:EvM,V=⟨O.o,O.seq,O.deps,O.kind,O.node,(W:Int)+1,O.aX,O.req,O.of⟩:=⟨_,rfl⟩
  have afq:fC Uy:=by rw[Xk]; exact⟨BZ.o,BZ.seq,BZ.deps,BZ.kind,BZ.node,(show oL ((W:Int)+1)from⟨by omega,by omega⟩),BZ.aX,BZ.req,BZ.of⟩
  have afr:Uy.o=(o:Int)+1/\Uy.seq=(M.ml o).s.known o+1/\Uy.deps=(M.ml o).s.known:=by rw[Xk]; exact afo
  have afs:sI Uy:=by rw[Xk]; exact⟨Yo.aX,Yo.req⟩
  have uf:aP w22 A 14 (bO Uy) 32:=xZ.congr (fun j C=>by rw[Xk]; exact Ua _ _ j C)
  have A9:=sD.bZ s23 (by omega)
  have Qq:=s23.below Qp Qp.size (by omega)
  refine Ln<|bP<|sN<|ay<|Lv (.agg (aA 14 (bO Uy))) (fA uf.aH 0 (ha:=F))<|fB A9 0 (ha:=I) (h1:=(gu _)) fun w23 wz s24 z21 => ?_
  have sF:aP w23 U 14 (bO Uy) 32:=aU wz
  have wU:=uf.bZ s24 (by omega)
  have Ze:=s24.below Qq Qq.size (by omega)
  refine aC (Wr (⟨.agg (aA 14 (bO Uy)),rV Tryz.results38 ⟨_,I,aT sF.aH (by kernel_rfl) (by kernel_rfl)⟩,?_⟩))
  exact⟨Uy,afq,afs,by rw[<- eo]; exact afr,rfl,Ze⟩
 refine Lv aF (fF afk)<|av aF<|aC<|aK<|ay ?_
 by_cases aft:d.kind=6
 ·refine Lv aG (eP aft)<|av aG<|aC<|aM ?_
  obtain⟨W,Xj⟩ : ∃ r,r=x.dst % 6:=⟨_,rfl⟩
  have hr6:W<6:=by rw[Xj]; exact Nat.mod_lt _ (by omega)
  refine Wl<|Lv ((pf G 5)) (iN Y 5)<|Lv (.int .u8 ((x.dst:Int))) (aL lY.aH 5)<|Lv (au x.dst) (dw rfl rfl (by kernel_rfl) Tryz.underlying3 (iA (by omega) rfl))<|Lv (au W) (Fx.tu rfl rfl rfl (by omega) (Cv Xj))<|Lv (au ((W:Int)+1)) eZ<|Lv ((pf A 10)) (iN F 10)<|iQ K 10 (au ((W:Int)+1)) fun w24 wV XM z22 => ?_
  obtain⟨Uz,Xl⟩ : ∃ V:EvM,V=⟨d.o,d.seq,d.deps,d.kind,d.node,(W:Int)+1,d.aX,d.req,d.of⟩:=⟨_,rfl⟩
  have afu:fC Uz:=by rw[Xl]; exact⟨t.o,t.seq,t.deps,t.kind,t.node,(show oL ((W:Int)+1)from⟨by omega,by omega⟩),t.aX,t.req,t.of⟩
  have afv:Uz.o=(o:Int)+1/\Uz.seq=(M.ml o).s.known o+1/\Uz.deps=(M.ml o).s.known:=by rw[Xl]; exact hd0
  have afw:sI Uz:=by rw[Xl]; exact⟨X.aX,X.req⟩
  have sG:aP w24 A 14 (bO Uz) 32:=wV.congr (fun j C=>by rw[Xl]; exact Ua _ _ j C)
  have GN:=lX.bZ XM (by omega)
  have UW:=XM.below J J.size (by omega)
  refine Ln<|bP<|sN<|ay<|Lv (.agg (aA 14 (bO Uz))) (fA sG.aH 0 (ha:=F))<|fB GN 0 (ha:=I) (h1:=(gu _)) fun w25 DW s26 z23 => ?_
  have zP:aP w25 U 14 (bO Uz) 32:=aU DW
  have EP:=sG.bZ s26 (by omega)
  have UY:=s26.below UW UW.size (by omega)
  refine aC (Wr (⟨.agg (aA 14 (bO Uz)),rV Tryz.results38 ⟨_,I,aT zP.aH (by kernel_rfl) (by kernel_rfl)⟩,?_⟩))
  exact⟨Uz,afu,afw,by rw[<- eo]; exact afv,rfl,UY⟩
 refine Lv aF (fF aft)<|av aF<|aC<|aK<|Wk<|bP<|sN<|ay<|Lv (.agg (aA 14 (bO d))) (fA K.aH 0 (ha:=F))<|fB lX 0 (ha:=I) (h1:=(gu _)) fun w26 Bb s27 z24 => ?_
 have yY:aP w26 U 14 (bO d) 32:=aU Bb
 have Jg:=K.bZ s27 (by omega)
 have NZ:=s27.below J J.size (by omega)
 refine aC (Wr (⟨.agg (aA 14 (bO d)),rV Tryz.results38 ⟨_,I,aT yY.aH (by kernel_rfl) (by kernel_rfl)⟩,?_⟩))
 exact⟨d,t,X,by rw[<- eo]; exact hd0,rfl,NZ⟩
theorem Rt.O6{L:gV}{v:EvM}(h:bL L v=0):dh v=true:=by
 unfold bL at h
 split at h; · cases h
 rename_i h1; simpa using h1
structure Rt.DoR(o:Nat)(x:Hy)(M M':WM)(v:EvM):Prop where
 n:M'.n=M.n
 oth : ∀ q,q≠o->M'.ml q=M.ml q
 c:(v=zeroE/\M'.an=M.an/\M'.ev=M.ev/\((M'.ml o).core=(M.ml o).core\/x.meet=true/\(M'.ml o).core=En M.ev M.an (M.ml (x.other % M.n)).s.known (M.ml o).core))\/(x.meet=false/\M'.an=M.an+1/\M'.ev=aJ M.ev M.an v/\bL (M.ml o).core v=0/\(M'.ml o).core=aW (M.ml o).core v/\v.o=(o:Int)+1/\v.seq=(M.ml o).s.known o+1/\v.deps=(M.ml o).s.known)
theorem Rt.O7{L:gV}{v:EvM}(h:bL L v=0):(aW L v).known=aJ L.known (bA v) (L.known (bA v)+1):=by
 rcases zX L v with ⟨_,a⟩|⟨h1,_⟩
 ·exact a
 exact absurd h h1
theorem Rt.J6:fC zeroE:=by
 have z:iD 0:=⟨by decide,by decide⟩
 have y:oL 0:=⟨by decide,by decide⟩
 exact⟨y,z,fun _ _=>z,⟨by decide,by decide⟩,z,y,y,z,z⟩
def UA(p:Nat)(M:WM)(k:Nat):Prop:=k=p\/(Value.slice M.la M.n M.lc).ownBlock=some k\/(Value.slice M.aa M.an M.ac).ownBlock=some k
def Xm(w:World)(p:Nat)(M a:WM):Prop := ∀ k,UA p a k->UA p M k\/w.heap.size<=k
theorem nP.ge{w:World}{B p T:Nat}{M:WM}(h:nP w B p M T) : ∀ k,UA p M k->B<=k/\k<w.heap.size:=fun k b=>by
 rcases b with rfl|e|e
 ·exact⟨h.pB,h.c.lt⟩
 ·exact h.l.ge e
 ·exact h.a.ge e
theorem nP.BD{w w':World}{B p T:Nat}{M:WM}(h:nP w B p M T)(a:B<=w.heap.size)(c:jB (UA p M) w w'):Below B w w':=Fx.jB.below (Below.refl B w) c (fun k b=>(h.ge k b).1) a
theorem nP.AB{w w':World}{B p T:Nat}{M:WM}(h:nP w B p M T)(d:jB (UA p M) w w'):iG [44,72,32] w w':=Fx.iG.PN d fun k b=>by
 rcases b with rfl|e|e
 ·exact⟨_,h.c.ty,by decide⟩
 ·exact⟨_,h.l.ty e,by decide⟩
 ·exact⟨_,h.a.ty e,by decide⟩
theorem Xm.app{w b:World}{p g:Nat}{M a:WM}(i:(Value.slice M.aa M.an M.ac).ownBlock=some g\/g=b.heap.size)(l:w.heap.size<=b.heap.size)(h1:a.la=M.la:=by rfl)(c:a.n=M.n:=by rfl)(d:a.lc=M.lc:=by rfl)(f:(Value.slice a.aa a.an a.ac).ownBlock=some g:=by rfl):Xm w p M a:=fun k j=>by
 rcases j with h|h|h
 ·exact .inl (.inl h)
 ·rw[h1,c,d]at h; exact .inl (.inr (.inl h))
 ·have e:g=k:=Option.some.inj (f.symm.trans h)
  rcases i with h5|h5
  ·exact .inl (.inr (.inr (e ▸ h5)))
  ·exact .inr (by omega)
theorem nP.mono{w:World}{B p T T':Nat}{M:WM}(h:nP w B p M T)(a:T<=T'):nP w B p M T' := { h with inv:=fun i b=>(h.inv i b).mono a }
set_option maxRecDepth 20000 in
set_option maxHeartbeats 2000000 in
theorem afx(M:WM)(B p T:Nat)(x:Hy)(w:World)(d:nP w B p M T)(hB:B<=w.heap.size)(hx:Gg x)(han:M.an<=60)(hT:T<=890000) :
 Calls Tryz.prog 13 #[(pt p),.agg (aA 9 (EY x))] w fun e w' => ∃ v,e = .returned (.agg (aA 14 (bO v)))/\fC v /\ ∃ O,nP w' B p O (T+3660)/\DoR (x.who % M.n) x M O v/\O.an<=M.an+1/\(x.meet=true->O.an=M.an)/\jB (UA p M) w w'/\Xm w p M O:=by
 have hWc:=d.c
 have hWl:=d.l
 have hWa:=d.a
 have hWg:=d.g
 have hn1:=d.n1
 have hn6:=d.n6
 have hpB:=d.pB
 have ZJ:p<w.heap.size:=hWc.lt
 have hxw:=hx.who
 have hxo:=hx.other
 have hxk:=hx.kind
 have hxn:=hx.node
 have hxt:=hx.dst
 have hxa:=hx.aX
 have hxr:=hx.req
 have hxf:=hx.of
 refine Kent Tryz.func13 94 ?_
 refine ay<|pK fun g1 w1 kV m1 s1 z1 => ?_
 have⟨m2,f,m4,m5,m6⟩:=qm s1.old hWc hWl hWa hWg d
 have b1:=(uq (UA p M) w).then s1 (.inr (uq (UA p M) w).size)
 have tL:w.heap.size<=g1:=by rw[kV]; exact(uq (UA p M) w).size
 have mH:=bY kV hWc.lt
 have vR:=m1.lt
 refine wC 14 (fun b=>if b<1 then au 0 else if b<8 then aD 0 else if b<9 then .int .u8 (0)else if b<10 then aD 0 else if b<12 then au 0 else aD 0) fun R w2 ad m7 s2 z2 => ?_
 have⟨m8,m9,m10,m11,m12,m13⟩:=qo s2.old m2 f m4 m5 m6 m1
 have b2:=b1.then s2 (.inr b1.size)
 have qO:=jc ad b1.size
 have aec:=bY ad m2.lt
 have Ey:(.slice M.aa (M.an) (M.ac):Value).ownBlock≠some R:=by rw[ad]; exact m4.jC (Nat.le_refl _)
 have zk:=bY ad m1.lt
 have zJ:=m7.lt
 refine aC<|Ws ?_
 obtain⟨o,Q⟩ : ∃ r,r=x.who % M.n:=⟨_,rfl⟩
 have ho:o<M.n:=by rw[Q]; exact Nat.mod_lt _ (by omega)
 -- region 1 draws
 refine wh<|aR ((pt g1))<|Qv (.int .u8 ((x.who:Int))) (fun D C=>aL (m13.aH.dr C) 0)<|Qv (au x.who) (fun D C=>dw rfl rfl (by kernel_rfl) Tryz.underlying3 (iA (by omega) rfl))<|aR ((pt p))<|aR ((pt p))<|aR ((pt p))<|Qv (.slice M.la (M.n) (M.lc)) (fun D C=>aL (m8.aH.dr C) 0)<|aR (au M.n)<|Qv (au o) (fun D C=>Fx.tu rfl rfl rfl (by omega) (Cv Q))<|aR (au o)<|Qn ?_
 rintro _ ⟨qd,rfl⟩
 obtain⟨BI,qD⟩ : ∃ D,D=World.drewN w2 qd:=⟨_,rfl⟩
 rw[<- qD]
 have s3:Stp w2.heap.size w2 BI:=by rw[qD]; exact Sb (iU w2 qd)
 have⟨m14,m15,m16,m17,m18,Y,m20⟩:=jl s3.old m8 m9 m10 m11 m12 m13 m7
 have Z:=b2.then s3 (.inr b2.size)
 clear qD
 refine sN<|Ws<|ay<|av ((pf g1 1)) ?_
 by_cases H:x.meet=true
 ·refine Lv aG (aL Y.aH 1 ((show _=Value.bool x.meet from rfl).trans (congrArg Value.bool H)))<|aC<|aM<|Ws ?_
  obtain⟨A,abO⟩ : ∃ r,r=x.other % M.n:=⟨_,rfl⟩
  have atF:A<M.n:=by rw[abO]; exact Nat.mod_lt _ (by omega)
  have Xe:=m17 A (by omega)
  have ED:=Xe.c
  have Xf:=m17 o (by omega)
  -- region 3 draws
  refine jo [0,1,2,4,5,6,7,9,12,13,14,16,17,18,20,23,24,25,3,8,10,11,15,19,21,22,26,27,28,29,30,31,32,33,34,35,36,37] [0,0,0,1,0,0,0,0,4,0,0,4,0,0,0,4,0,0,0,4,0,4,0,0,0,0,4,0,0,0,4,0,0,0,4,2,0,3] [(37,3,[3]),(35,8,[11,10,8]),(37,8,[8]),(35,11,[11]),(37,11,[11]),(35,15,[15]),(37,15,[15]),(35,19,[34,33,32,31,30,29,19]),(37,19,[19]),(35,21,[34,33,32,31,30,29,28,22,21]),(37,21,[21]),(35,26,[34,33,32,31,30,29,28,27,26]),(37,26,[26]),(35,30,[34,33,32,31,30]),(37,30,[30]),(35,34,[34]),(37,34,[34]),(36,35,[35]),(37,35,[35])] fun oU dL gU => ?_
  have s4:Stp BI.heap.size BI oU:=Sb dL
  have⟨G,m22,m23,m24,lW,mR,nY,nT⟩:=lu dL m14 m15 m16 m17 Y m20 ED Xf
  have b4:=Z.then s4 (.inr Z.size)
  refine aV ((pt p))<|aV ((pt p))<|aV ((pt p))<|aV (au o)<|aV ((pt p))<|aV ((pt p))<|aV ((pt p))<|aV (au o)<|aV ((pt p))<|aV ((pt p))<|aV ((pf p 1))<|aV ((pt p))<|aV ((pt p))<|aV ((pt p))<|aV ((pf g1 2))<|aV ((pt p))<|aV ((pt p))<|aV ((pt p))<|Rd (v := .slice M.la (M.n) (M.lc)) (by rfl) (by rfl) (sO _) (fun D C=>bC (x:=Nv (.slice M.la (M.n) (M.lc)) (.slice M.aa (M.an) (M.ac))) rfl rfl (by kernel_rfl) (G.aH.below C (by have:=G.lt; omega)) (i:=0) (by omega) (by omega) rfl) ?_
  refine Rs (.slice M.la (M.n) (M.lc)) (aL G.aH 0) ?_
  obtain⟨S,J⟩:=m22.addr (by omega)
  have oF:Fx.Own oU B 72 1 (bI S M.n M.lc) M.n (Gc M.pl):=m22.dU (congrArg (fun q=>Value.slice q M.n M.lc) J)
  refine Rp ((pf S o)) (fun _=>cu 1 (hx:=(rfl.trans (congrArg (fun q=>Value.slice q (M.n) (M.lc)) J))))<|Rs ((pt (M.pl o))) (aL oF.aH o) ?_
  refine Rs (.slice M.aa (M.an) (M.ac)) (aL G.aH 1) ?_
  refine Rs (.slice M.la (M.n) (M.lc)) (aL G.aH 0) ?_
  refine Rs (.int .u8 ((x.other:Int))) (aL lW.aH 2) ?_
  refine Rp (au x.other) (fun D=>dw rfl rfl (by kernel_rfl) Tryz.underlying3 (iA (by omega) rfl))<|Rs (.slice M.la (M.n) (M.lc)) (aL G.aH 0) ?_
  refine aV (au M.n)<|Rp (au A) (fun D=>Fx.tu rfl rfl rfl (by omega) (Cv abO))<|Rp ((pf S A)) (fun _=>cu 1 (hx:=(rfl.trans (congrArg (fun q=>Value.slice q (M.n) (M.lc)) J))))<|Rs ((pt (M.pl A))) (aL oF.aH A) ?_
  refine aV ((pt (M.pl A)))<|aV ((pt (M.pl A)))<|aV ((pf (M.pl A) 12))<|Rs (.agg (aA 6 (rv .u64 ((M.ml A).s.known)))) (fA nY.aH 12 (fun j W=>jD _ (by omega) (iY _ W (by omega)))) ?_
  refine zC<|jM (VN (M.ml o) B (M.pl o) T M.aa M.an M.ac M.ev ((M.ml A).s.known) _ nT (d.inv o (by omega)) m23.arr d.wf d.may d.sm han hT) ?_
  rintro e9 w3 ⟨t,f,E,hlc,hI3,hL1,hb1⟩
  refine⟨(pt t),E,?_⟩
  clear E
  have s5:=Sb hb1
  have⟨nE,lH,m32,nG,pO⟩:=qm hb1 G m23 m24 mR oF
  have b5:=b4.then s5 (.inr b4.size)
  refine Ln ⟨s5.old,?_⟩
  refine Rp ((pf S o)) (fun _=>cu 1 (hx:=(rfl.trans (congrArg (fun q=>Value.slice q (M.n) (M.lc)) J))))<|fQ<|oC pO o ((pt t)) fun w4 qL s6 z3 => ?_
  have gI:=gY s6 pO.Il
  have⟨qM,pQ,qW,lY,qX⟩:=qp gI nE lH m32 nG hL1
  have b6:=b5.then s6 (.inl (.inr (.inl (by rw[J]; rfl))))
  have oZ:Fx.Own w4 B 72 1 (bI S M.n M.lc) M.n (Gc (aJ M.pl o t)):=qL.congr (fun F _=>congrFun TV F)
  refine Ln<|bM<|ay<|av (.agg (aA 14 (fun b=>if b<1 then au 0 else if b<8 then aD 0 else if b<9 then .int .u8 (0)else if b<10 then aD 0 else if b<12 then au 0 else aD 0)))<|fB lY 0 (h1:=(fun F _=>by show((fun b=>if b<1 then au 0 else if b<8 then aD 0 else if b<9 then .int .u8 (0)else if b<10 then aD 0 else if b<12 then au 0 else aD 0:Nat->Value) F).oneCell'=true; simp only[]; repeat (first|rfl|split))) fun w5 mX s7 z4 => ?_
  have rM:aP w5 R 14 (fun b=>if b<1 then au 0 else if b<8 then aD 0 else if b<9 then .int .u8 (0)else if b<10 then aD 0 else if b<12 then au 0 else aD 0) 32:=aU mX
  have jN:=gY s7 lY.ty
  have vU:=kR jN qM
  have qY:=pQ.bZ s7 Ey
  have⟨qZ,rZ,sP⟩:=EK jN qW qX oZ
  have b7:=b6.then s7 (.inr qO)
  refine aC (Wr (sR (⟨.agg (aA 14 (fun b=>if b<1 then au 0 else if b<8 then aD 0 else if b<9 then .int .u8 (0)else if b<10 then aD 0 else if b<12 then au 0 else aD 0)),rV Tryz.results13 ⟨_,rfl,aT rM.aH (by kernel_rfl) (by kernel_rfl)⟩,?_⟩)))
  have wP:Fx.Own w5 B 72 1 (.slice M.la (M.n) (M.lc)) M.n (Gc (aJ M.pl o t)):=sP.dU (congrArg (fun q=>Value.slice q M.n M.lc) J.symm)
  exact⟨zeroE,congrArg (fun z=>Ending.returned (Value.agg z)) (Fx.eH (y:=bO zeroE) fun j W=>by rcases j with _|_|_|_|_|_|_|_|_|_|_|_|_|_|j <;> first|rfl|omega),J6,{ M with pl:=aJ M.pl o t,ml:=aJ M.ml o f },{ c:=vU,l:=wP,a:=qY,g:=qZ.put rZ,inv:=(fun i U=>by show Inv (aJ M.ml o f i).core _; unfold aJ; split; exact hI3; exact(d.inv i U).mono (by omega)),wf:=d.wf,may:=d.may,sm:=d.sm,cz:=d.cz.learn (o:=o) (by omega) (L:=(M.ml o).core) rfl (fun q u=>by show(aJ M.ml o f q).s.known=_; unfold aJ; rw[if_neg u]) (by show(aJ M.ml o f o).s.known=_; unfold aJ; rw[if_pos rfl]; exact congrArg gV.known hlc),pB:=hpB,n1:=hn1,n6:=hn6 },(by rw[<- Q]; exact⟨rfl,fun q u=>by show aJ M.ml o f q=_; unfold aJ; rw[if_neg u],.inl ⟨rfl,rfl,rfl,.inr ⟨H,by rw[<- abO]; show(aJ M.ml o f o).core=_; unfold aJ; rw[if_pos rfl]; exact hlc⟩⟩⟩),(by show M.an<=M.an+1; omega),(fun _=>rfl),b7,fun _ h => .inl h⟩
 rw[Bool.not_eq_true]at H
 refine Lv aF (aL Y.aH 1 ((show _=Value.bool x.meet from rfl).trans (congrArg Value.bool H)))<|aC<|aK<|Wk<|sN<|ay<|av ((pt p))<|Lv (.agg (aA 9 (EY x))) (fA Y.aH 0)<|jM (Xd M B p T x _ m18 hx) ?_
 rintro e9 w6 ⟨V,hV,hVs,hVd,E,hb2⟩
 refine⟨_,E,?_⟩
 clear E
 rw[<- Q]at hVd
 have s8:=Sb hb2
 have⟨sQ,sS,rO,vV,vW,mU⟩:=qo hb2 m14 m15 m16 m17 Y m20
 have b8:=Z.then s8 (.inr Z.size)
 refine wC 14 (fun b=>if b<1 then au 0 else if b<8 then aD 0 else if b<9 then .int .u8 (0)else if b<10 then aD 0 else if b<12 then au 0 else aD 0) fun g3 w7 ae qN s9 z5 => ?_
 have⟨m64,wm,uy,uz,sj,ru⟩:=qo s9.old sQ sS rO vV vW mU
 have b9:=b8.then s9 (.inr b8.size)
 have Dy:=jc ae b8.size
 have anm:=bY ae sQ.lt
 have LY:(.slice M.aa (M.an) (M.ac):Value).ownBlock≠some g3:=by rw[ae]; exact rO.jC (Nat.le_refl _)
 have⟨ano,anp⟩:=wM ae vW.lt mU.lt
 have KQ:=qN.lt
 refine fB qN 0 (h1:=(gu _)) fun w8 sU s10 z6 => ?_
 have sV:aP w8 g3 14 (bO V) 32:=aU sU
 have qy:=gY s10 qN.ty
 have⟨uD,sZ⟩:=Az qy m64 wm
 have yB:=uy.bZ s10 LY
 have⟨uE,wQ⟩:=Az qy uz sj
 have wF:=ru.bZ s10 (by omega)
 have b10:=b9.then s10 (.inr Dy)
 refine aC<|Ws ?_
 have anq:=uE o (by omega)
 -- region 6 draws
 refine jo [0,1,2,4,3,5,6,7,8,9,10,11,12,13] [0,0,0,4,0,0,4,4,3,0,0,0,0,0] [(8,3,[6,5,3]),(8,6,[6]),(8,7,[7]),(9,8,[8]),(10,8,[9,8]),(11,8,[9,8]),(12,8,[8]),(13,8,[8])] fun yP fG lQ => ?_
 have s11:Stp w8.heap.size w8 yP:=Sb fG
 have⟨wR,vX,uT,tN,wo,xW,wu,yR⟩:=lu fG uD sZ yB uE wQ wF sV anq
 have b11:=b10.then s11 (.inr b10.size)
 refine aV ((pt p))<|aV ((pt p))<|aV ((pt p))<|aV (au o)<|Rs (.slice M.la (M.n) (M.lc)) (aL wR.aH 0) ?_
 obtain⟨La,K⟩:=vX.addr (by omega)
 have yC:Fx.Own yP B 72 1 (bI La M.n M.lc) M.n (Gc M.pl):=vX.dU (congrArg (fun q=>Value.slice q M.n M.lc) K)
 refine Rp ((pf La o)) (fun _=>cu 1 (hx:=(rfl.trans (congrArg (fun q=>Value.slice q (M.n) (M.lc)) K))))<|Rs ((pt (M.pl o))) (aL yC.aH o) ?_
 refine Rs (.agg (aA 14 (bO V))) (fA wu.aH 0) ?_
 refine fQ<|jM (G5 (M.ml o) B (M.pl o) T V _ yR hV (d.inv o (by omega)).w (by omega)) ?_
 rintro e9 w9 ⟨t,f,E,hc3,hL2,hb3⟩
 refine⟨.tuple #[(pt t),au (bL (M.ml o).core V)],E,?_⟩
 clear E
 have s12:=Sb hb3
 have⟨xX,xG,xY,yS,Ci,AZ,zN⟩:=jl hb3 wR uT tN wo xW wu yC
 have b12:=b11.then s12 (.inr b11.size)
 refine Ln<|aV (.tuple #[(pt t),au (bL (M.ml o).core V)])<|aV ((pt t))<|aV (au (bL (M.ml o).core V))<|aV ((pt t))<|aV (au (bL (M.ml o).core V))<|bM<|Ws<|ay<|av (au (bL (M.ml o).core V)) ?_
 by_cases I:(bL (M.ml o).core V)=0
 ·refine Lv aF (jJ I)<|aC<|aK<|Wk<|sN<|ay<|av ((pt p))<|av ((pt p))<|av ((pt p))<|Lv (.slice M.la (M.n) (M.lc)) (aL xX.aH 0)<|av (au o)<|av ((pt t))<|Lv ((pf La o)) (cu 1 (hx:=(rfl.trans (congrArg (fun q=>Value.slice q (M.n) (M.lc)) K))))<|oC zN o ((pt t)) fun rJ zO s13 z7 => ?_
  have yQ:=gY s13 zN.Il
  have⟨xL,Ck,A8,CS,DU,vk,wT⟩:=PU yQ xX xG xY yS Ci AZ hL2
  have b13:=b12.then s13 (.inl (.inr (.inl (by rw[K]; rfl))))
  have vo:Fx.Own rJ B 72 1 (bI La M.n M.lc) M.n (Gc (aJ M.pl o t)):=zO.congr (fun F _=>congrFun TV F)
  refine aC<|Ws ?_
  have sw:Fx.Own rJ B 72 1 (.slice M.la (M.n) (M.lc)) M.n (Gc (aJ M.pl o t)):=vo.dU (congrArg (fun q=>Value.slice q M.n M.lc) K.symm)
  -- region 10 draws
  refine Ak [0,1,2,3,4,5,6,7,8,9,10] [0,0,0,0,1,4,2,2,0,0,3] (iG [32]) vP Fx.iG.trans (fu := [(10,4,[4]),(6,5,[5]),(7,5,[6,5]),(10,5,[5]),(7,6,[6]),(8,6,[6]),(9,6,[6]),(10,6,[6]),(8,7,[7]),(9,7,[7]),(10,7,[7])]) (by kernel_rfl) (by kernel_rfl) (by kernel_rfl) (by kernel_rfl) (by kernel_rfl) fun Pb kF zH => ?_
  have AQ:Stp rJ.heap.size rJ Pb:=Sb kF
  have⟨og,nJ,oN,oh,pV,qE,tZ,pW⟩:=lu kF xL Ck A8 CS DU vk wT sw
  have b14:=b13.then AQ (.inr b13.size)
  refine aV ((pt p))<|aV ((pt p))<|aV ((pt p))<|aV ((pf p 1))<|Rd (v := .slice M.aa (M.an) (M.ac)) (by rfl) (by rfl) (vP _) (fun D C=>bC (x:=Nv (.slice M.la (M.n) (M.lc)) (.slice M.aa (M.an) (M.ac))) rfl rfl (by kernel_rfl) (og.jG C (by decide)).aH (i:=1) (by omega) (by omega) rfl) ?_
  refine Rs (.agg (aA 14 (bO V))) (fA qE.aH 0) ?_
  refine zC<|yj (vs := [(0,.agg (aA 14 (bO V)))]) (s:=14) (zc:=fun b=>if b<1 then au 0 else if b<8 then aD 0 else if b<9 then .int .u8 (0)else if b<10 then aD 0 else if b<12 then au 0 else aD 0) (y:=bG (fun j=>(fun b=>if b<1 then au 0 else if b<8 then aD 0 else if b<9 then .int .u8 (0)else if b<10 then aD 0 else if b<12 then au 0 else aD 0) (j % 14)) (0*14) 14 (bO V)) (by rfl) rfl rfl Tryz.underlying42 (by kernel_rfl) (by rfl) (by rfl) (by kernel_rfl) (by rw[bD (off:=0*14) (s:=14) (y:=bO V) rfl (bJ _ _) (by rfl)]; rfl) rfl fun g4 DI af sD s15 z8 => ?_
  have⟨xZ,uf,yc,wz,sF,oO,wU⟩:=jl s15.old og nJ oN pV qE tZ pW
  have b15:=b14.then s15 (.inr b14.size)
  have Uq:=jc af b14.size
  have Vt:=bY af og.lt
  have Vu:(.slice M.aa (M.an) (M.ac):Value).ownBlock≠some g4:=by rw[af]; exact nJ.jC (Nat.le_refl _)
  have⟨ahe,ahf,Vv⟩:=Iq af oh.lt pV.lt qE.lt
  have R3:=sD.lt
  refine Ln ⟨Fx.iG.of_below s15.old,?_⟩
  refine zC<|yI (B:=B) (s:=14) (bytes:=112) (k:=M.an) (m:=1) (v := .slice M.aa (M.an) (M.ac)) (x:=CZ M.ev) (by rfl) rfl rfl rfl Tryz.underlying42 (by kernel_rfl) (by kernel_rfl) rfl rfl uf sD.aH (xM (fun j=>(show(bO V j).oneCell'=true by unfold bO; repeat (first|rfl|split)))) (by omega) (by omega) (by omega) (Nat.le_trans hB b15.size) fun N ab Ch ho1 hg1 tJ hlt1 => ?_
  have xU:=yL hg1 uf
  have⟨sG,Ba⟩:=Az xU xZ yc
  have DW:=wz.grown hg1 Ey
  have ahg:R≠N:=fun e=>tJ.elim (fun P=>Ey (by rw[e]; exact P)) (fun P=>by have:=wz.lt; omega)
  have zP:=sF.grown hg1 LY
  have ahh:g3≠N:=fun e=>tJ.elim (fun P=>LY (by rw[e]; exact P)) (fun P=>by have:=sF.lt; omega)
  have⟨DX,EP⟩:=Az xU oO wU
  have wV:Fx.Own Ch B 32 14 (bI N (M.an+1) ab) (M.an+1) (CZ (aJ M.ev M.an V)):=(ho1.congr (fun j W=>abL j W))
  have b16:jB (UA p M) w Ch:=Fx.jB.grow b15 hg1 (fun q u => .inl (.inr (.inr u)))
  refine Ln ⟨xU,?_⟩
  refine aV ((pt p))<|aV ((pf p 1))<|fQ<|iQ sG 1 (bI N (M.an+1) ab) fun EN Bb s16 z9 => ?_
  have yY:aP EN p 2 (Nv (.slice M.la (M.n) (M.lc)) (bI N (M.an+1) ab)) 44:=Bb.congr (aeR _ _ _)
  have xV:=gY s16 sG.ty
  have⟨GZ,DY,DZ,ER,ES,Bc⟩:=PS xV Ba DW zP DX EP wV
  have b17:=b16.then s16 (.inl (.inl rfl))
  refine Ln<|bM<|ay<|Lv (.agg (aA 14 (bO V))) (fA DZ.aH 0)<|fB DY 0 (h1:=(gu _)) fun Mv D5 H7 z10 => ?_
  have Bd:aP Mv R 14 (bO V) 32:=aU D5
  have zM:=gY H7 DY.ty
  have Ed:=kR zM GZ
  have yZ:=DZ.bZ H7 (by omega)
  have⟨Bf,zQ⟩:=Az zM ER ES
  have GQ:=Bc.UG H7 (by omega)
  have RJ:=kR zM yY
  have b18:=b17.then H7 (.inr qO)
  refine aC (Wr (⟨.agg (aA 14 (bO V)),rV Tryz.results13 ⟨_,rfl,aT Bd.aH (by kernel_rfl) (by kernel_rfl)⟩,?_⟩))
  have hinv:Inv f.core (T+3660):=by rw[hc3]; exact(FT hVs (d.inv o (by omega))).mono (by omega)
  have eRo:bA V=o:=by unfold bA; omega
  have hk3:f.s.known=aJ (M.ml o).s.known o ((M.ml o).s.known o+1):=(congrArg gV.known hc3).trans (by rw[O7 I,eRo]; rfl)
  exact⟨V,rfl,hV,{ M with pl:=aJ M.pl o t,ml:=aJ M.ml o f,an:=M.an+1,aa:=some ⟨N,0,none⟩,ac:=ab,ev:=aJ M.ev M.an V },{ c:=RJ,l:=zQ,a:=GQ,g:=Ed.put Bf,inv:=(fun i U=>by show Inv (aJ M.ml o f i).core _; unfold aJ; split; exact hinv; exact(d.inv i U).mono (by omega)),wf:=(fun k X=>by have hk2:k<M.an+1:=X; show fC (aJ M.ev M.an V k); unfold aJ; split; exact hV; exact d.wf k (by omega)),may:=(fun k X=>by have hk2:k<M.an+1:=X; show dh (aJ M.ev M.an V k)=true; unfold aJ; split; exact O6 I; exact d.may k (by omega)),sm:=(fun k X=>by have hk2:k<M.an+1:=X; show sI (aJ M.ev M.an V k); unfold aJ; split; exact hVs; exact d.sm k (by omega)),cz:=d.cz.event (o:=o) (by omega) (oq I) eRo hVd.2.2 (fun q u=>by show(aJ M.ml o f q).s.known=_; unfold aJ; rw[if_neg u]) (by show(aJ M.ml o f o).s.known=_; unfold aJ; rw[if_pos rfl]; exact hk3),pB:=hpB,n1:=hn1,n6:=hn6 },(by rw[<- Q]; exact⟨rfl,fun q u=>by show aJ M.ml o f q=_; unfold aJ; rw[if_neg u],.inr ⟨H,rfl,rfl,I,by show(aJ M.ml o f o).core=_; unfold aJ; rw[if_pos rfl]; exact hc3,hVd⟩⟩),Nat.le_refl _,(fun u=>by rw[H]at u; cases u),b18,Xm.app tJ b15.size⟩
 refine Lv aG (mE I)<|aC<|aM<|ay<|av (.agg (aA 14 (fun b=>if b<1 then au 0 else if b<8 then aD 0 else if b<9 then .int .u8 (0)else if b<10 then aD 0 else if b<12 then au 0 else aD 0)))<|fB Ci 0 (h1:=(fun F _=>by show((fun b=>if b<1 then au 0 else if b<8 then aD 0 else if b<9 then .int .u8 (0)else if b<10 then aD 0 else if b<12 then au 0 else aD 0:Nat->Value) F).oneCell'=true; simp only[]; repeat (first|rfl|split))) fun Mw R5 Ki z11 => ?_
 have RL:aP Mw R 14 (fun b=>if b<1 then au 0 else if b<8 then aD 0 else if b<9 then .int .u8 (0)else if b<10 then aD 0 else if b<12 then au 0 else aD 0) 32:=aU R5
 have DT:=gY Ki Ci.ty
 have RN:=kR DT xX
 have Z4:=xG.bZ Ki Ey
 have RO:=kR DT xY
 have RP:=AZ.bZ Ki (by omega)
 have Oq:=kR DT zN
 have b19:=b12.then Ki (.inr qO)
 refine aC (Wr (sR (⟨.agg (aA 14 (fun b=>if b<1 then au 0 else if b<8 then aD 0 else if b<9 then .int .u8 (0)else if b<10 then aD 0 else if b<12 then au 0 else aD 0)),rV Tryz.results13 ⟨_,rfl,aT RL.aH (by kernel_rfl) (by kernel_rfl)⟩,?_⟩)))
 have RS:Fx.Own Mw B 72 1 (.slice M.la (M.n) (M.lc)) M.n (Gc M.pl):=Oq.dU (congrArg (fun q=>Value.slice q M.n M.lc) K.symm)
 exact⟨zeroE,congrArg (fun z=>Ending.returned (Value.agg z)) (Fx.eH (y:=bO zeroE) fun j W=>by rcases j with _|_|_|_|_|_|_|_|_|_|_|_|_|_|j <;> first|rfl|omega),J6,M,{ c:=RN,l:=RS,a:=Z4,g:=RO,inv:=fun i U=>(d.inv i U).mono (by omega),wf:=d.wf,may:=d.may,sm:=d.sm,cz:=d.cz,pB:=hpB,n1:=hn1,n6:=hn6 },⟨rfl,fun _ _=>rfl,.inl ⟨rfl,rfl,rfl,.inl rfl⟩⟩,by omega,(fun _=>rfl),b19,fun _ h => .inl h⟩
theorem afy(M:WM)(B p T:Nat)(x:Hy)(w:World)(c:nP w B p M T)(b:B<=w.heap.size)(hx:Gg x)(m:M.an<=60)(l:T<=890000) :
 Calls Tryz.prog 13 #[(pt p),.agg (aA 9 (EY x))] w fun e w' => ∃ v,e = .returned (.agg (aA 14 (bO v)))/\fC v /\ ∃ a,nP w' B p a (T+3660)/\DoR (x.who % M.n) x M a v/\a.an<=M.an+1/\(x.meet=true->a.an=M.an)/\Below B w w' :=
 (afx M B p T x w c b hx m l).mono fun _ _ ⟨v,d,f,a,g,h,i,j,k,_⟩=>⟨v,d,f,a,g,h,i,j,c.BD b k⟩
end Go.Proofs.YtahbiajdgealnaaGreatDoor
namespace Go.Proofs.YtahbiajdgealnaaGreatDoor
open Go.RowKit Go.WideShapes Go.ChangeShapes Go.Deep Rt
def Ud:Value->Bool | .bool b=>b|_=>false
theorem Ic.int{k:IntKind}{v:Value}(h:Ic (some k) v):v = .int k (intOf v)/\(Lit.int k (intOf v)).wf=true:=by
 obtain⟨n,rfl,a⟩:=h; exact⟨rfl,a⟩
theorem Ic.bool{v:Value}(h:Ic none v):v = .bool (Ud v):=by
 obtain⟨b,rfl⟩:=h; rfl
theorem wf_u8{n:Int}(h:(Lit.int .u8 n).wf=true):0<=n/\n<=255:=by simp[Lit.wf,IntKind.min,IntKind.max,IntKind.bits,IntKind.signed]at h; omega
theorem wf_u16{n:Int}(h:(Lit.int .u16 n).wf=true):0<=n/\n<=65535:=by simp[Lit.wf,IntKind.min,IntKind.max,IntKind.bits,IntKind.signed]at h; omega
theorem abP{n:Int}(h:(Lit.int .u8 n).wf=true) : ∃ m:Nat,n=(m:Int)/\m<=255:=by
 have:=wf_u8 h; exact⟨n.toNat,by omega,by omega⟩
theorem Fx.ku.congr{w:World}{a:Option Addr}{n s:Nat}{x y:Nat->Value}(h:Fx.ku w a n s x)(e : ∀ p,p<n*s->x p=y p):Fx.ku w a n s y:=fun f=>by
 obtain⟨b,j,d,g⟩:=h f
 exact⟨b,j,d,fun i c=>by rw[<- e i c]; exact g i c⟩
def Ue:List (Option IntKind) := [some .u8,none,some .u8,some .u8,some .u8,some .u8,some .u16,some .u8,some .u8]
def Uf(X:Nat->Value):Hy:=⟨(intOf (X 0)).toNat,Ud (X 1),(intOf (X 2)).toNat,(intOf (X 3)).toNat,(intOf (X 4)).toNat,(intOf (X 5)).toNat,(intOf (X 6)).toNat,(intOf (X 7)).toNat,(intOf (X 8)).toNat⟩
theorem J7{X:Nat->Value}(h : ∀(j:Nat) (k:Option IntKind),Ue[j]? = some k->Ic k (X j)):Gg (Uf X) /\ ∀ j,j<9->X j=EY (Uf X) j:=by
 have a : ∀ j,Ue[j]? = some (some .u8)->X j = .int .u8 ((intOf (X j)).toNat:Int)/\(intOf (X j)).toNat<=255:=fun j d=>by
  obtain⟨e,b⟩:=(h j _ d).int
  have:=wf_u8 b
  exact⟨by rw[Int.toNat_of_nonneg this.1]; exact e,by omega⟩
 have c:X 6 = .int .u16 ((intOf (X 6)).toNat:Int)/\(intOf (X 6)).toNat<=65535:=by
  obtain⟨e,b⟩:=(h 6 (some .u16) rfl).int
  have:=wf_u16 b
  exact⟨by rw[Int.toNat_of_nonneg this.1]; exact e,by omega⟩
 refine⟨⟨(a 0 rfl).2,(a 2 rfl).2,(a 3 rfl).2,(a 4 rfl).2,(a 5 rfl).2,c.2,(a 7 rfl).2,(a 8 rfl).2⟩,fun j d => ?_⟩
 rcases j with _|_|_|_|_|_|_|_|_|j
 ·exact(a 0 rfl).1
 ·exact(h 1 none rfl).bool
 ·exact(a 2 rfl).1
 ·exact(a 3 rfl).1
 ·exact(a 4 rfl).1
 ·exact(a 5 rfl).1
 ·exact c.1
 ·exact(a 7 rfl).1
 ·exact(a 8 rfl).1
 omega
section
variable {H:Type} {enc:TypeId × Value->H} {P:Program} {w:World}
theorem O8{t e:TypeId}{a:Option Addr}{len cap D:Nat}{d:DataW H}{r:List MemPlace}(q:P.underlying t=some (.slice e))(b:vM P D e=some Ue)(l:P.cellsOf e=9)
 (h:DataW.Trod enc P w 0 (fun _=>true) true t (.slice a len cap) d r) : ∃ g:Nat->Hy,(∀ i,i<len->Gg (g i))/\Fx.ku w a len 9 (Fx.flat 9 fun k=>EY (g k)):=by
 obtain⟨v,n⟩:=h
 obtain⟨s,x,u,f,_,_,X,c,m⟩:=Gb q b l (by decide) n
 simp[Value.cells]at f
 obtain⟨rfl,rfl,rfl⟩:=f
 exact⟨fun i=>Uf (X i),fun i o=>(J7 (c i o)).1,m.congr (Fx.bH fun k b j p=>(J7 (c k b)).2 j p)⟩
end
end Go.Proofs.YtahbiajdgealnaaGreatDoor
namespace Go.Proofs.YtahbiajdgealnaaGreatDoor
open Go.RowKit Go.WideShapes Go.ChangeShapes Go.Deep Rt
def KEV:List (Option IntKind) := [some .i64,some .u64,some .u64,some .u64,some .u64,some .u64,some .u64,some .u64,some .u8,some .u64,some .i64,some .i64,some .u64,some .u64]
def abQ(x:Nat->Value):EvM:=⟨numOf (x 0),numOf (x 1),fun i=>numOf (x (i+2)),numOf (x 8),numOf (x 9),numOf (x 10),numOf (x 11),numOf (x 12),numOf (x 13)⟩
theorem UC{n:Int}(h:(Lit.int .u64 n).wf=true):iD n:=by have:=abH h; unfold iD; omega
theorem bdI{n:Int}(h:(Lit.int .i64 n).wf=true):oL n:=by have:=abI h; unfold oL; omega
theorem NH{x:Nat->Value}(h : ∀(j:Nat) (k:Option IntKind),KEV[j]? = some k->Ic k (x j)):(∀ j,j<14->x j=bO (abQ x) j)/\fC (abQ x):=by
 have o : ∀(j:Nat) (k:IntKind),KEV[j]? = some (some k)->x j = .int k (numOf (x j))/\(Lit.int k (numOf (x j))).wf=true:=fun j k e=>(h j (some k) e).num
 refine⟨fun j b => ?_,?_⟩
 ·rcases j with _|_|_|_|_|_|_|_|_|_|_|_|_|_|j
  ·exact(o 0 .i64 rfl).1
  ·exact(o 1 .u64 rfl).1
  ·exact(o 2 .u64 rfl).1
  ·exact(o 3 .u64 rfl).1
  ·exact(o 4 .u64 rfl).1
  ·exact(o 5 .u64 rfl).1
  ·exact(o 6 .u64 rfl).1
  ·exact(o 7 .u64 rfl).1
  ·exact(o 8 .u8 rfl).1
  ·exact(o 9 .u64 rfl).1
  ·exact(o 10 .i64 rfl).1
  ·exact(o 11 .i64 rfl).1
  ·exact(o 12 .u64 rfl).1
  ·exact(o 13 .u64 rfl).1
  omega
 refine⟨bdI (o 0 .i64 rfl).2,UC (o 1 .u64 rfl).2,fun i a => ?_,Yk (o 8 .u8 rfl).2,UC (o 9 .u64 rfl).2,bdI (o 10 .i64 rfl).2,bdI (o 11 .i64 rfl).2,UC (o 12 .u64 rfl).2,UC (o 13 .u64 rfl).2⟩
 show iD (numOf (x (i+2)))
 rcases i with _|_|_|_|_|_|i
 ·exact UC (o 2 .u64 rfl).2
 ·exact UC (o 3 .u64 rfl).2
 ·exact UC (o 4 .u64 rfl).2
 ·exact UC (o 5 .u64 rfl).2
 ·exact UC (o 6 .u64 rfl).2
 ·exact UC (o 7 .u64 rfl).2
 omega
end Go.Proofs.YtahbiajdgealnaaGreatDoor
namespace Go.Proofs.YtahbiajdgealnaaGreatDoor
open Go.RowKit Rt
open Fx (fD eT fI bC gL gK dw dR fZ iL dZ jg fP jh iV Lv sN Ln Ws Qv Wl Rp Wc Qs Wr Sb Lk Wk rC rV sR Rs Rn Rd Rk Wb Wx Wo Dw Wt qQ JL Qn EI Ao yj yI Ca Dl pG gY yL lZ sO uq vP wB xR Cy Ak rv aA aP bG aQ ev bX Stp dG aU flat dz Mp eX aT gN iF bD down iH jB jU iA ku bH bJ cells_one iG bT wD unseen jr gM bU dH bK bP bV bW fU gJ oQ gG)
set_option maxRecDepth 20000
set_option linter.unusedVariables false
theorem J8(n:Nat)(m:Int)(w:World)(g:m=(n:Int))(h:1<=n)(i:n<=6) :
 Calls Tryz.prog 12 #[au m] w fun e w' => ∃ p M,e = .returned ((pt p))/\M.n=n/\M.an=0/\nP w' w.heap.size p M 0/\Below w.heap.size w w':=by
 subst g; exact(LU n w h i).mono fun _ _ ⟨p,M,a,b,c,_,d,f⟩=>⟨p,M,a,b,c,d,f⟩
theorem LZ{B:Nat}{a b c:World}(h:Below a.heap.size a b)(e:Below B b c)(d:a.heap.size<=B):Below a.heap.size a c:=h.trans (e.mono d)
theorem su.Ke{w w':World}{B p:Nat}{m:jK}{e:List TypeId}(h:su w B p m)(b:Fx.EF e w w')(k:(Jd.all fun T => !e.contains T)=true):su w' B p m:=by
 have a : ∀ d∈Jd,e.contains d=false:=fun d f=>by
  have:=List.all_eq_true.1 k d f
  simpa using this
 exact { h with
  c:=h.c.Ke b (a _ (by decide)),n:=h.n.Ke b (a _ (by decide)),g:=h.g.Ke b (a _ (by decide)),tc:=h.tc.Ke b (a _ (by decide)),t:=h.t.Ke b (a _ (by decide)),r:=⟨fun i j=>(h.r.1 i j).Ke b (a _ (by decide)),h.r.2⟩ }
namespace Rt
def newE(n:Nat):Int:=if 1<=n/\n<=6 then 0 else 1
theorem HY{n:Nat}(h:newE n=0):1<=n/\n<=6:=by
 unfold newE at h
 split at h
 ·assumption
 cases h
theorem Ug{n:Nat}(h : ¬ newE n=0) : ¬ (1<=n/\n<=6):=fun a=>h (if_pos a)
def eF(n:Nat)(a b:Nat->EvM)(q:Nat):EvM:=if q<n then a q else b (q-n)
theorem Xn{n k:Nat}{a b:Nat->EvM}(ha : ∀ q,q<n->fC (a q))(d : ∀ q,q<k->fC (b q)) : ∀ q,q<n+k->fC (eF n a b q):=fun q e=>by
 unfold eF
 by_cases c:q<n
 ·rw[if_pos c]; exact ha q c
 ·rw[if_neg c]; exact d _ (by omega)
theorem Uh{n k:Nat}{a b:Nat->EvM} : ∀ j,j<(n+k)*14->gM (CZ a) (n*14) (CZ b) j=CZ (eF n a b) j:=fun j d=>by
 unfold gM CZ flat eF
 by_cases c:j<n*14
 ·rw[if_pos c]
  show bO (a (j / 14)) (j % 14)=bO (if j / 14<n then a (j / 14)else b (j / 14-n)) (j % 14)
  rw[if_pos (show j / 14<n by omega)]
 ·rw[if_neg c]
  show bO (b ((j-n*14) / 14)) ((j-n*14) % 14)=bO (if j / 14<n then a (j / 14)else b (j / 14-n)) (j % 14)
  rw[if_neg (show ¬ j / 14<n by omega),show(j-n*14) / 14=j / 14-n by omega,show(j-n*14) % 14=j % 14 by omega]
end Rt
theorem J9(n:Nat)(w:World):Calls Tryz.prog 14 #[au ((n:Int))] w fun e w' => ∃ v,e = .returned (.tuple #[v,au (newE n)])/\Below w.heap.size w w':=by
 by_cases c:1<=n/\n<=6
 ·rw[show newE n=0 from if_pos c]
  exact(Yh n c w).mono fun e w' ⟨lp,m,b,_,_,a⟩=>⟨_,b,a⟩
 have f:newE n=1:=if_neg c
 rw[f]
 by_cases d:(n:Int)<1
 ·exact(Wy n d w).mono fun e w' ⟨b,a⟩=>⟨_,b,a⟩
 exact(Wz n (by omega) w).mono fun e w' ⟨b,a⟩=>⟨_,b,a⟩
theorem Xo(m:jK)(p:Nat)(i x:Int)(w:World)(h:Al w p m) :
 Calls Tryz.prog 28 #[(pt p),au i,aD x] w fun e w'=>e = .returned (au (vN m.core x i))/\Below w.heap.size w w':=by
 have j:=h.c
 have lp:p<w.heap.size:=j.lt (by omega)
 have C:=h.bn
 have B:=h.bg
 have D:=h.bt
 refine Kent Tryz.func28 24 ?_
 refine ay<|av (au 0)<|aC<|ay<|av ((pt p))<|av (aD x)<|dA (DN m p x _ h) _ rfl ?_
 intro F t
 have⟨z,d⟩:=eG t j (Below.refl w.heap.size w)
 refine av (au (m.node x))<|aC<|Ws<|ay<|av (au (m.node x)) ?_
 by_cases a:(m.node x)<0
 ·refine Lv aG (gy a)<|aC<|aM<|ay<|av (au 0)<|aC<|Wr<|sR<|aI (au 0) ?_
  exact⟨nD (by unfold vN; rw[if_pos (show m.core.node x<0 from a)]),d⟩
 refine Lv aF (gD a)<|aC<|aK<|Wk<|sN<|Ws ?_
 obtain⟨q,v,r,E⟩:=zS (m:=m) (x:=x) (by omega)
 have f:m.node x=(q:Int):=r
 obtain⟨b,k,o,g⟩:=h.n q v
 have y:b<w.heap.size:=g.lt (by omega)
 have A:=g.below d y
 refine Wl<|av ((pt p))<|av ((pt p))<|av ((pt p))<|av ((pf p 18))<|Lv (.slice m.s.na (m.s.nn) (m.s.nc)) (aL z 18)<|aS (congrArg (Value.int .i64) f)<|Lv ((pf b (k+56*q))) (cu 56 (hx:=(rfl.trans (congrArg (fun q=>Value.slice q (m.s.nn) (m.s.nc)) o))))<|av ((pf b (k+56*q+2)))<|Lv (.agg (aA 54 (rv .i64 (m.R q)))) (fA A 2 (fun q _=>CP _ _ _ q))<|av (au i)<|dA (OA (m.R q) i _) _ rfl ?_
 intro G u
 have l:=aY u d
 refine av (au (dV (m.R q) i))<|aC<|Wr<|aI (au (dV (m.R q) i)) ?_
 exact⟨nD (by unfold vN; rw[if_neg (show ¬ m.core.node x<0 from a),show(m.core.node x).toNat=q by show(m.node x).toNat=q; rw[f]; rfl]; rfl),l⟩
set_option maxRecDepth 20000
set_option linter.unusedVariables false
set_option maxRecDepth 20000 in
set_option maxHeartbeats 2000000 in
theorem L6(A:Nat)(aa0:Option Addr)(K ca:Nat)(xa:Nat->Hy)(oa:Option Addr)(G oc:Nat)(ob:Nat->Nat)(ra:Option Addr)(p rc:Nat)(d:Nat->EvM)(w:World)(hrb:A<=255)(hxa : ∀ k,k<K->Gg (xa k))(afz:ku w aa0 K 9 (flat 9 fun k=>EY (xa k)))(hob : ∀ k,k<G->ob k<=255)(ant:ku w oa G 1 (fun q => .int .u8 (ob q:Int)))(her : ∀ k,k<p->fC (d k))(hraw:ku w ra p 14 (CZ d))(hK:iF w 0 0 8 EX) :
 Calls Tryz.prog 7 #[.int .u8 ((A:Int)),.slice aa0 (K) (ca),.slice oa (G) (oc),.slice ra (p) (rc)] w fun e w'=>e = .returned (.bool true)/\Below w.heap.size w w':=by
 have l0:=hK.lt (by omega)
 refine Kent Tryz.func7 213 ?_
 refine ay<|av aF<|aC<|Ws<|ay<|av (.slice aa0 (K) (ca)) ?_
 by_cases c30:(decide ((K:Int)<=60))=true
 ·refine kg (X4 _ _ _ _) (ax := #[.slice aa0 (K) (ca)]) aG (by rw[c30])<|av aF<|av aF<|av (.slice oa (G) (oc))<|av (au G) ?_
  by_cases c35:100<(G:Int)
  ·refine Lv aG (jY c35)<|av aG<|av aG<|cB<|cB<|cB<|av aG<|aC<|aM<|ay<|dA (iJ _ (hK.below (Below.refl w.heap.size w) l0)) _ rfl ?_
   intro w1 hb1
   have b1:=aY hb1 (Below.refl w.heap.size w)
   refine av aG<|aC<|Wr<|sR<|aI aG ?_
   exact⟨rfl,b1⟩
  refine Lv aF (jZ c35)<|av aF<|av aF<|av (.slice ra (p) (rc))<|av (au p) ?_
  by_cases c40:20<(p:Int)
  ·refine Lv aG (jY c40)<|av aG<|aC<|aM<|ay<|dA (iJ _ (hK.below (Below.refl w.heap.size w) l0)) _ rfl ?_
   intro w2 hb2
   have b2:=aY hb2 (Below.refl w.heap.size w)
   refine av aG<|aC<|Wr<|sR<|aI aG ?_
   exact⟨rfl,b2⟩
  refine Lv aF (jZ c40)<|av aF<|aC<|aK<|Wk<|sN<|Ws ?_
  have hna:=of_decide_eq_true c30
  obtain⟨H,ern⟩ : ∃ r,r=A % 6:=⟨_,rfl⟩
  have hrn:H<6:=by rw[ern]; exact Nat.mod_lt _ (by omega)
  refine Wl<|av (.int .u8 ((A:Int)))<|Lv (au A) (dw rfl rfl (by kernel_rfl) Tryz.underlying3 (iA (by omega) rfl))<|Lv (au H) (Fx.tu rfl rfl rfl (by omega) (Cv ern))<|Lv (au ((H:Int)+1)) eZ<|av (au ((H:Int)+1))<|aC<|ay<|av (au ((H:Int)+1))<|jM (J8 (H+1) _ _ (by omega) (by omega) (by omega)) (ax := #[au ((H:Int)+1)]) ?_
  rintro Q w3 ⟨Z,M0,u,hMn,hMa,hW0,hbw⟩
  refine⟨(pt Z),u,?_⟩
  clear u
  have sB:=(Below.refl w.heap.size w).size
  have b3:=aY hbw (Below.refl w.heap.size w)
  have sW:w.heap.size<=w3.heap.size:=hbw.size
  refine av ((pt Z))<|aC<|Ws<|ay<|av (au 0)<|aC<|Wb<|Wo (fun f I => ∃ k:Nat,∃ b:WM,∃ T9:Nat,k<=K/\T9<=3660*k/\b.n=M0.n/\b.an<=k/\w.heap.size<=I.heap.size/\f 0 = .int .u8 ((A:Int))/\f 1 = .slice aa0 (K) (ca)/\f 2 = .slice oa (G) (oc)/\f 3 = .slice ra (p) (rc)/\f 9=au ((H:Int)+1)/\f 10=(pt Z)/\f 11=au ((k:Int))/\nP I w.heap.size Z b T9/\Below w.heap.size w I) (fun f _=>(K-(intOf (f 11)).toNat)) ⟨0,M0,0,by omega,by omega,rfl,by omega,sW,Fx.ic,(by rfl),(by rfl),(by rfl),Fx.ic,(by rfl),Fx.ic,hW0,b3⟩ ?_
  rintro f1 o ⟨k,b,T9,hk,hTk,anu,atH,sWk,h1,h2,h3,h4,h5,h6,h7,m1,F⟩
  refine Ws<|ay<|aS h7<|aS h2<|av (au K) ?_
  by_cases c52:(k:Int)<(K:Int)
  ·refine Lv aG (gy c52)<|aC<|aM<|Wk<|sN<|Ws<|Wb<|Wl<|aS h6<|aS h2<|aS h7 ?_
   obtain⟨bq1,oq1,eq1,m2⟩:=(afz.up F rfl) (by omega)
   have aed:bq1<o.heap.size:=m2.lt (by omega)
   refine Lv ((pf bq1 (9*k+oq1))) (cu 9 (hx:=(rfl.trans (congrArg (fun q=>Value.slice q (K) (ca)) eq1))))<|Lv (.agg (aA 9 (EY (xa k)))) (fA m2 (9*k) (fun jq hjq=>Fx.iT (k:=k) (by omega) hjq))<|jM (afy b w.heap.size Z T9 (xa k) _ m1 sWk (hxa k (by omega)) (by omega) (by omega)) ?_
   rintro Q w5 ⟨v9,u,hv9,M2,hW1,hM2,atJ,atK,hb3⟩
   refine⟨_,u,?_⟩
   clear u
   have anv:=hM2.n
   have b5:Below w.heap.size w w5:=LZ F hb3 sB
   have sW1:w.heap.size<=w5.heap.size:=by have:=hb3.size; omega
   have sWn:w.heap.size<=w5.heap.size:=by have:=hb3.size; omega
   refine Ln<|bP<|sN<|Wl<|aS h7<|Lv (au ((k:Int)+1)) eZ<|av (au ((k:Int)+1))<|Ln<|gJ ⟨k+1,M2,(T9+3660),by omega,by omega,(anv.trans anu),by omega,sWn,(h1.trans Fx.ic),h2,h3,h4,(h5.trans Fx.ic),h6,Fx.ic,hW1,b5⟩ ?_
   show(K-(intOf ((au ((k:Int)+1)))).toNat)<_
   simp only[h7,intOf]; omega
  refine Lv aF (gD c52)<|aC<|aK<|Wx<|bV<|fU<|bW<|sN<|Ws ?_
  have hWc:=m1.c
  have hWa:=m1.a
  have anw:=m1.wf
  have atN:=m1.may
  have hcz:=m1.cz
  have hWw:=m1
  have haA:ku o b.aa b.an 14 (CZ b.ev):=hWa.arr
  have lpw:Z<o.heap.size:=hWc.lt
  have afA:=ant.up F rfl
  have afB:=hraw.up F rfl
  have W:0<o.heap.size:=by omega
  have U:iF o 0 0 8 EX:=hK.below F l0
  have hB:1<=o.heap.size:=by omega
  have hEA:=Xn anw her
  have atP:b.an<=60:=by omega
  have apJ:p<=20:=by omega
  refine Wl<|Fx.L.Gq (s:=14) (by rfl) rfl Tryz.underlying42 (by kernel_rfl) rfl fun g1 w6 kV ZI s4 => ?_
  have m3:Fx.Own w6 o.heap.size 32 14 (bI g1 0 0) 0 (CZ b.ev):=ZI _ _ (by rw[kV]; exact(Below.refl o.heap.size o).size)
  have m4:=aY s4.old hWc
  have b6:=s4.below (Below.refl o.heap.size o) (Below.refl o.heap.size o).size (Below.refl o.heap.size o).size
  refine aS h6<|av ((pt Z))<|av ((pf Z 1))<|Lv (.slice b.aa (b.an) (b.ac)) (aL m4.aH 1)<|Fx.L.Au (B:=o.heap.size) (s:=14) (bytes:=112) (k:=0) (m:=b.an) (v:=bI g1 0 0) (x:=CZ b.ev) (by rfl) rfl rfl rfl Tryz.underlying42 (by kernel_rfl) (by kernel_rfl) rfl rfl m3 (haA.up b6 rfl) (fun j _=>by unfold CZ flat; exact gu _ _ (Nat.mod_lt _ (by decide))) (by omega) (by omega) b6.size fun vv1 w7 ho1 hg1 tJ => ?_
  rw[Nat.zero_add]at ho1
  obtain⟨a1,Gx,rfl⟩:=ho1.val
  have m5:Fx.Own w7 o.heap.size 32 14 (.slice a1 (b.an) (Gx)) b.an (CZ b.ev):=(ho1.congr (fun j _=>app0 j))
  have b7:Below o.heap.size o w7:=xR b6 hg1 b6.size (fun q hq=>(m3.ge hq).1)
  refine aS h4<|Fx.L.Au (B:=o.heap.size) (s:=14) (bytes:=112) (k:=b.an) (m:=p) (v := .slice a1 (b.an) (Gx)) (x:=CZ b.ev) (by rfl) rfl rfl rfl Tryz.underlying42 (by kernel_rfl) (by kernel_rfl) rfl rfl m5 (afB.up b7 rfl) (fun j _=>by unfold CZ flat; exact gu _ _ (Nat.mod_lt _ (by decide))) (by omega) (by omega) b7.size fun vv2 w8 ho2 hg2 Jc => ?_
  rw[show b.an+p=(b.an+p) by omega]at ho2
  obtain⟨a2,N,rfl⟩:=ho2.val
  have m7:Fx.Own w8 o.heap.size 32 14 (.slice a2 ((b.an+p)) (N)) (b.an+p) (CZ (eF b.an b.ev d)):=(ho2.congr Uh)
  have b8:Below o.heap.size o w8:=xR b7 hg2 b7.size (fun q hq=>(m5.ge hq).1)
  refine av (.slice a2 ((b.an+p)) (N))<|aC<|ay<|aS h5<|jM (xQ (Yn (H+1) (by omega) _) (congrArg (fun z => #[Value.int .i64 z]) (by omega))) (ax := #[au ((H:Int)+1)]) ?_
  rintro Q w9 ⟨lp,m0,u,hl1,hb4⟩
  refine⟨_,u,?_⟩
  clear u
  have hl2:=hl1.weak b8.size
  have⟨m10,b9⟩:=eG hb4 m7 b8
  refine av (.tuple #[(pt lp),au 0])<|av ((pt lp))<|av (au 0)<|av ((pt lp))<|av (au 0)<|aC<|ay<|aS h5<|jM (xQ (X0 (H+1) _ (by omega) (by omega)) (congrArg (fun z => #[Value.int .i64 z]) (by omega))) (ax := #[au ((H:Int)+1)]) ?_
  rintro Q rJ ⟨pd0,tb0,u,atQ,_,hb5,hc1,ht1,atS⟩
  refine⟨_,u,?_⟩
  clear u
  have hlo1:su rJ o.heap.size pd0 (jR (H+1) tb0):=Nw hc1 ht1 (by have:=b9.size; omega) (by have:=b9.size; omega)
  have⟨m12,m13,b10⟩:=jk hb5 m10 hl2 b9
  refine av (.tuple #[(pt pd0),au 0])<|av ((pt pd0))<|av (au 0)<|av ((pt pd0))<|av (au 0)<|aC<|Ws<|ay<|av (au 0)<|Lv aF (jJ rfl)<|av aF<|av ((pt lp))<|Lv aF (Fx.nQ rfl rfl rfl (by kernel_rfl))<|av aF<|aC<|aK<|Wk<|sN<|Ws<|ay<|av (au 0)<|aC<|Wb<|Wo (fun f I => ∃ h:Nat,∃ mq:dY,∃ l:gV,∃ T:Nat,∃ pd:Nat,∃ R:jK,h<=G/\T=h/\R.core=l/\f 0 = .int .u8 ((A:Int))/\f 2 = .slice oa (G) (oc)/\f 12 = .slice a2 ((b.an+p)) (N)/\f 13=(pt lp)/\f 15=(pt pd)/\f 17=au ((h:Int))/\Fx.Own I o.heap.size 32 14 (.slice a2 ((b.an+p)) (N)) (b.an+p) (CZ (eF b.an b.ev d))/\Am I o.heap.size lp mq l T/\su I o.heap.size pd R/\Below o.heap.size o I) (fun f _=>(G-(intOf (f 17)).toNat)) ⟨0,m0,(jR (H+1) 0).core,0,pd0,(jR (H+1) tb0),by omega,rfl,rfl,(h1.trans Fx.ic),h3,(by rfl),(by rfl),(by rfl),Fx.ic,m12,m13,hlo1,b10⟩ ?_
  rintro f2 DI ⟨h,mq,l,T,pd,R,hix,hN9,hmd,O,h9,h10,h11,h12,KO,m14,m15,m16,b11⟩
  refine Ws<|ay<|aS KO<|aS h9<|av (au G) ?_
  by_cases c88:(h:Int)<(G:Int)
  ·refine Lv aG (gy c88)<|av aG<|aS h10<|av (au (((b.an+p):Nat):Int)) ?_
   by_cases c92:0<(((b.an+p):Nat):Int)
   ·refine Lv aG (jY c92)<|av aG<|aC<|aM<|Wk<|sN<|Ws<|Wb<|Ws ?_
    have XT:=hob h (by omega)
    obtain⟨j,ej⟩ : ∃ r,r=ob h % (b.an+p):=⟨_,rfl⟩
    have hj:j<(b.an+p):=by rw[ej]; exact Nat.mod_lt _ (by omega)
    refine Wl<|aS h10<|aS h9<|aS KO ?_
    obtain⟨bq2,oq2,ET,afD⟩:=afA (by omega)
    have afE:bq2<o.heap.size:=afD.lt (by omega)
    have m17:=afD.below b11 afE
    have amF:bq2<DI.heap.size:=m17.lt (by omega)
    refine Lv ((pf bq2 (h+oq2))) (cu 1 (hx:=(rfl.trans (congrArg (fun q=>Value.slice q (G) (oc)) ET))))<|Lv (.int .u8 ((ob h:Int))) (aL m17 h)<|Lv (au (ob h:Int)) (dw rfl rfl (by kernel_rfl) Tryz.underlying3 (iA (by omega) rfl))<|aS h10<|av (au (((b.an+p):Nat):Int))<|Lv (au j) (Fx.tu rfl rfl rfl (by omega) (by rw[show(((b.an+p):Nat):Int)=((b.an+p:Nat):Int) by omega]; exact Cv ej)) ?_
    obtain⟨BK,Ur⟩:=m14.addr (by omega)
    have m18:Fx.Own DI o.heap.size 32 14 (bI BK (b.an+p) N) (b.an+p) (CZ (eF b.an b.ev d)):=m14.dU (congrArg (fun q=>Value.slice q (b.an+p) N) Ur)
    refine Lv ((pf BK (14*j))) (cu 14 (hx:=(rfl.trans (congrArg (fun q=>Value.slice q ((b.an+p)) (N)) Ur))))<|Lv (.agg (aA 14 (bO ((eF b.an b.ev d) j)))) (fA m18.aH (14*j) (fun jq hjq=>Fx.iT (k:=j) (by omega) hjq))<|wC 14 (fun zq=>if zq<1 then au 0 else if zq<8 then aD 0 else if zq<9 then .int .u8 (0)else if zq<10 then aD 0 else if zq<12 then au 0 else aD 0) fun g2 Ch xH m19 s7 z1 => ?_
    have⟨m20,m21,m22,m23,b12⟩:=qm s7.old m15 m16 m17 m18 b11
    have qO:o.heap.size<=g2:=by rw[xH]; exact b11.size
    have aaY:bq2≠g2:=by rw[xH]; exact Nat.ne_of_lt (m17.lt (by omega))
    have aaZ:=bY xH m18.lt
    have zJ:=m19.lt
    refine fB m19 0 (h1:=(gu _)) fun EN m24 s8 z2 => ?_
    have lW:aP EN g2 14 (bO ((eF b.an b.ev d) j)) 32:=aU m24
    have qy:=gY s8 m19.ty
    have⟨mR,nY⟩:=Az qy m20 m21
    have nT:=m22.bZ s8 (by omega)
    have oF:=m23.UG s8 (by omega)
    have b13:=s8.below b12 b12.size (by omega)
    refine aC<|Ws ?_
    have hI9:=mR.i
    refine Wl<|aS h11<|Lv (.agg (aA 14 (bO ((eF b.an b.ev d) j)))) (fA lW.aH 0)<|dA (Nz (v:=(eF b.an b.ev d j)) mR (hEA j hj) hB (U.below b13 W) (fun _ _=>rfl)) _ rfl ?_
    intro Mv hb6
    have⟨nE,lH,oI,nG,b14⟩:=qm hb6 mR nY oF lW b13
    refine av (au (bL l (eF b.an b.ev d j)))<|aC<|ay<|aS h11<|Lv (.agg (aA 14 (bO ((eF b.an b.ev d) j)))) (fA nG.aH 0)<|dA (Dc (v:=(eF b.an b.ev d j)) nE (hEA j hj) hB (U.below b14 W) (fun _ _=>rfl)) _ rfl ?_
    rintro Mw ⟨hq1,hc2⟩
    have abR:=nE.q.typed hc2
    have anz:=nE.q.BD hc2 b14.size
    have b15:=WV b14 anz (Nat.le_refl _)
    have oJ:=lH.Ke abR (by decide)
    have pO:=oI.Ke abR (by decide)
    have qL:=nG.Ke abR (by decide)
    have atU:=qL.lt
    refine av (au (bL l (eF b.an b.ev d j)))<|aC<|ay<|aS h12<|Lv (.agg (aA 14 (bO ((eF b.an b.ev d) j)))) (fA qL.aH 0)<|jM (G5 R o.heap.size pd T (eF b.an b.ev d j) _ oJ (hEA j hj) (by rw[hmd]; exact hI9.w) (by omega)) ?_
    rintro Q w16 ⟨C,g,u,anA,hlo2,hb7⟩
    refine⟨_,u,?_⟩
    clear u
    have⟨qM,qW,b16⟩:=jk hb7 pO hq1 b15
    have V:g.core=aW l (eF b.an b.ev d j):=by rw[anA,hmd]
    refine av (.tuple #[(pt C),au (bL R.core (eF b.an b.ev d j))])<|av ((pt C))<|av (au (bL R.core (eF b.an b.ev d j)))<|av ((pt C))<|av (au (bL R.core (eF b.an b.ev d j)))<|aC<|ay<|av ((pt C))<|av ((pt C))<|aC<|Ws<|Ws ?_
    have anB:=hlo2.c
    have hwf:=qW.wf (show T+1<=900000 by omega)
    -- region 22 draws
    refine jo [0,1,2,3,4,5,6,7,8,9,11,12,13,14,15,10,16,17,18,19,21,22,23,24,20,25,26,27] [0,0,0,0,0,0,0,0,0,0,2,0,0,0,0,1,0,0,0,0,2,0,0,0,1,2,0,0] [(16,10,[10]),(17,10,[16,10]),(18,10,[10]),(19,10,[18,10]),(21,10,[18,10]),(22,10,[18,10]),(23,10,[18,10]),(24,10,[18,10]),(20,10,[18,10]),(25,10,[18,10]),(26,10,[18,10]),(27,10,[18,10]),(25,20,[20]),(26,20,[25,20]),(27,20,[26,25,20]),(26,25,[25]),(27,25,[26,25])] fun oU dL gU => ?_
    have⟨mW,lX,qX,oZ,b17⟩:=qm dL qM qW hlo2 anB b16
    refine aV (au (bL l (eF b.an b.ev d j)))<|aV (au (bL R.core (eF b.an b.ev d j)))<|Rp aF (fun v1=>Fx.Ap rfl rfl rfl (by rw[hmd]))<|aV aF<|aV (au (bL l (eF b.an b.ev d j)))<|aV (au (bL R.core (eF b.an b.ev d j)))<|Rp aF (fun v1=>Fx.Ap rfl rfl rfl (by rw[hmd]))<|aV aF<|aV aF<|bQ h11<|aV ((pt C))<|aV ((pt C))<|aV ((pt C))<|aV ((pf C 12))<|Rd (v := .agg (aA 6 (rv .u64 g.s.known))) (by rfl) (by rfl) (sO _) (fun v1 hv1=>dZ (x:=kJ g) (y:=rv .u64 g.s.known) rfl rfl (by kernel_rfl) (by kernel_rfl) (oZ.aH.below hv1 (by have:=oZ.lt; omega)) (i:=12) (by omega) (by omega) (fun j hj=>jD _ (by omega) (iY _ hj (by omega)))) ?_
    refine zC<|dA (WW lX) _ rfl ?_
    intro Qy hb8
    have s12:=Sb hb8
    have⟨mX,vU,qY,qZ,b18⟩:=qm hb8 mW lX qX oZ b17
    refine Ln ⟨s12.old,?_⟩
    refine Rp aF (fun v1=>Fx.Aq (n:=6) (ks:=List.replicate 6 (some .u64)) (X:=rv .u64 ((aW l (eF b.an b.ev d j)).known)) (Y:=rv .u64 g.s.known) 12 true rfl rfl rfl (Fx.EJ (fun j _=>by rw[<- V]; rfl)) (Fx.Dm fun i hi=>TT (hwf.k i hi)) (Fx.Dm fun i hi=>TT (by have q9:=hwf.k i hi; rw[<- V]at q9; exact q9)) rfl (by kernel_rfl) (by kernel_rfl) (by kernel_rfl) (by kernel_rfl) (by kernel_rfl))<|aV aF<|aV aF<|bQ h11<|aV ((pt C))<|aV ((pt C))<|aV ((pt C))<|Rd (v := .agg (aA 20 (nH g.s))) (by rfl) (by rfl) (sO _) (fun v1 hv1=>dZ (x:=kJ g) (y:=nH g.s) rfl rfl (by kernel_rfl) (by kernel_rfl) (qZ.aH.below hv1 (by have:=qZ.lt; omega)) (i:=0) (by omega) (by omega) (fun jq hjq=>(show kJ _ (0+jq)=nH _ jq by rw[Nat.zero_add]; exact jD _ hjq rfl))) ?_
    refine zC<|jM (NA vU (by omega)) ?_
    rintro Q Qz ⟨ss1,u,anC,XT⟩
    refine⟨_,u,?_⟩
    clear u
    have s13:=Sb XT
    have⟨uw,rZ,sP,b19⟩:=mF XT mX vU qY b18
    refine Ln ⟨s13.old,?_⟩
    refine zC<|dA (WU anC.r (V ▸ Nu.ldg sP.ldg) (rZ.wf (by omega))) _ rfl ?_
    intro XO U0
    have AQ:=Sb U0
    have⟨sQ,rO,vV,b20⟩:=mF U0 uw rZ sP b19
    refine Ln ⟨AQ.old,?_⟩
    refine aV aF<|aV aF<|bM<|aK<|Wk<|sN<|ay<|av ((pt C))<|aS KO<|dA (Rw g C h _ vV.ldg (by omega)) _ rfl ?_
    intro Mx Zk
    have⟨mU,qN,m64,KP⟩:=mF Zk sQ rO vV b20
    refine av (aD (fJ g h))<|aC<|ay<|aS h11<|av (aD (fJ g h))<|jM (abN qN (fJ g h)) ?_
    rintro Q Um ⟨pa,S,u,anD,Zl⟩
    refine⟨_,u,?_⟩
    clear u
    have⟨uy,uz,sj,Kg⟩:=mF Zl mU qN m64 KP
    refine av (.slice pa ((dn (aW l (eF b.an b.ev d j)).t (aW l (eF b.an b.ev d j)).tn (fJ g h))) (S))<|aC<|Ws ?_
    obtain⟨D,hD2,hD⟩:=(by rw[V]; exact uz.i.w:VE g.core (T+1)).dx (fJ g h)
    have VO:=sj.c
    refine Wl<|av ((pt C))<|av ((pt C))<|av ((pf C 20))<|Lv ((pt g.tb)) (aL VO.aH 20)<|av (aD (fJ g h))<|jM (DR g.tb g.ta g.tn g.tc g.t (fJ g h) D _ (pU sj.tc sj.t sj.bt) hD hD2) ?_
    rintro Q w22 ⟨E,vd,u,afF,nZ,hK1,Zm⟩
    obtain⟨da,P,rfl⟩:=afF.val
    refine⟨_,u,?_⟩
    clear u
    have OD:=qF nZ hK1 hD hD2
    have⟨sU,sV,uD,sZ,Qp⟩:=qm Zm uy uz sj anD Kg
    refine av (.slice da (E) (P))<|aC<|Ws<|Ws ?_
    obtain⟨r6,Xj⟩ : ∃ r,r=h % 6:=⟨_,rfl⟩
    have hr6:r6<6:=by rw[Xj]; exact Nat.mod_lt _ (by omega)
    have hKD:E<=1000:=by rw[OD]; exact CU _ _
    have eKK:E=dn (aW l (eF b.an b.ev d j)).t (aW l (eF b.an b.ev d j)).tn (fJ g h):=by rw[OD,<- V]; rfl
    refine Wl<|av (.slice pa ((dn (aW l (eF b.an b.ev d j)).t (aW l (eF b.an b.ev d j)).tn (fJ g h))) (S))<|av (au (((dn (aW l (eF b.an b.ev d j)).t (aW l (eF b.an b.ev d j)).tn (fJ g h)):Nat):Int))<|av (.slice da (E) (P))<|av (au E)<|Lv aF (Fx.Ap rfl rfl rfl (by rw[eKK]))<|av aF<|aS h11<|aS KO<|Lv (au r6) (Fx.tu rfl rfl rfl (by omega) (Cv Xj))<|Lv (au ((r6:Int)+1)) eZ<|av (aD (fJ g h))<|dA (Hw sV ((r6:Int)+1) (fJ g h) (by omega)) _ rfl ?_
    intro w23 anE
    have⟨uE,wQ,wF,wR,vX,Qq⟩:=qo anE sU sV uD sZ afF Qp
    refine av ((pt C))<|aS KO<|Lv (au r6) (Fx.tu rfl rfl rfl (by omega) (Cv Xj))<|Lv (au ((r6:Int)+1)) eZ<|av (aD (fJ g h))<|dA (Xo g C ((r6:Int)+1) (fJ g h) _ wF.ldg) _ rfl ?_
    intro w24 anF
    have⟨uT,tN,wo,xW,wu,Ze⟩:=qo anF uE wQ wF wR vX Qq
    refine Lv aF (Fx.Ap rfl rfl rfl (by rw[V]))<|av aF<|aC<|aK<|Wk<|sN<|ay<|av (au 0)<|aC<|Wb ?_
    have yR:Fx.Own w24 o.heap.size 32 14 (.slice a2 ((b.an+p)) (N)) (b.an+p) (CZ (eF b.an b.ev d)):=uT.dU (congrArg (fun q=>Value.slice q (b.an+p) N) Ur.symm)
    refine Wo (fun f I => ∃ J:Nat,J<=E/\f 0 = .int .u8 ((A:Int))/\f 2 = .slice oa (G) (oc)/\f 12 = .slice a2 ((b.an+p)) (N)/\f 13=(pt lp)/\f 15=(pt C)/\f 17=au ((h:Int))/\f 24 = .slice pa ((dn (aW l (eF b.an b.ev d j)).t (aW l (eF b.an b.ev d j)).tn (fJ g h))) (S)/\f 25 = .slice da (E) (P)/\f 26=au ((J:Int))/\Fx.Own I o.heap.size 32 14 (.slice a2 ((b.an+p)) (N)) (b.an+p) (CZ (eF b.an b.ev d))/\Am I o.heap.size lp (kP mq (eF b.an b.ev d j)) (aW l (eF b.an b.ev d j)) (T+1)/\su I o.heap.size C g/\Fx.Own I Mx.heap.size 28 1 (.slice pa ((dn (aW l (eF b.an b.ev d j)).t (aW l (eF b.an b.ev d j)).tn (fJ g h))) (S)) (dn (aW l (eF b.an b.ev d j)).t (aW l (eF b.an b.ev d j)).tn (fJ g h)) (lsP (aW l (eF b.an b.ev d j)) (fJ g h))/\Fx.Own I Um.heap.size 28 1 (.slice da (E) (P)) E (rv .u64 (fun i=>bf g.t g.tn i (fJ g h)))/\Below o.heap.size o I) (fun f _=>(E-(intOf (f 26)).toNat)) ⟨0,by omega,(O.trans Fx.ic),h9,h10,h11,(by rfl),(KO.trans Fx.ic),(by rfl),(by rfl),Fx.ic,yR,tN,wo,xW,wu,Ze⟩ ?_
    rintro f3 w25 ⟨J,hkp,Pf,Ul,h16,Pg,h18,h19,h20,h21,h22,yC,xX,xG,xY,yS,UW⟩
    refine Ws<|ay<|aS h22<|aS h20<|av (au (((dn (aW l (eF b.an b.ev d j)).t (aW l (eF b.an b.ev d j)).tn (fJ g h)):Nat):Int)) ?_
    by_cases c183:(J:Int)<(((dn (aW l (eF b.an b.ev d j)).t (aW l (eF b.an b.ev d j)).tn (fJ g h)):Nat):Int)
    ·refine Lv aG (gy c183)<|aC<|aM<|Wk<|sN<|Ws<|Wb<|Ws ?_
     -- region 32 draws
     refine jo [0,1,2,4,5,6,3,7,8] [0,0,0,4,0,0,0,4,0] [] fun yP fG lQ => ?_
     have⟨Ci,AZ,zN,zO,xL,UY⟩:=qo fG yC xX xG xY yS UW
     refine bQ h20<|bQ h22 ?_
     obtain⟨La,VA⟩:=zO.addr (by omega)
     have Ck:Fx.Own yP Mx.heap.size 28 1 (.slice (some ⟨La,0,none⟩) (dn (aW l (eF b.an b.ev d j)).t (aW l (eF b.an b.ev d j)).tn (fJ g h)) S) (dn (aW l (eF b.an b.ev d j)).t (aW l (eF b.an b.ev d j)).tn (fJ g h)) (lsP (aW l (eF b.an b.ev d j)) (fJ g h)):=zO.dU (congrArg (fun q=>Value.slice q (dn (aW l (eF b.an b.ev d j)).t (aW l (eF b.an b.ev d j)).tn (fJ g h)) S) VA)
     refine Rp ((pf La J)) (fun _=>cu 1 (hx:=(rfl.trans (congrArg (fun q=>Value.slice q ((dn (aW l (eF b.an b.ev d j)).t (aW l (eF b.an b.ev d j)).tn (fJ g h))) (S)) VA))))<|bQ h21<|bQ h22 ?_
     obtain⟨gq3,eq5⟩:=xL.addr (by omega)
     have A8:Fx.Own yP Um.heap.size 28 1 (bI gq3 E P) E (rv .u64 (fun i=>bf g.t g.tn i (fJ g h))):=xL.dU (congrArg (fun q=>Value.slice q E P) eq5)
     refine Rp ((pf gq3 J)) (fun _=>cu 1 (hx:=(rfl.trans (congrArg (fun q=>Value.slice q (E) (P)) eq5))))<|Rs (aD (bf (aW l (eF b.an b.ev d j)).t (aW l (eF b.an b.ev d j)).tn J (fJ g h))) (aL Ck.aH J) ?_
     refine Rs (aD (bf g.t g.tn J (fJ g h))) (aL A8.aH J) ?_
     refine Rp aF (fun v1=>Fx.Ap rfl rfl rfl (by rw[<- V]; rfl))<|bM<|aK<|Wk<|bP<|sN<|Wl<|aS h22<|Lv (au ((J:Int)+1)) eZ<|av (au ((J:Int)+1))<|Ln ?_
     have CS:Fx.Own yP Mx.heap.size 28 1 (.slice pa ((dn (aW l (eF b.an b.ev d j)).t (aW l (eF b.an b.ev d j)).tn (fJ g h))) (S)) (dn (aW l (eF b.an b.ev d j)).t (aW l (eF b.an b.ev d j)).tn (fJ g h)) (lsP (aW l (eF b.an b.ev d j)) (fJ g h)):=Ck.dU (congrArg (fun q=>Value.slice q (dn (aW l (eF b.an b.ev d j)).t (aW l (eF b.an b.ev d j)).tn (fJ g h)) S) VA.symm)
     have DU:Fx.Own yP Um.heap.size 28 1 (.slice da (E) (P)) E (rv .u64 (fun i=>bf g.t g.tn i (fJ g h))):=A8.dU (congrArg (fun q=>Value.slice q E P) eq5.symm)
     refine gJ ⟨J+1,by omega,(Pf.trans Fx.ic),Ul,h16,Pg,h18,(h19.trans Fx.ic),h20,h21,Fx.ic,Ci,AZ,zN,CS,DU,UY⟩ ?_
     show(E-(intOf ((au ((J:Int)+1)))).toNat)<_
     simp only[h22,intOf]; omega
    refine Lv aF (gD c183)<|aC<|aK<|Wx<|bV<|fU<|bW<|bP<|sN<|Wl<|aS h19<|Lv (au ((h:Int)+1)) eZ<|av (au ((h:Int)+1))<|Ln<|gJ ⟨h+1,kP mq (eF b.an b.ev d j),aW l (eF b.an b.ev d j),T+1,C,g,by omega,by omega,V,(Pf.trans Fx.ic),Ul,h16,Pg,h18,Fx.ic,yC,xX,xG,UW⟩ ?_
    show(G-(intOf ((au ((h:Int)+1)))).toNat)<_
    simp only[KO,intOf]; omega
   refine Lv aF (jZ c92)<|av aF<|aC<|aK<|Wx<|bV<|fU<|bW<|sN<|ay<|aS O<|Lv (au A) (dw rfl rfl (by kernel_rfl) Tryz.underlying3 (iA (by omega) rfl))<|jM (J9 A _) ?_
   rintro Q w26 ⟨vn,u,anG⟩
   refine⟨_,u,?_⟩
   clear u
   have NZ:=aY anG b11
   refine av (.tuple #[vn,au (newE A)])<|av (vn)<|av (au (newE A))<|av (vn)<|av (au (newE A))<|aC<|ay<|av (au (newE A)) ?_
   by_cases M:(newE A)=0
   ·refine Lv aG (eP M)<|aS O<|Lv aG (Fx.Kq rfl rfl rfl (by have:=HY M; omega))<|av aG<|aS O<|Lv aG (Fx.Ko rfl rfl rfl (by have:=HY M; omega))<|av aG<|Lv aG (Fx.Ar rfl rfl rfl (by kernel_rfl) rfl)<|av aG<|dA (iJ _ (U.below NZ W)) _ rfl ?_
    intro w27 anH
    have b29:=aY anH NZ
    refine av aG<|av aG<|aC<|Wr<|aI aG ?_
    exact⟨rfl,(LZ F b29 F.size)⟩
   refine Lv aF (fF M)<|aS O ?_
   by_cases Ui:1<=(A:Int)
   ·refine Lv aG (jv Ui)<|av aG<|aS O<|Lv aF (iL rfl rfl rfl (fun h7=>Ug M (by omega)))<|av aF<|Lv aG (Fx.Ar rfl rfl rfl (by kernel_rfl) rfl)<|av aG<|dA (iJ _ (U.below NZ W)) _ rfl ?_
    intro w28 anI
    have Zf:=aY anI NZ
    refine av aG<|av aG<|aC<|Wr<|aI aG ?_
    exact⟨rfl,(LZ F Zf F.size)⟩
   refine Lv aF (ji Ui)<|av aF<|cB<|cB<|av aF<|Lv aG (Fx.Ar rfl rfl rfl (by kernel_rfl) rfl)<|av aG<|dA (iJ _ (U.below NZ W)) _ rfl ?_
   intro w29 anJ
   have Zg:=aY anJ NZ
   refine av aG<|av aG<|aC<|Wr<|aI aG ?_
   exact⟨rfl,(LZ F Zg F.size)⟩
  refine Lv aF (gD c88)<|av aF<|cB<|cB<|cB<|av aF<|aC<|aK<|Wx<|bV<|fU<|bW<|sN<|ay<|aS O<|Lv (au A) (dw rfl rfl (by kernel_rfl) Tryz.underlying3 (iA (by omega) rfl))<|jM (J9 A _) ?_
  rintro Q w30 ⟨vn,u,anK⟩
  refine⟨_,u,?_⟩
  clear u
  have b32:=aY anK b11
  refine av (.tuple #[vn,au (newE A)])<|av (vn)<|av (au (newE A))<|av (vn)<|av (au (newE A))<|aC<|ay<|av (au (newE A)) ?_
  by_cases M:(newE A)=0
  ·refine Lv aG (eP M)<|aS O<|Lv aG (Fx.Kq rfl rfl rfl (by have:=HY M; omega))<|av aG<|aS O<|Lv aG (Fx.Ko rfl rfl rfl (by have:=HY M; omega))<|av aG<|Lv aG (Fx.Ar rfl rfl rfl (by kernel_rfl) rfl)<|av aG<|dA (iJ _ (U.below b32 W)) _ rfl ?_
   intro w31 anL
   have b33:=aY anL b32
   refine av aG<|av aG<|aC<|Wr<|aI aG ?_
   exact⟨rfl,(LZ F b33 F.size)⟩
  refine Lv aF (fF M)<|aS O ?_
  by_cases Ui:1<=(A:Int)
  ·refine Lv aG (jv Ui)<|av aG<|aS O<|Lv aF (iL rfl rfl rfl (fun h7=>Ug M (by omega)))<|av aF<|Lv aG (Fx.Ar rfl rfl rfl (by kernel_rfl) rfl)<|av aG<|dA (iJ _ (U.below b32 W)) _ rfl ?_
   intro w32 anM
   have b34:=aY anM b32
   refine av aG<|av aG<|aC<|Wr<|aI aG ?_
   exact⟨rfl,(LZ F b34 F.size)⟩
  refine Lv aF (ji Ui)<|av aF<|cB<|cB<|av aF<|Lv aG (Fx.Ar rfl rfl rfl (by kernel_rfl) rfl)<|av aG<|dA (iJ _ (U.below b32 W)) _ rfl ?_
  intro w33 anN
  have b35:=aY anN b32
  refine av aG<|av aG<|aC<|Wr<|aI aG ?_
  exact⟨rfl,(LZ F b35 F.size)⟩
 rw[Bool.not_eq_true]at c30
 refine kg (X4 _ _ _ _) (ax := #[.slice aa0 (K) (ca)]) aF (by rw[c30])<|av aG<|av aG<|cB<|cB<|cB<|av aG<|av aG<|cB<|cB<|cB<|av aG<|aC<|aM<|ay<|dA (iJ _ (hK.below (Below.refl w.heap.size w) l0)) _ rfl ?_
 intro w34 anO
 have b36:=aY anO (Below.refl w.heap.size w)
 refine av aG<|aC<|Wr<|sR<|aI aG ?_
 exact⟨rfl,b36⟩
end Go.Proofs.YtahbiajdgealnaaGreatDoor
namespace Go.Proofs.YtahbiajdgealnaaGreatDoor
open Go.RowKit Go.WideShapes Go.ChangeShapes Go.Deep Rt
theorem Xp{w:World}{a:Option Addr}{n:Nat}{X:Nat->Nat->Value}(h : ∀ i,i<n -> ∀(j:Nat) (k:Option IntKind),[some IntKind.u8][j]? = some k->Ic k (X i j))(g:Fx.ku w a n [some IntKind.u8].length (Fx.flat [some IntKind.u8].length X)) :
 ∃ Y:Nat->Nat,(∀ k,k<n->Y k<=255)/\Fx.ku w a n 1 (fun q => .int .u8 (Y q:Int)):=by
 have c : ∀ p,p<n->X p 0 = .int .u8 ((numOf (X p 0)).toNat:Int)/\(numOf (X p 0)).toNat<=255:=fun p b=>by
  obtain⟨d,e⟩:=(h p b 0 (some .u8) rfl).num
  have f:=Yk e
  exact⟨by rw[Int.toNat_of_nonneg f.1]; exact d,by omega⟩
 refine⟨fun k=>(numOf (X k 0)).toNat,fun k l=>(c k l).2,ku.qU g fun p b => ?_⟩
 show X (p / 1) (p % 1) = .int .u8 ((numOf (X p 0)).toNat:Int)
 rw[Nat.div_one,Nat.mod_one]
 exact(c p (by have:p<n*1:=b; omega)).1
theorem Uj{w:World}{a:Option Addr}{n:Nat}{X:Nat->Nat->Value}(c : ∀ i,i<n -> ∀(j:Nat) (k:Option IntKind),KEV[j]? = some k->Ic k (X i j))(d:Fx.ku w a n KEV.length (Fx.flat KEV.length X)) :
 ∃ e:Nat->EvM,(∀ k,k<n->fC (e k))/\Fx.ku w a n 14 (CZ e) :=
 ⟨fun k=>abQ (X k),fun k b=>(NH (c k b)).2,ku.qU d (Fx.bH fun k b j f=>(NH (c k b)).1 j f)⟩
end Go.Proofs.YtahbiajdgealnaaGreatDoor
namespace Go.Proofs.YtahbiajdgealnaaGreatDoor
open Go Go.RowKit Rt
set_option linter.unusedVariables false
set_option maxRecDepth 100000
theorem kG : Tryz.prog.globalNamed "leat/ledger.kinds" = some 0 := by kernel_rfl
theorem kT:(Tryz.prog.globals[0]?).map (·.type)=some 137:=by kernel_rfl
theorem kC:Tryz.prog.cellsOf 136=1:=by kernel_rfl
theorem kC8:Tryz.prog.cellsOf 137=8:=by kernel_rfl
theorem Ka{H:Type}{enc:TypeId × Value->H}{P:Program}{w:World}{base:Nat}{c:Nat->Bool}{held:Bool}{fuel:Nat}{t:TypeId}{b rs:Array TypeId}{d:Bool}{v:Value}{q:List MemPlace}(a:P.underlying t=some (.func b rs d))(h:DataW.trod enc P w base c held fuel t [v]=some (.nil,q)):v = .nilFunc:=by
 cases fuel with
 | zero=>simp[DataW.trod]at h
 | succ n=>cases v <;> simp[DataW.trod,a]at h <;> rfl
theorem Kc {W : World} (h : laidMetH Tryz.prog [("leat/ledger.kinds", Rows.laid_leat_ledger_kinds)] W) : Fx.iF W 0 0 8 EX := by
 obtain⟨g,t,e,R,p,V,Z,hv,T⟩:=h.funcs (List.mem_singleton.2 rfl)
 obtain rfl:=Option.some.inj (kG.symm.trans V)
 obtain rfl:=Option.some.inj (kT.symm.trans Z)
 have U:DataW.trod (funcToken Tryz.prog) Tryz.prog W 0 (fun _=>true) true R 137 e.toList=some (.agg [.nil,.held [40,42,108,101,97,116,47,108,101,100,103,101,114,46,76,101,100,103,101,114,41,46,109,97,107,101,115],.held [40,42,108,101,97,116,47,108,101,100,103,101,114,46,76,101,100,103,101,114,41,46,114,97,105,115,101,115],.held [40,42,108,101,97,116,47,108,101,100,103,101,114,46,76,101,100,103,101,114,41,46,116,97,107,101,115],.held [40,42,108,101,97,116,47,108,101,100,103,101,114,46,76,101,100,103,101,114,41,46,102,114,101,101,115],.held [40,42,108,101,97,116,47,108,101,100,103,101,114,46,76,101,100,103,101,114,41,46,109,111,118,101,115],.held [40,42,108,101,97,116,47,108,101,100,103,101,114,46,76,101,100,103,101,114,41,46,106,111,105,110,115],.held [40,42,108,101,97,116,47,108,101,100,103,101,114,46,76,101,100,103,101,114,41,46,108,101,97,118,101,115]],p):=T
 obtain⟨k,m,_,Q,Y,hl,l⟩:=DataW.trod_array Tryz.underlying137 U
 have P:k.map (·.1) = [.nil,.held [40,42,108,101,97,116,47,108,101,100,103,101,114,46,76,101,100,103,101,114,41,46,109,97,107,101,115],.held [40,42,108,101,97,116,47,108,101,100,103,101,114,46,76,101,100,103,101,114,41,46,114,97,105,115,101,115],.held [40,42,108,101,97,116,47,108,101,100,103,101,114,46,76,101,100,103,101,114,41,46,116,97,107,101,115],.held [40,42,108,101,97,116,47,108,101,100,103,101,114,46,76,101,100,103,101,114,41,46,102,114,101,101,115],.held [40,42,108,101,97,116,47,108,101,100,103,101,114,46,76,101,100,103,101,114,41,46,109,111,118,101,115],.held [40,42,108,101,97,116,47,108,101,100,103,101,114,46,76,101,100,103,101,114,41,46,106,111,105,110,115],.held [40,42,108,101,97,116,47,108,101,100,103,101,114,46,76,101,100,103,101,114,41,46,108,101,97,118,101,115]]:=by
  have:=congrArg Prod.fst Q
  simp only[DataW.agg.injEq]at this
  exact this.symm
 rw[kC8]at Y
 rw[kC]at l
 have a : ∀ i,i<8 -> ∀ d,(k.map (·.1))[i]? = some d -> ∃ c q,e[i]? = some c/\DataW.trod (funcToken Tryz.prog) Tryz.prog W 0 (fun _=>true) true m 136 [c]=some (d,q):=fun i X d b=>by
  have f:=l i X
  rw[Nat.mul_one]at f
  have S:(e.toList.drop i).take 1 = [e.toList[i]'(by omega)]:=by rw[List.drop_eq_getElem_cons (by omega)]; rfl
  rw[S]at f
  rw[List.getElem?_map]at b
  cases hx:k[i]? with
  | none=>rw[hx]at b; cases b
  | some x =>
    rw[hx]at f b
    simp only[Option.map_some,Option.some.injEq]at b
    refine⟨e.toList[i]'(by omega),x.2,?_,by rw[f,<- b]⟩
    rw[<- Array.getElem?_toList,List.getElem?_eq_getElem (by omega)]
 rw[P]at a
 intro j hj
 rw[Nat.zero_add,World.var?_cell kG hv j]
 obtain⟨c0,q0,n,z⟩:=a 0 (by decide) _ rfl
 have H:=Ka Tryz.underlying136 z
 obtain⟨c1,q1,o,A⟩:=a 1 (by decide) _ rfl
 have I:=func_of_trod (f0:=162) Tryz.underlying136 (by kernel_rfl) A
 obtain⟨c2,q2,r,B⟩:=a 2 (by decide) _ rfl
 have J:=func_of_trod (f0:=163) Tryz.underlying136 (by kernel_rfl) B
 obtain⟨c3,q3,s,C⟩:=a 3 (by decide) _ rfl
 have K:=func_of_trod (f0:=164) Tryz.underlying136 (by kernel_rfl) C
 obtain⟨c4,q4,u,D⟩:=a 4 (by decide) _ rfl
 have L:=func_of_trod (f0:=165) Tryz.underlying136 (by kernel_rfl) D
 obtain⟨c5,q5,v,E⟩:=a 5 (by decide) _ rfl
 have M:=func_of_trod (f0:=166) Tryz.underlying136 (by kernel_rfl) E
 obtain⟨c6,q6,w,F⟩:=a 6 (by decide) _ rfl
 have N:=func_of_trod (f0:=167) Tryz.underlying136 (by kernel_rfl) F
 obtain⟨c7,q7,y,G⟩:=a 7 (by decide) _ rfl
 have O:=func_of_trod (f0:=168) Tryz.underlying136 (by kernel_rfl) G
 rcases j with _|_|_|_|_|_|_|_|j
 ·rw[n,H]; rfl
 ·rw[o,I]; rfl
 ·rw[r,J]; rfl
 ·rw[s,K]; rfl
 ·rw[u,L]; rfl
 ·rw[v,M]; rfl
 ·rw[w,N]; rfl
 ·rw[y,O]; rfl
 omega
theorem Uk (os : Os) (args : Array Value) : laidMetH Tryz.prog [("leat/ledger.kinds", Rows.laid_leat_ledger_kinds)] ((World.doorLaid Tryz.prog 600 os).forCall (fun _ _ => 0) ⟨#[], args, []⟩).memory :=
 laidMetH_of_parts3 (fuel:=8) (laidMet_of_run' 8 (by kernel_rfl) (by kernel_rfl)) (by kernel_rfl) (by kernel_rfl)
end Go.Proofs.YtahbiajdgealnaaGreatDoor
