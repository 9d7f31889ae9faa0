/-
  What the proof of the law rests on, part 7: walks of functions, and plain laws; each says its conditions itself.
-/
import Derived.Deep.Slices
import Derived.Lib.SmallJoins
import Derived.ChangeArms
import Derived.Test.YtahbiajdgealnaaGreatDoorZC6
set_option maxHeartbeats 1600000
set_option linter.unusedVariables false
set_option linter.unusedSimpArgs false
namespace Go.Proofs.YtahbiajdgealnaaGreatDoor
open Go.RowKit Go
set_option linter.unusedVariables false
set_option maxRecDepth 20000
namespace Rt
def nV(x:Nat->Int):Int:=x 0*18446744073709551616+x 1
structure zu(L:fQ):Prop where
 up : ∀ i j,i<j->j<L.gn->nV (L.g i)<nV (L.g j)
 wf : ∀ q,q<L.gn->ku (L.g q 1)/\ku (L.g q 4)
 ga : ∀ q,q<L.gn->1<=L.g q 0/\L.g q 0<=6 /\ ∃ j,j<L.rn (L.g q 0-1).toNat/\L.rq (L.g q 0-1).toNat j=L.g q 1
section
variable {L:fQ} {N:Nat} {v:EvM}
theorem Vu(a:ku v.req){x:Nat->Int}(hx:ku (x 1)):ER v x=true<->nV (qb v)<nV x:=by
 unfold ER nV ku at *;rw[Bool.or_eq_true,R_,O_,O_,O_];show v.o<x 0\/x 0=v.o/\v.req<x 1<->v.o*18446744073709551616+v.req<x 0*18446744073709551616+x 1;omega
theorem Lb{a:Nat}{r:Int}(L':fQ)(d:L'.rn=aH L.rn a (L.rn a+1))(f:L'.rq=aH L.rq a (aH (L.rq a) (L.rn a) r)):(∀ b y,(∃ j,j<L.rn b/\L.rq b j=y) -> ∃ j,j<L'.rn b/\L'.rq b j=y) /\ ∃ j,j<L'.rn a/\L'.rq a j=r:=by
 rw[d,f];unfold aH;refine⟨fun b y ⟨j,g,e⟩ => ?_,L.rn a,by rw[d_ rfl]; omega,by rw[d_ rfl,d_ rfl]⟩;by_cases c:b=a
 ·subst c;exact⟨j,by rw[d_ rfl]; omega,by rw[d_ rfl,b_ (by omega)]; exact e⟩
 exact⟨j,by rw[b_ c]; exact g,by rw[b_ c]; exact e⟩
attribute [local irreducible] bV dz in
theorem Nn(h:zu L)(J:bR v=true)(M:fT v)(t:iQ L v=0):zu (lS L v):=by
 have z:=nS J;have m:ku v.req:=M.req;unfold iQ at t;split at t
 ·cases t
 rename_i c1;obtain⟨w,x⟩:=Lb (L:=L) (a:=aL v) (r:=v.req) (lS L v) rfl rfl;have K : ∀ j,j<L.gn -> ¬ (L.g j 0=v.o/\L.g j 1=v.req):=fun j f e=>c1 (by
  obtain⟨_,_,q,b,y⟩:=h.ga j f;rw[e.1,e.2]at y;rw[e.1]at b;unfold fQ.kP;rw[Cg];exact⟨q,b,f_ y⟩)
 obtain⟨k,u⟩ : ∃ k,k=Fx.down (fun i=>ER v (L.g i)) L.gn:=⟨_,rfl⟩;have l:k<=L.gn:=by rw[u]; exact Fx.yF _ _
 have I : ∀ q,k<=q->q<L.gn->nV (qb v)<nV (L.g q):=fun q D d=>(Vu m (h.wf q d).1).1 (Fx.Iu (P:=fun i=>ER v (L.g i)) (n:=L.gn) (i:=q) (by omega) d);have H : ∀ q,q<k->nV (L.g q)<nV (qb v):=fun q D=>by
  obtain⟨j,rfl⟩ : ∃ j,k=j+1:=⟨k-1,by omega⟩;have d:=Fx.Iw (P:=fun i=>ER v (L.g i)) (n:=L.gn) (j:=j) u.symm;have E : ¬ nV (qb v)<nV (L.g j):=fun e=>by
   have:=(Vu m (h.wf j (by omega)).1).2 e;rw[this]at d; cases d
  have F:nV (L.g j)<nV (qb v):=by
   rcases Int.lt_trichotomy (nV (L.g j)) (nV (qb v))with c|c|c
   ·exact c
   ·exfalso;have G:=(h.wf j (by omega)).1;refine K j (by omega) ?_;unfold nV at c;have c:L.g j 0*18446744073709551616+L.g j 1=v.o*18446744073709551616+v.req:=c;unfold ku at G m;omega
   ·exact L_ c E
  by_cases e:q=j
  ·rw[e]; exact F
  ·have:=h.up q j (by omega) (by omega); omega
 have p:(lS L v).g=Fx.cO L.g k (qb v):=by rw[u]; rfl
 have s:(lS L v).gn=L.gn+1:=rfl;refine⟨fun i j N f => ?_,fun q b => ?_,fun q b => ?_⟩
 ·rw[s]at f;rw[p]
  rcases dW l (show i<L.gn+1 by omega)with rfl|⟨q,b,eq,q1,q2⟩
  ·rcases dW l f with rfl|⟨r,hr,er,w,x⟩
   ·omega
   rw[dI,er]; exact I r (by omega) hr
  rcases dW l f with rfl|⟨r,hr,er,w,x⟩
  ·rw[dI,eq]; exact H q (by omega)
  rw[eq,er]; exact h.up q r (by omega) hr
 ·rw[s]at b;rw[p]
  rcases dW l b with rfl|⟨r,hr,er,_,_⟩
  ·rw[dI]; exact⟨m,by show ku 0; unfold ku; omega⟩
  rw[er]; exact h.wf r hr
 rw[s]at b;rw[p]
 rcases dW l b with rfl|⟨r,hr,er,_,_⟩
 ·rw[dI]; exact⟨z.1,z.2.1,x⟩
 rw[er];obtain⟨A,B,C⟩:=h.ga r hr;exact⟨A,B,w _ _ C⟩
attribute [local irreducible] bV dz in
theorem Np(h:zu L)(w:bR v=true)(s:fT v)(u:iF L v=0):zu (jW L v):=by
 obtain⟨t,x⟩:=Lb (L:=L) (a:=aL v) (r:=v.req) (jW L v) rfl rfl;have e : ∀ q,(jW L v).g q=if q=zI L v then aH (L.g (zI L v)) 4 v.req else L.g q:=fun q=>rfl;have b : ∀ j p,(p=0\/p=1)->(jW L v).g j p=L.g j p:=fun j p o=>by
  rw[e];by_cases c:j=zI L v
  ·subst c; rw[d_ rfl]; rcases o with rfl|rfl <;> rfl
  ·rw[b_ c]
 refine⟨fun i j m n => ?_,fun q d => ?_,fun q d => ?_⟩
 ·unfold nV;rw[b i 0 (.inl rfl),b i 1 (.inr rfl),b j 0 (.inl rfl),b j 1 (.inr rfl)];exact h.up i j m n
 ·rw[b q 1 (.inr rfl)];refine⟨(h.wf q d).1,?_⟩;rw[e];by_cases c:q=zI L v
  ·rw[d_ c]; exact s.req
  rw[b_ c]; exact(h.wf q d).2
 rw[b q 0 (.inl rfl),b q 1 (.inr rfl)];obtain⟨f,k,l⟩:=h.ga q d;exact⟨f,k,t _ _ l⟩
theorem Nq(h:zu L)(e:fT v):zu (bU L v):=by
 unfold bU;by_cases c:bS L v=0
 ·rw[d_ c];have b:=(Fj (jG c)).1;have a:dU L v=0:=by
   unfold bS at c;rw[b_ (by rw[b]; decide)]at c;split at c; · cases c
   split at c; · cases c
   split at c; · cases c
   exact c
  have d:zu (iG L v):=by
   unfold dU at a;unfold iG;by_cases f:v.kind=1
   ·rw[d_ f]; exact⟨h.up,h.wf,h.ga⟩
   rw[b_ f]at a ⊢;by_cases g:v.kind=2
   ·rw[d_ g]; exact⟨h.up,h.wf,h.ga⟩
   rw[b_ g]at a ⊢;by_cases i:v.kind=3
   ·rw[d_ i]at a ⊢; exact Nn h b e a
   rw[b_ i]at a ⊢;by_cases j:v.kind=4
   ·rw[d_ j]at a ⊢; exact Np h b e a
   rw[b_ j]at a ⊢;by_cases k:v.kind=5
   ·rw[d_ k]; exact⟨h.up,h.wf,h.ga⟩
   rw[b_ k];by_cases l:v.kind=6
   ·rw[d_ l]; exact⟨h.up,h.wf,h.ga⟩
   ·rw[b_ l]; exact⟨h.up,h.wf,h.ga⟩
  exact⟨d.up,d.wf,d.ga⟩
 rw[b_ c]; exact h
theorem Vv(k a:Nat):zu (jU k a).core:=⟨fun i j _ h=>L_ h (u_ _),fun q h=>L_ h (u_ _),fun q h=>L_ h (u_ _)⟩
theorem fU.new(k l d e f c b g:Nat):fU (yx k l d e f c b) (jU k g).core where
 T:=⟨fun q=>⟨fun h=>(nomatch h),fun⟨i,h,_⟩=>L_ h (u_ _)⟩,rfl,fun i h=>L_ h (u_ _)⟩
 inn:=rfl
 left:=rfl
 known:=rfl
 row:=fun i h=>L_ h (u_ _)
 own:=fun a _=>rfl
 gi:=fun i j h=>L_ h (u_ _)
 gn:=rfl
 g1:=fun q h=>L_ h (u_ _)
 g2:=fun q h=>L_ h (u_ _)
 ask:=fun a r _=>⟨fun h=>(nomatch h),fun⟨j,h,_⟩=>L_ h (u_ _)⟩
 ga:=fun i h=>L_ h (u_ _)
 li:=fun i j h=>L_ h (u_ _)
structure StC(L:fQ)(m:dQ)(l:List Int)(gl:List Ji):Prop where
 nn:l.length=L.nn
 gn:gl.length=L.gn
 n : ∀ k,k<L.nn->l.getD k 0=L.id k/\m.T.par (l.getD k 0)=L.par k/\CV m (l.getD k 0)=L.R k
 g : ∀ k,k<L.gn->(gl.getD k g0).x=L.g k
theorem StC.of{m:dQ}{l:List Int}{c:List Ji}(h:fU m L)(F:Inv0 L N)(u:zu L)(B:l.Pairwise (· < ·) /\ ∀ k,k∈l<->m.T.has k=true)(s:GrS m c):StC L m l c:=by
 have w:l=(List.range L.nn).map L.id:=uT B.1 (by
  rw[List.pairwise_map];exact(List.pairwise_lt_range (n:=L.nn)).imp_of_mem fun {a b} _ hb hab=>F.rise a b hab (N_.1 hb)) fun k=>by
  rw[B.2,h.T.has,List.mem_map];exact⟨fun⟨i,d,e⟩=>⟨i,N_.2 d,e⟩,fun⟨i,d,e⟩=>⟨i,N_.1 d,e⟩⟩
 have y:c.map K5=(List.range L.gn).map fun q=>nV (L.g q):=uT (by rw[List.pairwise_map]; exact s.up) (by
  rw[List.pairwise_map];exact(List.pairwise_lt_range (n:=L.gn)).imp_of_mem fun {a b} _ hb hab=>u.up a b hab (N_.1 hb)) fun k=>by
  rw[List.mem_map,List.mem_map];constructor
  ·rintro ⟨x,v,e⟩;obtain⟨i,d,p⟩:=s.mem x v;obtain⟨q,o,r⟩:=h.g2 i d;refine⟨q,N_.2 o,?_⟩;rw[r,<- p]; exact e
  ·rintro ⟨q,o,e⟩;obtain⟨j,G,C⟩:=h.g1 q (N_.1 o);obtain⟨x,v,E⟩:=s.all j G;refine⟨x,v,?_⟩;rw[<- e,<- C,<- E]; rfl
 have I:c.length=L.gn:=by have:=K_ List.length y; rwa [List.length_map,List.length_map,List.length_range]at this
 refine⟨by rw[w,List.length_map,List.length_range],I,fun k f => ?_,fun k f => ?_⟩
 ·have:l.getD k 0=L.id k:=by
   rw[w,r_,o_ (by rw[List.length_map,List.length_range]; exact f)];simp
  rw[this];exact⟨rfl,h.T.par k f,h.row k f⟩
 have t:k<c.length:=by omega
 have H:c.getD k g0∈c:=by rw[r_,o_ t]; exact P_ t
 have D:K5 (c.getD k g0)=nV (L.g k):=by
  have A:=K_ (fun z=>z.getD k 0) y;simp only[r_,List.getElem?_map,o_ t,List.getElem?_range f]at A;rw[r_,o_ t]; exact A
 obtain⟨i,d,p⟩:=s.mem _ H;obtain⟨q,o,r⟩:=h.g2 i d;have J:nV (L.g q)=nV (L.g k):=by rw[r,<- p,<- D]; rfl
 have:q=k:=by
  rcases Nat.lt_trichotomy q k with h5|h5|h5
  ·have:=u.up q k h5 f; omega
  ·exact h5
  ·have:=u.up k q h5 o; omega
 rw[p,<- r,this]
end
end Rt
end Go.Proofs.YtahbiajdgealnaaGreatDoor
namespace Go.Proofs.YtahbiajdgealnaaGreatDoor
open Go.RowKit Go.WideShapes Go.ChangeShapes Go.Deep
theorem QD{w:World}{x:Addr}{v:Value}(h:w.cell? x=some v) : ∃ b a,x=⟨b,a,none⟩:=by
 obtain⟨b,a,c⟩:=x
 cases c with
 | none=>exact⟨b,a,rfl⟩
 | some q =>
   unfold World.cell? at h;simp at h;split at h <;> cases h
def At4(a k1 k2 c:IntKind)(w:World)(b off:Nat)(x0 x1 x2 d:Int):Prop :=
 w.cell? ⟨b,off,none⟩=some (.int a x0)/\w.cell? ⟨b,off+1,none⟩=some (.int k1 x1)/\w.cell? ⟨b,off+2,none⟩=some (.int k2 x2)/\w.cell? ⟨b,off+3,none⟩=some (.int c d)
def Wf4(a k1 k2 b:IntKind)(x0 x1 x2 c:Int):Prop:=(Lit.int a x0).wf=true/\(Lit.int k1 x1).wf=true/\(Lit.int k2 x2).wf=true/\(Lit.int b c).wf=true
def Sl4(g k1 k2 h:IntKind)(w:World)(a:Option Addr)(len:Nat)(c d e f:Nat->Int):Prop :=
 ∀ i,i<len->(∃ b j,a=some ⟨b,j,none⟩/\At4 g k1 k2 h w b (j+i*4) (c i) (d i) (e i) (f i))/\Wf4 g k1 k2 h (c i) (d i) (e i) (f i)
theorem Sl4.up{m k1 k2 n:IntKind}{w w':World}{a:Option Addr}{len:Nat}{g j k l:Nat->Int}(h:Sl4 m k1 k2 n w a len g j k l)(f:Below w.heap.size w w'):Sl4 m k1 k2 n w' a len g j k l:=by
 intro i q;obtain⟨⟨b,d,e,o,r,s,t⟩,hw⟩:=h i q;have c:=block_lt_of_cell o
 dsimp only at c
 exact⟨⟨b,d,e,(f.cell (p:=⟨b,d+i*4,none⟩) c).trans o,(f.cell (p:=⟨b,d+i*4+1,none⟩) c).trans r,(f.cell (p:=⟨b,d+i*4+2,none⟩) c).trans s,(f.cell (p:=⟨b,d+i*4+3,none⟩) c).trans t⟩,hw⟩
instance {g k1 k2 i:IntKind} {w w':World} {a:Option Addr} {len:Nat} {c d e f:Nat->Int}:Rt.Tr w w' (Sl4 g k1 k2 i w a len c d e f) (Sl4 g k1 k2 i w' a len c d e f):=⟨fun b h=>h.up b⟩
end Go.Proofs.YtahbiajdgealnaaGreatDoor
namespace Go.Proofs.YtahbiajdgealnaaGreatDoor
open Go.RowKit Go.WideShapes Go.ChangeShapes Go.Deep
def yA(P:Program):Nat->TypeId->Option (List (Option IntKind))
 | 0,_=>none
 | d+1,t=>match P.underlying t with
   | some (.int k)=>some [some k]
   | some .bool=>some [none]
   | some (.array n e)=>(yA P d e).bind fun a=>if P.cellsOf e=a.length/\P.cellsOf t=n*a.length then some (List.replicate n a).flatten else none
   | some (.struct fs)=>(fs.toList.foldlM (fun l f=>(yA P d f.type).bind fun a=>if f.offset=l.length/\P.cellsOf f.type=a.length then some (l++a)else none) []).bind fun l=>if P.cellsOf t=l.length then some l else none
   | _=>none
def Q8(k:Option IntKind)(v:Value):Prop:=match k with|some k => ∃ n,v = .int k n/\(Lit.int k n).wf=true|none => ∃ b,v = .bool b
def aae(ks:List (Option IntKind))(cs:List Value):Prop:=cs.length=ks.length /\ ∀(j:Nat) (k:Option IntKind),ks[j]? = some k -> ∃ v,cs[j]? = some v/\Q8 k v
theorem Ch{ks:List (Option IntKind)}{k:Option IntKind} : ∀(n j:Nat),(List.replicate n ks).flatten[j]? = some k->ks[j % ks.length]? = some k/\j / ks.length<n
 | 0,j,h=>by simp at h
 | n+1,j,h=>by
   rw[List.replicate_succ,List.flatten_cons]at h;by_cases b:j<ks.length
   ·rw[List.getElem?_append_left b]at h;rw[Nat.mod_eq_of_lt b,Nat.div_eq_of_lt b]; exact⟨h,by omega⟩
   ·rw[List.getElem?_append_right (by omega)]at h;have c:0<ks.length:=by
     rcases Nat.eq_zero_or_pos ks.length with e|e
     ·obtain⟨a,_⟩:=Ch n _ h;have:=(List.getElem?_eq_some_iff.1 a).1; omega
     ·exact e
    obtain⟨a,d⟩:=Ch n _ h;rw[Nat.mod_eq_sub_mod (by omega),Nat.div_eq_sub_div c (by omega)];exact⟨a,by omega⟩
section
variable {H:Type} {enc:TypeId × Value->H} {P:Program} {w:World} {base:Nat} {spare:Nat->Bool} {held:Bool}
theorem FJ{ks:List (Option IntKind)}{cs:List Value}{o s j:Nat}{k:Option IntKind}(h:aae ks ((cs.drop o).take s))(e:s=ks.length)(b:ks[j]? = some k) : ∃ v,cs[o+j]? = some v/\Q8 k v:=by
 obtain⟨n,a,c⟩:=h.2 j k b;have d:=(List.getElem?_eq_some_iff.1 b).1;rw[List.getElem?_take_of_lt (by omega),List.getElem?_drop]at a;exact⟨n,a,c⟩
theorem Ci : ∀(d:Nat) (t:TypeId) (q:List (Option IntKind)),yA P d t=some q -> ∀(C:Nat) (p:List Value) (x:DataW H × List MemPlace),DataW.trod enc P w base spare held C t p=some x->aae q p
 | 0,_,_,h=>by simp[yA]at h
 | d+1,t,q,h=>by
   intro C p x z;unfold yA at h;split at h
   ·rename_i k hu;simp only[Option.some.injEq]at h; subst h;obtain⟨n,rfl,_,U⟩:=DataW.trod_int hu z;refine⟨rfl,fun j W a => ?_⟩
    match j,a with
    | 0,a=>simp at a; subst a; exact⟨_,rfl,n,rfl,U⟩
    | j+1,a=>simp at a
   ·rename_i hu;simp only[Option.some.injEq]at h; subst h;obtain⟨b,rfl,_⟩:=DataW.trod_bool hu z;refine⟨rfl,fun j W a => ?_⟩
    match j,a with
    | 0,a=>simp at a; subst a; exact⟨_,rfl,b,rfl⟩
    | j+1,a=>simp at a
   ·rename_i n e hu;obtain⟨I,S,h⟩:=Option.bind_eq_some_iff.1 h;split at h
    ·rename_i hc;simp only[Option.some.injEq]at h; subst h;obtain⟨Y,m,_,_,c,F,J⟩:=DataW.trod_array hu z;refine⟨by rw[c,hc.2]; simp,fun j k a => ?_⟩;obtain⟨r,A⟩:=Ch n j a;have u:=J (j / I.length) A;rw[o_ (by omega),hc.1]at u;have:=FJ (Ci d e I S _ _ _ u) rfl r;rw[Nat.mul_comm,Nat.div_add_mod]at this;exact this
    ·cases h
   ·rename_i fs hu;obtain⟨l,c,h⟩:=Option.bind_eq_some_iff.1 h;split at h
    ·rename_i hc;simp only[Option.some.injEq]at h; subst h;obtain⟨Y,m,_,_,T,F,K⟩:=DataW.trod_struct hu z;refine⟨by rw[T,hc],?_⟩;have M : ∀ f,f∈fs.toList -> ∃ y,DataW.trod enc P w base spare held m f.type ((p.drop f.offset).take (P.cellsOf f.type))=some y:=by
      intro f N;obtain⟨i,u,e⟩:=List.mem_iff_getElem.1 N;have E:i<fs.size:=(by simpa using u);have r:fs[i]? = some f:=(by rw[Array.getElem?_eq_getElem E]; simpa using e);have:=K i f r;rw[o_ (by rw[F]; exact E)]at this;exact⟨_,this⟩
     have X : ∀(L:List Field) (o:List (Option IntKind)),(∀ f,f∈L -> ∃ y,DataW.trod enc P w base spare held m f.type ((p.drop f.offset).take (P.cellsOf f.type))=some y)->(∀(j:Nat) (k:Option IntKind),o[j]? = some k -> ∃ v,p[j]? = some v/\Q8 k v) -> ∀ l,L.foldlM (fun l f=>(yA P d f.type).bind fun q=>if f.offset=l.length/\P.cellsOf f.type=q.length then some (l++q)else none) o=some l -> ∀(j:Nat) (k:Option IntKind),l[j]? = some k -> ∃ v,p[j]? = some v/\Q8 k v:=by
      intro L
      induction L with
      | nil=>intro o _ B l c; simp at c; subst c; exact B
      | cons f L ih =>
        intro o D B l c;rw[List.foldlM_cons]at c;obtain⟨Z,r,A⟩:=Option.bind_eq_some_iff.1 c;obtain⟨G,R,s⟩:=Option.bind_eq_some_iff.1 r;split at s
        ·rename_i hcc;simp only[Option.some.injEq]at s; subst s;refine ih (o++G) (fun g O=>D g (List.mem_cons_of_mem _ O)) (fun j k a => ?_) l A;by_cases Q:j<o.length
         ·rw[List.getElem?_append_left Q]at a; exact B j k a
         ·rw[List.getElem?_append_right (by omega)]at a;obtain⟨y,V⟩:=D f (List.mem_cons_self ..);have:=FJ (Ci d f.type G R _ _ _ V) hcc.2 a;rw[hcc.1,show o.length+(j-o.length)=j by omega]at this;exact this
        ·cases s
     exact X fs.toList [] M (fun j k a=>by simp at a) l c
    ·cases h
   ·cases h
end
section
variable {H:Type} {enc:TypeId × Value->H} {P:Program} {w:World} {base:Nat} {spare:Nat->Bool} {held:Bool}
theorem QE{t e:TypeId}{ks:List (Option IntKind)}{fuel D:Nat}{cs:List Value}{x:DataW H × List MemPlace}(S:P.underlying t=some (.slice e))(O:yA P D e=some ks)(F:P.cellsOf e=ks.length)(C:0<ks.length)
 (h:DataW.trod enc P w base spare held fuel t cs=some x) : ∃ a c l,cs = [.slice a c l]/\c<=maxLen/\c<=l /\ ∃ X:Nat->Nat->Value,(∀ i,i<c -> ∀(j:Nat) (k:Option IntKind),ks[j]? = some k->Q8 k (X i j))/\Fx.ny w a c ks.length (Fx.flat ks.length X):=by
 rcases open_slice S h with ⟨rfl,_⟩|⟨a',c,l,m,n,D',Pl,rfl,_,hl,hm,hmm,_,hx⟩
 ·exact⟨none,0,0,rfl,by unfold maxLen; omega,z_ _,fun _ _=>undef,fun i d=>L_ d (by omega),fun h=>L_ h (by omega)⟩
 have W:c<=m:=by rw[hmm]; split <;> omega
 have r : ∀ i j:Nat,∃ q:Value,i<c -> ∀ k,ks[j]? = some k->w.cell? (a'.add (i*ks.length+j))=some q/\Q8 k q:=by
  intro i j;by_cases d:i<c/\j<ks.length
  ·obtain⟨U,A,J⟩:=hx i (by omega);rw[F]at A;obtain⟨_,V,M⟩:=World.cells?_some A;obtain⟨q,y,z⟩:=(Ci _ _ _ O _ _ _ J).2 j _ (o_ d.2);refine⟨q,fun _ k v => ?_⟩;rw[o_ d.2,Option.some.injEq]at v;subst v;have E:=M j (by omega);rw[add_add]at E;exact⟨by rw[<- y]; simpa using E,z⟩
  ·refine⟨undef,fun y k z=>L_ ⟨y,(List.getElem?_eq_some_iff.1 z).1⟩ d⟩
 refine⟨some a',c,l,rfl,by omega,hl,fun i j=>Classical.choose (r i j),fun i d j k v=>(Classical.choose_spec (r i j) d k v).2,fun K => ?_⟩;have G:a'.add (0*ks.length+0)=a':=by unfold Addr.add; simp
 obtain⟨Z,L⟩:=r 0 0;have Q:=o_ C;have B:=(L K _ Q);have g:=B.1;rw[G]at g;have o : ∃ b f,a'=⟨b,f,none⟩:=by
  have u:=B.2;unfold Q8 at u;split at u
  ·obtain⟨Y,rfl,_⟩:=u; exact QD g
  ·obtain⟨T,rfl⟩:=u;unfold World.cell? at g
   cases a' with
   | mk b f sp =>
     cases sp with
     | none=>exact⟨b,f,rfl⟩
     | some s=>simp at g; split at g <;> simp_all
 obtain⟨b,f,o⟩:=o;refine⟨b,f,by rw[o],fun p R => ?_⟩;have N:p % ks.length<ks.length:=I_ _ C;have d:p / ks.length<c:=Nat.div_lt_of_lt_mul (by rw[Nat.mul_comm]; exact R);have:=(Classical.choose_spec (r (p / ks.length) (p % ks.length)) d _ (o_ N)).1;have I:a'.add (p / ks.length*ks.length+p % ks.length)=⟨b,f+p,none⟩:=by rw[o,addr_add,Nat.mul_comm,Nat.div_add_mod]
 exact(K_ w.cell? I).symm.trans this
end
section
variable {H:Type} {enc:TypeId × Value->H} {P:Program} {w:World}
theorem ny.uS{w:World}{a:Option Addr}{n s:Nat}{x y:Nat->Value}(h:Fx.ny w a n s x)(e : ∀ p,p<n*s->x p=y p):Fx.ny w a n s y:=fun f=>by
 obtain⟨b,j,d,g⟩:=h f;exact⟨b,j,d,fun i c=>by rw[<- e i c]; exact g i c⟩
end
end Go.Proofs.YtahbiajdgealnaaGreatDoor
namespace Go.Proofs.YtahbiajdgealnaaGreatDoor
open Go.RowKit Rt
open Fx (eP eX fK bB gQ gP dD dO gH jo eT jr fV jv iY Lv sN Ln Ws Qv Wl Rp Wc Qs Wr Sb Lk Wk rC rV sR Rs Rn Rd Rk Wb Wx Wo Dy Wt qI Jg Qn FW Bh yD yZ Db Dw qy iw za nu uP uO vX wV yY Dl Ar rv aA aQ bI aN ev cO Stp dJ aW flat dB Mp fu aX gX iK bD down iM jN kF iN ny bJ bH cells_one iP bW xE unseen jH iA bO dM bL bM cB cK gG fZ qc gT)
set_option maxRecDepth 20000
set_option linter.unusedVariables false
namespace Rt
def OY(L:fQ)(c:Option Addr)(d:Nat)(a:Option Addr)(b:Nat):DN:=⟨L.inn,L.left,L.known,c,L.nn,d,a,L.gn,b⟩
def ndL(L:fQ):Nat->Nat->Value:=fun k=>mD (L.id k) (L.par k) (L.R k)
def grL(L:fQ):Nat->Nat->Value:=fun k=>iZ (L.g k)
structure LWf(L:fQ):Prop where
 n : ∀ k,k<L.nn->ku (L.id k)/\ku (L.par k) /\ ∀ p,p<54->xG (L.R k p)
 g : ∀ k,k<L.gn->xG (L.g k 0)/\ku (L.g k 1)/\ku (L.g k 2)/\xG (L.g k 3)/\ku (L.g k 4)
 k : ∀ i,i<6->ku (L.known i)
 bn:L.nn<=900000
 bg:L.gn<=900000
theorem LWf.of{L:fQ}{N:Nat}(a:Inv0 L N)(o:yh L)(m:zu L)(A:N<=900000):LWf L where
 n:=fun k c=>by
  have y:=a.pos k c;have z:=a.top k c;have f:=kZ (a.may k c);refine⟨⟨by omega,by omega⟩,?_,fun p r=>by have:=f p r; exact⟨by omega,by omega⟩⟩
  rcases a.up k c with e|⟨j,b,e⟩
  ·rw[e]; exact⟨by omega,by omega⟩
  ·have h:=a.pos j b;have l:=a.top j b;rw[<- e]; exact⟨by omega,by omega⟩
 g:=fun k c=>by
  obtain⟨d,u,v,w,x⟩:=o.gb k c;obtain⟨s,t⟩:=m.wf k c;obtain⟨j,b,e⟩:=iC.1 d;rw[a.BQ]at b;rw[(a.tid j b).1]at e;have h:=a.pos j b;have l:=a.top j b;exact⟨⟨by omega,by omega⟩,s,by rw[<- e]; exact⟨by omega,by omega⟩,⟨by omega,by omega⟩,t⟩
 k:=fun i q=>by have:=a.kn i q; exact⟨by omega,by omega⟩
 bn:=by have:=a.nn; omega
 bg:=by have:=a.gn; omega
end Rt
structure OZ(w:World)(s:DN)(L:fQ):Prop where
 e:s=OY L s.na s.nc s.ga s.gc
 n:ny w s.na L.nn 56 (flat 56 (ndL L))
 g:ny w s.ga L.gn 5 (flat 5 (grL L))
theorem OZ.up{w w':World}{s:DN}{L:fQ}(h:OZ w s L)(a:Below w.heap.size w w'):OZ w' s L:=⟨h.e,h.n.up a rfl,h.g.up a rfl⟩
instance {w w':World} {s:DN} {L:fQ}:Rt.Tr w w' (OZ w s L) (OZ w' s L):=⟨fun b h=>h.up b⟩
theorem OZ.ldg{w:World}{p:Nat}{m:lD}(h:CB w p m):OZ w m.s m.core:=⟨rfl,h.an,h.ag⟩
theorem OZ.of{w:World}{B:Nat}{m:dQ}{s:DN}{l:List Int}{p:List Ji}{L:fQ}{N:Nat}(h:StQ w B m s l p)(d:fU m L)(r:Inv0 L N)(q:zu L):OZ w s L:=by
 have e:=StC.of d r q h.ls h.gs;have f:s.nn=L.nn:=by rw[h.nn,e.nn]
 have i:s.gn=L.gn:=by rw[h.gn,e.gn]
 refine⟨?_,?_,?_⟩
 ·cases s
  unfold OY;have a:=h.inn;have b:=h.left;have c:=h.known;simp only at a b c f i ⊢;rw[a,b,c,d.inn,d.left,d.known,f,i]
 ·have:=h.n.arr;rw[f]at this;refine ny.uS this<|bJ fun k o j _ => ?_;obtain⟨a,b,c⟩:=e.n k o;unfold Vr ndL;rw[b,c,a]
 have:=h.g.arr;rw[i]at this;refine ny.uS this<|bJ fun k o j _ => ?_;unfold WJ grL;rw[e.g k o]
namespace Rt
def Gf(x y:Value):Nat->Value:=fun q=>if q=0 then x else y
theorem ahD(x y v:Value):dB (Gf x y) 0 v=Gf v y:=by funext q; unfold dB Gf; split <;> rfl
theorem ahE(x y v:Value) : ∀ j,j<2->dB (Gf x y) 1 v j=Gf x v j:=fun j a=>by
 unfold dB Gf
 rcases j with _|_|j
 ·rfl
 ·rfl
 ·omega
def F3(a:Nat->Nat):Nat->Value:=fun i=>(pt (a i))
def HY(w:World)(B n:Nat)(b:Nat->Nat)(a:Nat->lD):Prop := ∀ i,i<n->vP w B (b i) (a i)
theorem HY.up{w w':World}{B n:Nat}{b:Nat->Nat}{a:Nat->lD}(h:HY w B n b a)(c:Below w.heap.size w w'):HY w' B n b a:=fun i d=>(h i d).up c
instance {w w':World} {B n:Nat} {c:Nat->Nat} {a:Nat->lD}:Rt.Tr w w' (HY w B n c a) (HY w' B n c a):=⟨fun b h=>h.up b⟩
theorem HY.jZ{w w':World}{B n:Nat}{c:Nat->Nat}{b:Nat->lD}{a:List TypeId}(h:HY w B n c b)(e:iP a w w')(f:(Kq.all fun T => !a.contains T)=true):HY w' B n c b:=fun i d=>(h i d).jZ e f
instance {w w':World} {B n:Nat} {d:Nat->Nat} {c:Nat->lD} {a:List TypeId}:Rt.Tc a w w' (HY w B n d c) (HY w' B n d c) (Kq.all fun T => !a.contains T):=⟨fun b h e=>h.jZ b (by simpa using e)⟩
theorem HY.put{w:World}{B n o p:Nat}{b:Nat->Nat}{a:Nat->lD}{m:lD}(h:HY w B n b a)(d:vP w B p m):HY w B n (aH b o p) (aH a o m):=fun i c=>by
 unfold aH;by_cases e:i=o
 ·rw[d_ e,d_ e]; exact d
 ·rw[b_ e,b_ e]; exact h i c
theorem HY.snoc{w:World}{B n p:Nat}{b:Nat->Nat}{a:Nat->lD}{m:lD}(h:HY w B n b a)(c:vP w B p m):HY w B (n+1) (aH b n p) (aH a n m):=fun i d=>by
 unfold aH;by_cases e:i=n
 ·rw[d_ e,d_ e]; exact c
 ·rw[b_ e,b_ e]; exact h i (by omega)
theorem adY{n p:Nat}{a:Nat->Nat}{z:Nat->Value} : ∀ j,j<(n+1)*1->iA (F3 a) (n*1) (bI z (0*1) 1 (fun _=>(pt p))) j=F3 (aH a n p) j:=by
 intro j b;unfold iA F3 aH;by_cases h:j<n*1
 ·rw[d_ h,b_ (by omega)]
 rw[b_ h,d_ (by omega)];unfold bI;rw[d_ (by omega)]
theorem Vw{o p:Nat}{a:Nat->Nat}:dB (F3 a) o (pt p)=F3 (aH a o p):=by
 funext j; unfold dB F3 aH
 by_cases h:j=o
 ·rw[d_ h,d_ h]
 rw[b_ h,b_ h]
theorem Vx{n:Nat}{e:Nat->EvM}{v:EvM}{z:Nat->Value} : ∀ j,j<(n+1)*14->iA (Q0 e) (n*14) (bI z (0*14) 14 (bQ v)) j=Q0 (aH e n v) j:=fun j a =>
 (Fx.xO j a).trans (bJ (fun i _ q _=>by unfold Fx.qK aH; split <;> rfl) j a)
structure WM where
 n:Nat
 la:Option Addr
 lc:Nat
 pl:Nat->Nat
 ml:Nat->lD
 an:Nat
 aa:Option Addr
 ac:Nat
 ev:Nat->EvM
end Rt
structure om(w:World)(B p:Nat)(M:WM)(T:Nat):Prop where
 c:aQ w p 2 (Gf (.slice M.la M.n M.lc) (.slice M.aa M.an M.ac)) 44
 l:Fx.Own w B 72 1 (.slice M.la M.n M.lc) M.n (F3 M.pl)
 a:Fx.Own w B 32 14 (.slice M.aa M.an M.ac) M.an (Q0 M.ev)
 g:HY w B M.n M.pl M.ml
 inv : ∀ i,i<M.n->Inv (M.ml i).core T
 wf : ∀ k,k<M.an->fT (M.ev k)
 may : ∀ k,k<M.an->bR (M.ev k)=true
 sm : ∀ k,k<M.an->mG (M.ev k)
 cz:Cz M.n M.an M.ev fun o=>(M.ml o).s.known
 pB:B<=p
 n1:1<=M.n
 n6:M.n<=6
def adZ:List Nat := [44,72,32]++Kq
theorem om.up{w w':World}{B p T:Nat}{M:WM}(h:om w B p M T)(b:Below w.heap.size w w'):om w' B p M T := { h with c:=h.c.dh (Sb b) (t_ h.c.lt),l:=h.l.up b,a:=h.a.up b,g:=h.g.up b }
instance {w w':World} {B p T:Nat} {M:WM}:Rt.Tr w w' (om w B p M T) (om w' B p M T):=⟨fun b h=>h.up b⟩
theorem om.jZ{w w':World}{B p T:Nat}{M:WM}{e:List TypeId}(h:om w B p M T)(b:iP e w w')(j:(adZ.all fun T => !e.contains T)=true):om w' B p M T:=by
 have i : ∀ d∈adZ,e.contains d=false:=fun d f=>by
  have:=List.all_eq_true.1 j d f
  simpa using this
 exact { h with c:=h.c.jZ b (i _ (by decide)),l:=h.l.jZ b (i _ (by decide)),a:=h.a.jZ b (i _ (by decide)),g:=h.g.jZ b (List.all_eq_true.2 fun T f=>List.all_eq_true.1 j T (List.mem_append_right _ f)) }
instance {w w':World} {B p T:Nat} {M:WM} {a:List TypeId}:Rt.Tc a w w' (om w B p M T) (om w' B p M T) (adZ.all fun T => !a.contains T):=⟨fun b h e=>h.jZ b (by simpa using e)⟩
theorem YL{w:World}{B p k a:Nat}(d:aQ w p 27 (mE (jU k a)) 71)(f:aQ w a 1 (fun _ => .slice none 0 0) 123)(h1:B<=p)(b:B<=a):vP w B p (jU k a) where
 c:=d
 n:=wV _ _ _ _ _
 g:=wV _ _ _ _ _
 tc:=f
 t:=wV _ _ _ _ _
 r:=⟨fun _ _=>wV _ _ _ _ _,fun _ _ _ _ _ _ e=>by cases e⟩
 pB:=h1
 tB:=b
 bn:=J_ _
 bg:=J_ _
 bt:=J_ _
 br:=fun _ _=>J_ _
theorem Rt.Bd(k a:Nat):Inv (jU k a).core 0 where
 BQ:=rfl
 nn:=J_ _
 tid:=fun _ h=>L_ h (u_ _)
 rise:=fun _ _ _ h=>L_ h (u_ _)
 pos:=fun _ h=>L_ h (u_ _)
 top:=fun _ h=>L_ h (u_ _)
 up:=fun _ h=>L_ h (u_ _)
 dep:=fun _=>⟨0,J_ _,by show(-1:Int)<0; decide⟩
 gn:=z_ _
 rn:=fun _ _=>z_ _
 may:=fun _ h=>L_ h (u_ _)
 g47:=fun _ h=>L_ h (u_ _)
 kn:=fun _ _=>⟨M_ _,by show(0:Int)<_; decide⟩
 s:=⟨fun _ h=>L_ h (u_ _),fun _ h=>L_ h (u_ _)⟩
 b:=⟨fun _ _=>M_ _,fun _ h=>L_ h (u_ _),fun _ _ _ h=>L_ h (u_ _)⟩
set_option maxRecDepth 20000 in
theorem Nr(n:Nat)(w:World)(V:1<=n)(W:n<=6) :
 Calls Tryz.prog 12 #[au (n:Int)] w fun e w' => ∃ p M,e = .returned (pt p)/\M.n=n/\M.an=0/\(∀ i,(M.ml i).core=(jU n 0).core)/\om w' w.heap.size p M 0/\Below w.heap.size w w':=by
 refine Kent Tryz.func12 30 ?_;refine ay<|av (.pointer none)<|aC<|ay<|av (.agg (aA 2 (fun _ => .slice none 0 0)))<|rF fun b P ng X s1 z1 => ?_;have b1:=bG s1.old (Below.refl w.heap.size w);have sw:=iB ng;have wu:=X.lt;refine av (pt b)<|aC<|Ws<|ay<|av (au 0)<|aC<|Wb ?_;have m2:aQ P b 2 (Gf (.slice none 0 0) (.slice none 0 0)) 44:=X.congr (fun j _=>by unfold Gf; split <;> rfl)
 have m3:Fx.Own P w.heap.size 72 1 (.slice none 0 0) 0 (F3 (fun _=>0)):=wV _ _ _ _ _;have m4:HY P w.heap.size 0 (fun _=>0) (fun _=>jU n 0):=fun _ h=>L_ h (u_ _);refine Wo (fun f G => ∃ k:Nat,∃ a:Option Addr,∃ u:Nat,∃ t:Nat->Nat,∃ r:Nat->lD,k<=n/\(∀ i,∃ z,r i=jU n z)/\f 0=au (n:Int)/\f 3=(pt b)/\f 4=au (k:Int)/\aQ G b 2 (Gf (.slice a k u) (.slice none 0 0)) 44/\Fx.Own G w.heap.size 72 1 (.slice a (k) (u)) k (F3 t)/\HY G w.heap.size k t r/\Below w.heap.size w G) (fun f _=>(n-(intOf (f 4)).toNat)) ⟨0,none,0,(fun _=>0),(fun _=>jU n 0),by omega,(fun _=>⟨0,rfl⟩),Fx.ic,(by rfl),Fx.ic,m2,m3,m4,b1⟩ ?_;rintro f1 w2 ⟨k,a,u,t,r,hk,F,J,E,K,m5,m6,m7,A⟩;refine Ws<|ay<|aR K<|aR J ?_;by_cases S:(k:Int)<(n:Int)
 ·refine Lv aG (gU S)<|aC<|aO<|Wk<|sN<|Ws<|Wb<|ay<|aR J<|lV (agb n _ V W) ?_;rintro e9 w3 ⟨d,O,T,hp3,_,hb3,hc3,ht3,apU⟩;refine⟨.tuple #[(pt d),au 0],T,?_⟩;clear T;have⟨N,m9,m10,Q⟩:=qj hb3 m5 m6 m7 A;have hL1:vP w3 w.heap.size d (jU n O):=YL hc3 ht3 (m_ A.size hp3) (m_ A.size apU);refine av (.tuple #[(pt d),au 0])<|av (pt d)<|av (au 0)<|av (pt d)<|av (au 0)<|aC<|Wl<|aR E<|aR E<|av (pt b)<|av (pt b)<|Lv (.slice a (k) (u)) (aM N.aI 0)<|av (pt d)<|yD (vs := [(0,(pt d))]) (s:=1) (zc:=fun _ => .pointer none) (y:=bI (fun j => .pointer none) (0*1) 1 (fun _=>(pt d))) (by rfl) rfl rfl Tryz.underlying41 (by kernel_rfl) (by rfl) (by rfl) (by kernel_rfl) (by rw[bD (off:=0*1) (s:=1) (y:=fun _=>(pt d)) rfl (cells_one (by rfl)) (by rfl)]; rfl) rfl fun g2 w4 I Y s3 z2 => ?_;have⟨m12,L,m14,m15,H⟩:=sH s3.old N m9 m10 hL1 Q;have sP:=jE I Q.size;have Fu:=dn I N.lt;have Ad:(.slice a (k) (u):Value).ownBlock≠some g2:=by rw[I]; exact m9.jw (z_ _)
  have Bl:=Y.lt;refine yZ (B:=w.heap.size) (s:=1) (bytes:=8) (k:=k) (m:=1) (v := .slice a (k) (u)) (x:=F3 t) (by rfl) rfl rfl rfl Tryz.underlying41 (by kernel_rfl) (by kernel_rfl) rfl rfl L Y.aI (wJ (fun _=>rfl)) (by omega) (by omega) (by omega) H.size fun D C w5 ho1 U uh hlt1 => ?_;have gM:=za U L;have⟨Z,m18,m19⟩:=Em gM m12 m14 m15;have m16:Fx.Own w5 w.heap.size 72 1 (bK D (k+1) C) (k+1) (F3 (aH t k d)):=(ho1.congr (fun j hj=>adY j hj));have R:Below w.heap.size w w5:=yY H U H.size (fun q hq=>(L.ge hq).1);refine av (pt b)<|av (pt b)<|jh Z 0 (bK D (k+1) C) fun w6 m20 s4 z3 => ?_;have m21:aQ w6 b 2 (Gf (bK D (k+1) C) (.slice none 0 0)) 44:=m20.to (ahD _ _ _);have jQ:=iw s4 Z.ty;have⟨m22,m23,m24⟩:=Em jQ m18 m19 m16;have b6:=s4.below R R.size (by omega);refine Ln<|bM<|sN<|Wl<|aR K<|Lv (au ((k:Int)+1)) dZ<|av (au ((k:Int)+1))<|Ln ?_;have nA:HY w6 w.heap.size (k+1) (aH t k d) (aH r k (jU n O)):=m22.snoc m23
  skip
  refine fZ ⟨k+1,(some ⟨D,0,none⟩),C,(aH t k d),(aH r k (jU n O)),by omega,(fun i=>by unfold aH; split <;> first|exact⟨_,rfl⟩|exact F i),(J.trans Fx.ic),E,Fx.ic,m21,m24,nA,b6⟩ ?_
  show(n-(intOf (au ((k:Int)+1))).toNat)<_;simp only[K,intOf]; omega
 refine Lv aF (gV S)<|aC<|aK<|Wx<|cB<|gG<|cK<|sN<|ay<|aR E<|av (pt b)<|aC<|Wr<|aJ (pt b) ?_;obtain rfl:k=n:=by omega
 exact⟨b,⟨k,a,u,t,r,0,none,0,fun _=>⟨0,0,fun _=>0,0,0,0,0,0,0⟩⟩,rfl,rfl,rfl,(fun i=>by obtain⟨z,e⟩:=F i; show(r i).core=_; rw[e]; rfl),{ c:=m5,l:=m6,a:=wV _ _ _ _ _,g:=m7,inv:=fun i _=>by obtain⟨z,e⟩:=F i; show Inv (r i).core 0; rw[e]; exact Bd k z,wf:=fun _ h=>L_ h (u_ _),may:=fun _ h=>L_ h (u_ _),sm:=fun _ h=>L_ h (u_ _),cz:=Cz.zero k (fun o _=>by obtain⟨z,e⟩:=F o; show(r o).s.known=_; rw[e]; rfl),pB:=sw,n1:=V,n6:=W },A⟩
end Go.Proofs.YtahbiajdgealnaaGreatDoor
namespace Go.Proofs.YtahbiajdgealnaaGreatDoor
open Go.RowKit Go Rt
set_option linter.unusedVariables false
set_option maxRecDepth 20000
namespace Rt
section
variable {L:fQ} {N:Nat} {v:EvM}
theorem Ns(b:Inv0 L N)(h:yh L):yh (bU L v):=by
 unfold bU;by_cases c:bS L v=0
 ·rw[d_ c];have a:=(Fj (jG c)).1;have d:dU L v=0:=by
   unfold bS at c;rw[b_ (by rw[a]; decide)]at c;split at c; · cases c
   split at c; · cases c
   split at c; · cases c
   exact c
  have:=G6 b h a d;exact⟨this.us,this.gb⟩
 rw[b_ c]; exact h
def gL(L:fQ)(x i:Int):Int:=if L.node x<0 then 0 else fC (L.R (L.node x).toNat) i
theorem Nt(i:Int):fC FE i=0:=by
 unfold fC;by_cases c:(gK i&&may FE)=true
 ·rw[d_ c];rw[R_]at c;obtain⟨a,d,e,b⟩:=oP c.1;have:=vk (kZ c.2) a d;rw[b,this]; rfl
 rw[b_ c]
theorem fU.local{m:dQ}(h:fU m L)(a:Inv0 L N)(x i:Int):fC (aY m x) i=gL L x i:=by
 unfold aY gL;by_cases c:L.node x<0
 ·rw[b_ (by rw[(h.La a x).2 c]; decide),d_ c]; exact Nt i
 rw[d_ ((h.node a x).2 (by omega)),b_ c,h.rk a (by omega)]
structure HZ(m m':dQ):Prop where
 et:m'.tp=m.tp
 em:m'.mb=m.mb
 ep:m'.pb=m.pb
 er:m'.rb=m.rb
 eg:m'.gb=m.gb
 ea:m'.ab=m.ab
theorem HZ.refl(m:dQ):HZ m m:=⟨rfl,rfl,rfl,rfl,rfl,rfl⟩
theorem HZ.trans{a b c:dQ}(h:HZ a b)(k:HZ b c):HZ a c:=⟨k.et.trans h.et,k.em.trans h.em,k.ep.trans h.ep,k.er.trans h.er,k.eg.trans h.eg,k.ea.trans h.ea⟩
end
end Rt
structure Af(w:World)(B lp:Nat)(m:dQ)(L:fQ)(N:Nat):Prop where
 q:lI w B lp m
 s:fU m L
 i:Inv0 L N
 u:yh L
 g:zu L
section
variable {w w':World} {B lp:Nat} {m:dQ} {L:fQ} {N:Nat} {v:EvM}
theorem Af.up(h:Af w B lp m L N)(a:Below w.heap.size w w'):Af w' B lp m L N := { h with q:=h.q.up a }
instance:Rt.Tr w w' (Af w B lp m L N) (Af w' B lp m L N):=⟨fun b h=>h.up b⟩
theorem Af.jZ{a:List TypeId}(h:Af w B lp m L N)(b:Fx.iP a w w')(c:(a.contains 106 || a.contains 135)=false):Af w' B lp m L N := { h with q:=h.q.jZ b c }
instance {a:List TypeId}:Rt.Tc a w w' (Af w B lp m L N) (Af w' B lp m L N) (!(a.contains 106 || a.contains 135)):=⟨fun b h e=>h.jZ b (by simpa using e)⟩
theorem Af.weak{a:Nat}(h:Af w B lp m L N)(b:a<=B):Af w a lp m L N := { h with q:=h.q.weak b }
theorem Af.mono{N':Nat}(h:Af w B lp m L N)(a:N<=N'):Af w B lp m L N' := { h with i:=h.i.mono a }
theorem Af.wf(h:Af w B lp m L N)(a:N<=900000):LWf L:=LWf.of h.i h.u h.g a
theorem lI.Cj(h:lI w B lp m)(a:Fx.jN (UC m lp w.heap.size) w w')(c:B<=w.heap.size):Below B w w':=⟨a.os,a.tape,a.output,a.size,fun k d=>a.block k (by omega) fun b=>by
 rcases b with b|b
 ·have:=(h.ltS b).1; omega
 ·omega⟩
theorem lI.typed(h:lI w B lp m)(d:Fx.jN (UC m lp w.heap.size) w w'):Fx.FX [106] w w':=⟨d.os,d.tape,d.output,d.size,fun k T b e=>d.block k b.ltw fun f=>by
 rcases f with (rfl|rfl|rfl|rfl|rfl|rfl)|f
 ·have:=Fx.Ty.only h.c.ty b;rw[this]at e; simp at e
 ·exact h.t.map.rG b
 ·exact h.p.rG b
 ·exact h.r.rG b
 ·exact h.g.rG b
 ·exact h.a.rG b
 ·have:=b.ltw; omega⟩
theorem YM{B:Nat}{a b c:World}(h:Below a.heap.size a b)(e:Below B b c)(d:a.heap.size<=B):Below a.heap.size a c:=h.trans (e.mono d)
theorem Ck{P:Program}{g:Nat}{a b:Array Value}{w:World}{R:Ending->World->Prop}(h:Calls P g b w R)(e:a=b):Calls P g a w R:=e ▸ h
theorem O1{x:Value}{y:Nat->Value}(hy : ∀ j,j<14->y j=bQ v j):(#[x,.agg (Fx.aA 14 y)]:Array Value) = #[x,.agg (Fx.aA 14 (bQ v))]:=K_ (fun z=>(#[x,.agg z]:Array Value)) (Fx.eZ hy)
theorem aaf(k:Nat)(d:1<=k/\k<=6)(w:World):Calls Tryz.prog 14 #[au (k:Int)] w fun e w' => ∃ lp m,e = .returned (.tuple #[(pt lp),au 0])/\Af w' w.heap.size lp m (jU k 0).core 0/\Below w.heap.size w w' :=
 (ahx k d w).mono fun e w' ⟨lp,m,c,⟨n,i,j,l,h,g,a⟩,f,b⟩=>⟨lp,m,c,⟨f,by rw[a]; exact fU.new ..,(Bd k 0).toInv0,(Bd k 0).s,Vv k 0⟩,b⟩
theorem D8(h:Af w B lp m L N)(b:fT v)(c:1<=B)(d:Fx.iK w 0 0 8 FD){y:Nat->Value}(hy : ∀ j,j<14->y j=bQ v j) :
 Calls Tryz.prog 15 #[(pt lp),.agg (Fx.aA 14 y)] w fun e w'=>e = .returned (au (bS L v))/\Af w' B lp (jB m v) (bU L v) (N+1)/\Fx.jN (UC m lp w.heap.size) w w':=by
 have a:=h.s.apply h.q.t.inv h.i v;refine Ck ((Yv m lp B w h.q v b (h.s.sound h.q.t.inv h.i) c d).mono fun e w' ⟨k,l,f⟩=>⟨by rw[k,a.1],⟨l,a.2,Ac h.i,Ns h.i h.u,Nq h.g b⟩,f⟩) (O1 hy)
theorem YN(h:Af w B lp m L N)(g:fT v)(a:1<=B)(b:Fx.iK w 0 0 8 FD){y:Nat->Value}(hy : ∀ j,j<14->y j=bQ v j) :
 Calls Tryz.prog 22 #[(pt lp),.agg (Fx.aA 14 y)] w fun e w'=>e = .returned (au (bS L v))/\Below w.heap.size w w':=by
 have f:=h.s.apply h.q.t.inv h.i v;refine Ck ((apB m lp B w h.q v g (h.s.sound h.q.t.inv h.i) a b).mono fun e w' ⟨d,c⟩=>⟨by rw[d,f.1],c⟩) (O1 hy)
theorem Jj(h:Af w B lp m L N)(i x:Int)(hi : -9223372036854775808<=i/\i<=9223372036854775807):Calls Tryz.prog 19 #[(pt lp),au i,aD x] w fun e w'=>e = .returned (au (gL L x i))/\Below w.heap.size w w':=by
 rw[<- h.s.local h.i]; exact Yw m lp B w h.q i x hi
def lsP(L:fQ)(x:Int):Nat->Value:=Fx.rv .u64 fun q=>bf L.t L.tn q x
theorem aea(h:Af w B lp m L N)(x:Int):Calls Tryz.prog 20 #[(pt lp),aD x] w fun e w' => ∃ a c,e = .returned (.slice a (bV L.t L.tn x) c)/\Fx.Own w' w.heap.size 28 1 (.slice a (bV L.t L.tn x) c) (bV L.t L.tn x) (lsP L x)/\Below w.heap.size w w':=by
 obtain⟨d,l⟩:=h.s.T.path h.q.t.inv h.i x;refine(adN m lp B w h.q x).mono fun e w' ⟨a,c,g,b,f⟩=>⟨a,c,by rw[g,d],?_,f⟩;unfold WE at b;rw[d]at b;exact b.congr fun j k=>by
  rw[Nat.mul_one]at k;show Value.int .u64 ((m.T.path x).getD j 0)=aD (bf L.t L.tn j x);rw[l j (by omega)]
structure LU(w:World)(B:Nat)(s:DN)(L:fQ):Prop where
 e:s=OY L s.na s.nc s.ga s.gc
 n:Fx.Own w B 61 56 (.slice s.na L.nn s.nc) L.nn (Fx.flat 56 (ndL L))
 g:Fx.Own w B 66 5 (.slice s.ga L.gn s.gc) L.gn (Fx.flat 5 (grL L))
theorem LU.r{s:DN}(h:LU w B s L):OZ w s L:=⟨h.e,h.n.arr,h.g.arr⟩
theorem LU.up{s:DN}(h:LU w B s L)(a:Below w.heap.size w w'):LU w' B s L:=⟨h.e,h.n.up a,h.g.up a⟩
instance {s:DN}:Rt.Tr w w' (LU w B s L) (LU w' B s L):=⟨fun b h=>h.up b⟩
theorem LU.jZ{s:DN}{a:List TypeId}(h:LU w B s L)(c:Fx.iP a w w')(b:(a.contains 61 || a.contains 66)=false):LU w' B s L:=by
 rw[Bool.or_eq_false_iff]at b;exact⟨h.e,h.n.jZ c b.1,h.g.jZ c b.2⟩
instance {s:DN} {a:List TypeId}:Rt.Tc a w w' (LU w B s L) (LU w' B s L) (!(a.contains 61 || a.contains 66)):=⟨fun b h e=>h.jZ b (by simpa using e)⟩
theorem LU.JO{s:DN}{a:List TypeId}(h:LU w B s L)(c:Fx.FX a w w')(b:(a.contains 61 || a.contains 66)=false):LU w' B s L:=by
 rw[Bool.or_eq_false_iff]at b;exact⟨h.e,h.n.JO c b.1,h.g.JO c b.2⟩
theorem O4(h:Af w B lp m L N)(z:N<=900000):Calls Tryz.prog 18 #[(pt lp)] w fun e w' => ∃ s,e = .returned (.agg (Fx.aA 20 (pI s)))/\LU w' w.heap.size s L/\Below w.heap.size w w':=by
 refine(YI m lp B w h.q (by rw[h.s.gn]; have:=h.i.gn; omega)).mono fun e w' ⟨s,l,y,x,a,v⟩=>⟨s,x,?_,v⟩;have b:=StC.of h.s h.i h.g a.ls a.gs;have o:s.nn=L.nn:=by rw[a.nn,b.nn]
 have p:s.gn=L.gn:=by rw[a.gn,b.gn]
 have f:=a.n;have d:=a.g;rw[o]at f;rw[p]at d;refine⟨(OZ.of a h.s h.i h.g).e,f.congr (Fx.bJ fun k c j _ => ?_),d.congr (Fx.bJ fun k c j _ => ?_)⟩
 ·obtain⟨r,t,u⟩:=b.n k c;unfold Vr ndL;rw[t,u,r]
 unfold WJ grL;rw[b.g k c]
end
end Go.Proofs.YtahbiajdgealnaaGreatDoor
namespace Go.Proofs.YtahbiajdgealnaaGreatDoor
open Go.RowKit Rt
open Fx (eP eX fK bB gQ gP dD dO gH jo eT jr fV jv iY Lv sN Ln Ws Qv Wl Rp Wc Qs Wr Sb Lk Wk rC rV sR Rs Rn Rd Rk Wb Wx Wo Dy Wt qI Jg Qn FW Bh yD yZ Db Dw qy iw za nu uP uO vX wV yY Dl Ar rv aA aQ bI aN ev cO Stp dJ aW flat dB Mp fu aX gX iK bD down iM jN kF iN ny bJ bH cells_one iP bW xE unseen jH iA bO dM bL bM cB cK gG fZ qc gT)
set_option maxRecDepth 20000
set_option linter.unusedVariables false
namespace Rt
def O5:Int:=1099511627777
def Vy(n:Int)(i:Nat):Int:=if i=0 then n else 0
def vA:EvM:=⟨1,1,fun _=>0,1,0,0,10,0,0⟩
def vB:EvM:=⟨2,1,Vy 1,3,O5,0,4,1,0⟩
def vC:EvM:=⟨1,2,Vy 1,5,O5,2,4,0,0⟩
def vD:EvM:=⟨2,1,Vy 2,3,O5,0,4,1,0⟩
theorem Nu{n:Int}(h:ku n)(i:Nat):ku (Vy n i):=by
 unfold Vy;split
 ·exact h
 exact⟨by decide,by decide⟩
theorem ahG:fT vA:=⟨⟨by decide,by decide⟩,⟨by decide,by decide⟩,fun _ _=>⟨M_ 0,(by decide:(0:Int)<=18446744073709551615)⟩,⟨by decide,by decide⟩,⟨by decide,by decide⟩,⟨by decide,by decide⟩,⟨by decide,by decide⟩,⟨by decide,by decide⟩,⟨by decide,by decide⟩⟩
theorem ahH:fT vB:=⟨⟨by decide,by decide⟩,⟨by decide,by decide⟩,fun i _=>Nu ⟨by decide,by decide⟩ i,⟨by decide,by decide⟩,⟨by decide,by decide⟩,⟨by decide,by decide⟩,⟨by decide,by decide⟩,⟨by decide,by decide⟩,⟨by decide,by decide⟩⟩
theorem ahI:fT vC:=⟨⟨by decide,by decide⟩,⟨by decide,by decide⟩,fun i _=>Nu ⟨by decide,by decide⟩ i,⟨by decide,by decide⟩,⟨by decide,by decide⟩,⟨by decide,by decide⟩,⟨by decide,by decide⟩,⟨by decide,by decide⟩,⟨by decide,by decide⟩⟩
theorem ahJ:fT vD:=⟨⟨by decide,by decide⟩,⟨by decide,by decide⟩,fun i _=>Nu ⟨by decide,by decide⟩ i,⟨by decide,by decide⟩,⟨by decide,by decide⟩,⟨by decide,by decide⟩,⟨by decide,by decide⟩,⟨by decide,by decide⟩,⟨by decide,by decide⟩⟩
theorem Vz{m:dQ}(b:m.T.ok)(v:EvM):(jB m v).T.ok:=by
 unfold jB;by_cases c:cu m v=0
 ·rw[d_ c];have f:=pQ c;have a:=(pR c).2.1;have g:=nS f;show(iH m v).T.ok;unfold fD at a;unfold iH;by_cases d:v.kind=1
  ·rw[d_ d]at a ⊢;have e:m.T.err (nk v) v.node=0:=by
    unfold iT at a;split at a
    ·cases a
    ·exact a
   exact Bj.put b e (by unfold nk; omega)
  rw[b_ d]
  repeat' split
  all_goals exact b
 rw[b_ c]; exact b
structure Ak(m:dQ)(L:fQ)(N:Nat):Prop where
 s:fU m L
 t:m.T.ok
 i:Inv0 L N
theorem Ak.new(k:Nat):Ak (yx k 0 0 0 0 0 0) (jU k 0).core 0:=⟨fU.new ..,Bj.zero _ _,(Bd k 0).toInv0⟩
theorem Ak.apply{m:dQ}{L:fQ}{N:Nat}(h:Ak m L N)(v:EvM):Ak (jB m v) (bU L v) (N+1):=⟨(h.s.apply h.t h.i v).2,Vz h.t v,Ac h.i⟩
theorem Ak.err{m:dQ}{L:fQ}{N:Nat}(h:Ak m L N)(v:EvM){c:Int}(e:cu m v=c):bS L v=c:=(h.s.apply h.t h.i v).1.symm.trans e
theorem Ak.loc{m:dQ}{L:fQ}{N:Nat}(h:Ak m L N)(x i:Int){c:Int}(e:fC (aY m x) i=c):gL L x i=c:=(h.s.local h.i x i).symm.trans e
noncomputable def wq0:dQ:=yx 2 0 0 0 0 0 0
noncomputable def DJ:dQ:=jB wq0 vA
noncomputable def wq2:dQ:=jB DJ vC
noncomputable def Qa:dQ:=jB wq2 vD
theorem tw0:Ak wq0 (jU 2 0).core 0 := .new 2
theorem tw1:Ak DJ (bU (jU 2 0).core vA) 1:=tw0.apply vA
theorem tw2:Ak wq2 (bU (bU (jU 2 0).core vA) vC) 2:=tw1.apply vC
theorem tw3:Ak Qa (bU (bU (bU (jU 2 0).core vA) vC) vD) 3:=tw2.apply vD
theorem YO:bS (jU 2 0).core vA=0:=tw0.err vA (by kernel_rfl)
theorem YP:bS (bU (jU 2 0).core vA) vB=11:=tw1.err vB (by kernel_rfl)
theorem YQ:bS (bU (jU 2 0).core vA) vC=0:=tw1.err vC (by kernel_rfl)
theorem YR:bS (bU (bU (jU 2 0).core vA) vC) vD=0:=tw2.err vD (by kernel_rfl)
theorem O6:aY Qa O5=(bC (wq2.R 0) 2 4).1:=by
 unfold aY;rw[d_ (show Qa.T.has O5=true by kernel_rfl)];unfold CV;rw[show Qa.idx O5=0 by kernel_rfl,show Qa.R 0=(oJ wq2 (fun x=>bC x 2 4) (wq2.T.path O5)).R 0 by kernel_rfl];show(if wq2.T.x 0∈wq2.T.path O5 then(bC (wq2.R 0) 2 4).1 else wq2.R 0)=_;rw[d_];rw[show wq2.T.path O5 = [O5] by kernel_rfl];exact List.mem_singleton.2 (by kernel_rfl)
theorem YS:gL (bU (bU (bU (jU 2 0).core vA) vC) vD) O5 1=6:=tw3.loc _ _ (by rw[O6]; kernel_rfl)
theorem YT:gL (bU (bU (bU (jU 2 0).core vA) vC) vD) O5 2=0:=tw3.loc _ _ (by rw[O6]; kernel_rfl)
theorem YU:(bU (bU (bU (jU 2 0).core vA) vC) vD).gn=1:=tw3.s.gn.symm.trans (by kernel_rfl)
end Rt
theorem CZ(w:World)(c:iK w 0 0 8 FD) :
 Calls Tryz.prog 11 #[] w fun e w'=>e = .returned (.bool true)/\Below w.heap.size w w':=by
 have g:=c.lt (by omega);have f:1<=w.heap.size:=by omega
 refine Kent Tryz.func11 69 ?_;refine ay<|av aF<|aC<|ay<|lV (aaf 2 (by omega) _) ?_;rintro H Y ⟨lp,X,d,R,I⟩;refine⟨_,d,?_⟩;clear d;have n:=R.weak (Below.refl w.heap.size w).size;have h:=bG I (Below.refl w.heap.size w);refine av (.tuple #[(pt lp),au 0])<|av (pt lp)<|av (au 0)<|av (pt lp)<|av (au 0)<|aC<|Ws<|ay<|av (au 0)<|Lv aF (kr rfl)<|av aF<|av (pt lp)<|Lv aF (Fx.qJ rfl rfl rfl (by kernel_rfl))<|av aF<|aC<|aK<|Wk<|sN<|ay<|av (aD 1099511627777)<|aC<|ay<|av (pt lp)<|av (.agg (aA 14 (bI (bI (bI (bI (fun a=>if a<1 then au 0 else if a<8 then aD 0 else if a<9 then .int .u8 (0)else if a<10 then aD 0 else if a<12 then au 0 else aD 0) 0 1 (fun _=>au 1)) 1 1 (fun _=>aD 1)) 8 1 (fun _ => .int .u8 (1))) 11 1 (fun _=>au 10))))<|dX (D8 (v:=vA) n ahG f (c.below h g) (fun j l=>by rcases j with _|_|_|_|_|_|_|_|_|_|_|_|_|_|j <;> first|rfl|omega)) (au 0) (by rw[YO]) ?_
 rintro Z ⟨A,t⟩;have U:=n.q.typed t;have N:=n.q.Cj t h.size;have r:=YM h N (z_ _);refine av (au 0)<|aC<|ay<|av (pt lp)<|Lv (.agg (aA 6 (bI (rv .u64 (fun _=>0)) 0 1 (fun _=>aD 1)))) (Fx.vU (vs := [(0,aD 1)]) (s:=1) (m:=6) (x:=rv .u64 (fun _=>0)) rfl rfl Tryz.underlying30 (by kernel_rfl) (by kernel_rfl) (by rw[bD (off:=0) (s:=1) (y:=fun _=>aD 1) (by kernel_rfl) (cells_one (by rfl)) (by rfl)]; rfl))<|av (aD 1099511627777)<|av (.agg (aA 14 (bI (bI (bI (bI (bI (bI (bI (fun a=>if a<1 then au 0 else if a<8 then aD 0 else if a<9 then .int .u8 (0)else if a<10 then aD 0 else if a<12 then au 0 else aD 0) 0 1 (fun _=>au 2)) 1 1 (fun _=>aD 1)) 2 6 (bI (rv .u64 (fun _=>0)) 0 1 (fun _=>aD 1))) 8 1 (fun _ => .int .u8 (3))) 9 1 (fun _=>aD 1099511627777)) 11 1 (fun _=>au 4)) 12 1 (fun _=>aD 1))))<|dX (YN (v:=vB) A ahH f (c.below r g) (fun j l=>by rcases j with _|_|_|_|_|_|_|_|_|_|_|_|_|_|j <;> first|rfl|omega)) (au 11) (by rw[YP]) ?_
 intro w3 J;have⟨p,i⟩:=fF J A r;refine av (au 11)<|aC<|ay<|av (pt lp)<|Lv (.agg (aA 6 (bI (rv .u64 (fun _=>0)) 0 1 (fun _=>aD 1)))) (Fx.vU (vs := [(0,aD 1)]) (s:=1) (m:=6) (x:=rv .u64 (fun _=>0)) rfl rfl Tryz.underlying30 (by kernel_rfl) (by kernel_rfl) (by rw[bD (off:=0) (s:=1) (y:=fun _=>aD 1) (by kernel_rfl) (cells_one (by rfl)) (by rfl)]; rfl))<|av (aD 1099511627777)<|av (.agg (aA 14 (bI (bI (bI (bI (bI (bI (bI (fun a=>if a<1 then au 0 else if a<8 then aD 0 else if a<9 then .int .u8 (0)else if a<10 then aD 0 else if a<12 then au 0 else aD 0) 0 1 (fun _=>au 1)) 1 1 (fun _=>aD 2)) 2 6 (bI (rv .u64 (fun _=>0)) 0 1 (fun _=>aD 1))) 8 1 (fun _ => .int .u8 (5))) 9 1 (fun _=>aD 1099511627777)) 10 1 (fun _=>au 2)) 11 1 (fun _=>au 4))))<|dX (D8 (v:=vC) p ahI f (c.below i g) (fun j l=>by rcases j with _|_|_|_|_|_|_|_|_|_|_|_|_|_|j <;> first|rfl|omega)) (au 0) (by rw[YQ]) ?_
 rintro w4 ⟨o,u⟩;have V:=p.q.typed u;have O:=p.q.Cj u i.size;have k:=YM i O (z_ _);refine av (au 0)<|aC<|ay<|av (pt lp)<|Lv (.agg (aA 6 (bI (rv .u64 (fun _=>0)) 0 1 (fun _=>aD 2)))) (Fx.vU (vs := [(0,aD 2)]) (s:=1) (m:=6) (x:=rv .u64 (fun _=>0)) rfl rfl Tryz.underlying30 (by kernel_rfl) (by kernel_rfl) (by rw[bD (off:=0) (s:=1) (y:=fun _=>aD 2) (by kernel_rfl) (cells_one (by rfl)) (by rfl)]; rfl))<|av (aD 1099511627777)<|av (.agg (aA 14 (bI (bI (bI (bI (bI (bI (bI (fun a=>if a<1 then au 0 else if a<8 then aD 0 else if a<9 then .int .u8 (0)else if a<10 then aD 0 else if a<12 then au 0 else aD 0) 0 1 (fun _=>au 2)) 1 1 (fun _=>aD 1)) 2 6 (bI (rv .u64 (fun _=>0)) 0 1 (fun _=>aD 2))) 8 1 (fun _ => .int .u8 (3))) 9 1 (fun _=>aD 1099511627777)) 11 1 (fun _=>au 4)) 12 1 (fun _=>aD 1))))<|dX (D8 (v:=vD) o ahJ f (c.below k g) (fun j l=>by rcases j with _|_|_|_|_|_|_|_|_|_|_|_|_|_|j <;> first|rfl|omega)) (au 0) (by rw[YR]) ?_
 rintro w5 ⟨B,z⟩;have W:=o.q.typed z;have P:=o.q.Cj z k.size;have D:=YM k P (z_ _);refine av (au 0)<|aC<|ay<|av (au 0)<|Lv aG (eF rfl)<|av aG<|av (au 11)<|Lv aG (eF rfl)<|av aG<|av aG<|av (au 0)<|Lv aG (eF rfl)<|av aG<|av aG<|av (au 0)<|Lv aG (eF rfl)<|av aG<|av aG<|av (pt lp)<|av (aD 1099511627777)<|dX (Jj B 1 O5 (by omega)) (au 6) (by rw[YS]) ?_;intro w6 K;have⟨C,E⟩:=fF K B D;refine Lv aG (eF rfl)<|av aG<|av aG<|av (pt lp)<|av (aD 1099511627777)<|dX (Jj C 2 O5 (by omega)) (au 0) (by rw[YT]) ?_;intro w7 L;have⟨T,F⟩:=fF L C E;refine Lv aG (eF rfl)<|av aG<|av aG<|av (pt lp)<|lV (O4 T (by omega)) ?_;rintro H w8 ⟨b,d,S,M⟩;refine⟨_,d,?_⟩;clear d;have G:=bG M F;have Q:b.gn=1:=(K_ DN.gn S.e).trans YU;refine Lv (.slice b.ga (b.gn) (b.gc)) (Fx.Pf (y:=pI b) rfl rfl Tryz.underlying53 rfl (by kernel_rfl) (by kernel_rfl) rfl)<|av (au b.gn)<|Lv aG (iY rfl rfl rfl (by rw[Q]; rfl))<|av aG<|av aG<|aC<|Wr<|aJ aG ?_;exact⟨rfl,G⟩
namespace Rt
structure Gg where
 who:Nat
 meet:Bool
 other:Nat
 kind:Nat
 node:Nat
 dst:Nat
 aT:Nat
 req:Nat
 of:Nat
structure H6(x:Gg):Prop where
 who:x.who<=255
 other:x.other<=255
 kind:x.kind<=255
 node:x.node<=255
 dst:x.dst<=255
 aT:x.aT<=65535
 req:x.req<=255
 of:x.of<=255
def Gi(x:Gg):Nat->Value:=fun p=>if p=0 then .int .u8 (x.who:Int)else if p=1 then .bool x.meet else if p=2 then .int .u8 (x.other:Int)else if p=3 then .int .u8 (x.kind:Int)else if p=4 then .int .u8 (x.node:Int)else if p=5 then .int .u8 (x.dst:Int)else if p=6 then .int .u16 (x.aT:Int)else if p=7 then .int .u8 (x.req:Int)else .int .u8 (x.of:Int)
theorem Gj{k n r:Nat}(e:r=k % n):Int.tmod (k:Int) (n:Int)=(r:Int):=by
 rw[Int.tmod_eq_emod_of_nonneg (by omega),e];exact(Int.natCast_emod k n).symm
theorem D9(V:EvM)(x:Int) : ∀ j,j<14->dB (bQ V) 9 (aD x) j=bQ { V with node:=x } j:=fun j a=>by
 rcases j with _|_|_|_|_|_|_|_|_|_|_|_|_|_|j <;> first|rfl|omega
theorem VA(V:EvM)(x:Int) : ∀ j,j<14->dB (bQ V) 10 (au x) j=bQ ⟨V.o,V.seq,V.deps,V.kind,V.node,x,V.aT,V.req,V.of⟩ j:=fun j a=>by
 rcases j with _|_|_|_|_|_|_|_|_|_|_|_|_|_|j <;> first|rfl|omega
theorem FK(V:EvM)(x:Int) : ∀ j,j<14->dB (bQ V) 11 (au x) j=bQ { V with aT:=x } j:=fun j a=>by
 rcases j with _|_|_|_|_|_|_|_|_|_|_|_|_|_|j <;> first|rfl|omega
theorem VB(V:EvM)(x:Int) : ∀ j,j<14->dB (bQ V) 12 (aD x) j=bQ { V with req:=x } j:=fun j a=>by
 rcases j with _|_|_|_|_|_|_|_|_|_|_|_|_|_|j <;> first|rfl|omega
theorem ahK(V:EvM)(x:Int) : ∀ j,j<14->dB (bQ V) 13 (aD x) j=bQ { V with of:=x } j:=fun j a=>by
 rcases j with _|_|_|_|_|_|_|_|_|_|_|_|_|_|j <;> first|rfl|omega
end Rt
set_option maxRecDepth 20000 in
set_option maxHeartbeats 2000000 in
theorem YV(M:WM)(B p T:Nat)(x:Gg)(w:World)(Z:om w B p M T)(hx:H6 x) :
 Calls Tryz.prog 38 #[(pt p),.agg (aA 9 (Gi x))] w fun e w' => ∃ V,fT V/\mG V/\(V.o=((x.who % M.n:Nat):Int)+1/\V.seq=(M.ml (x.who % M.n)).s.known (x.who % M.n)+1/\V.deps=(M.ml (x.who % M.n)).s.known)/\e = .returned (.agg (aA 14 (bQ V)))/\Below w.heap.size w w':=by
 have hWc:=Z.c;have hWl:=Z.l;have hWa:=Z.a;have hWg:=Z.g;have hn1:=Z.n1;have hn6:=Z.n6;have hpB:=Z.pB;have lpp:p<w.heap.size:=hWc.lt;have hxw:=hx.who;have hxo:=hx.other;have hxk:=hx.kind;have hxn:=hx.node;have hxt:=hx.dst;have hxa:=hx.aT;have hxr:=hx.req;have hxf:=hx.of;refine Kent Tryz.func38 143 ?_;refine ay<|rF fun G w1 ng m1 s1 z1 => ?_;have⟨m2,m3,m4,m5,b1⟩:=sH s1.old hWc hWl hWa hWg (Below.refl w.heap.size w);have sw:=iB ng;have nK:=dn ng hWc.lt;have wu:=m1.lt;refine xD 14 (fun h=>if h<1 then au 0 else if h<8 then aD 0 else if h<9 then .int .u8 (0)else if h<10 then aD 0 else if h<12 then au 0 else aD 0) fun U w2 xW m6 s2 z2 => ?_;have⟨m7,m8,m9,m10,m11,b2⟩:=ql s2.old m2 m3 m4 m5 m1 b1;have sP:=jE xW b1.size;have TI:=dn xW m2.lt;have OE:(.slice M.aa (M.an) (M.ac):Value).ownBlock≠some U:=by rw[xW]; exact m4.jw (z_ _)
 have Fq:=dn xW m1.lt;have Bl:=m6.lt;refine aC<|Ws ?_;obtain⟨o,eo⟩ : ∃ r,r=x.who % M.n:=⟨_,rfl⟩;have ho:o<M.n:=by rw[eo]; exact I_ _ (by omega)
 refine zQ<|aU (pt G)<|Qv (.int .u8 (x.who:Int)) (fun E D=>aM (m11.aI.dr D) 0)<|Qv (au x.who) (fun E D=>dD rfl rfl (by kernel_rfl) Tryz.underlying3 (iN (by omega) rfl))<|aU (pt p)<|aU (pt p)<|aU (pt p)<|Qv (.slice M.la (M.n) (M.lc)) (fun E D=>aM (m7.aI.dr D) 0)<|aU (au M.n)<|Qv (au o) (fun E D=>Fx.zx rfl rfl rfl (by omega) (Gj eo))<|aU (au o)<|Qn ?_;rintro _ ⟨qd,rfl⟩;obtain⟨DJ,rW⟩ : ∃ E,E=World.drewN w2 qd:=⟨_,rfl⟩;rw[<- rW];have s3:Stp w2.heap.size w2 DJ:=by rw[rW]; exact Sb (jM w2 qd)
 have⟨m12,m13,m14,m15,m16,m17,b3⟩:=jI s3.old m7 m8 m9 m10 m11 m6 b2;clear rW;refine sN<|ay<|av (pt p)<|av (pt p)<|av (pt p)<|Lv (.slice M.la (M.n) (M.lc)) (aM m12.aI 0)<|av (au o) ?_;obtain⟨CG,eq1⟩:=m13.addr (by omega);have m18:Fx.Own DJ B 72 1 (bK CG M.n M.lc) M.n (F3 M.pl):=m13.fq (K_ (fun q=>Value.slice q M.n M.lc) eq1);refine Lv (pf CG o) (cZ 1 (hx:=(rfl.trans (K_ (fun q=>Value.slice q (M.n) (M.lc)) eq1))))<|Lv (pt (M.pl o)) (aM m18.aI o)<|av (pt (M.pl o))<|aC<|Ws ?_;obtain⟨H,ahL⟩ : ∃ r,r=x.kind % 7:=⟨_,rfl⟩;have awS:H<7:=by rw[ahL]; exact I_ _ (by omega)
 have YW:=m15 o (by omega);have FL:=YW.c;have ahM:=YW.n;have hkn:=(Z.inv o (by omega)).kn;have hko:=hkn o (by omega);have hko:0<=(M.ml o).s.known o/\(M.ml o).s.known o<1099511627776:=hko;have hU : ∀ k,k<(M.ml o).s.nn->ku ((M.ml o).id k):=fun k hk=>by have Y:=(Z.inv o (by omega)).pos k hk; have I:=(Z.inv o (by omega)).top k hk; exact⟨by show(0:Int)<=(M.ml o).core.id k; omega,by show(M.ml o).core.id k<=_; omega⟩
 have hbn:=(Z.g o (by omega)).bn;refine qI (T:=32) (T':=32) (a := .tmp 7) (v := .tmp 44) (m:=14) (z:=fun h=>if h<1 then au 0 else if h<8 then aD 0 else if h<9 then .int .u8 (0)else if h<10 then aD 0 else if h<12 then au 0 else aD 0) (y:=bI (bI (bI (bI (fun h=>if h<1 then au 0 else if h<8 then aD 0 else if h<9 then .int .u8 (0)else if h<10 then aD 0 else if h<12 then au 0 else aD 0) 0 1 (fun _=>au ((o:Int)+1))) 1 1 (fun _=>aD ((M.ml o).s.known o+1))) 2 6 (rv .u64 ((M.ml o).s.known))) 8 1 (fun _ => .int .u8 ((H:Int)+1))) (u := .agg (aA 14 (bI (bI (bI (bI (fun h=>if h<1 then au 0 else if h<8 then aD 0 else if h<9 then .int .u8 (0)else if h<10 then aD 0 else if h<12 then au 0 else aD 0) 0 1 (fun _=>au ((o:Int)+1))) 1 1 (fun _=>aD ((M.ml o).s.known o+1))) 2 6 (rv .u64 ((M.ml o).s.known))) 8 1 (fun _ => .int .u8 ((H:Int)+1))))) 20 21 (List.replicate 22 (0,2,[],[])) #[au (o:Int),au ((o:Int)+1),(pt (M.pl o)),au (o:Int),(pt (M.pl o)),(pt (M.pl o)),(pf (M.pl o) 12),(pf (M.pl o) (o+12)),aD ((M.ml o).s.known o),aD ((M.ml o).s.known o+1),(pt (M.pl o)),(pt (M.pl o)),(pt (M.pl o)),(pf (M.pl o) 12),.agg (aA 6 (rv .u64 ((M.ml o).s.known))),(pf G 3),.int .u8 (x.kind:Int),.int .u8 (H:Int),.int .u8 ((H:Int)+1),.agg (aA 14 (bI (bI (bI (bI (fun h=>if h<1 then au 0 else if h<8 then aD 0 else if h<9 then .int .u8 (0)else if h<10 then aD 0 else if h<12 then au 0 else aD 0) 0 1 (fun _=>au ((o:Int)+1))) 1 1 (fun _=>aD ((M.ml o).s.known o+1))) 2 6 (rv .u64 ((M.ml o).s.known))) 8 1 (fun _ => .int .u8 ((H:Int)+1)))),undef,undef] (by kernel_rfl) (by kernel_rfl) (by kernel_rfl) (by kernel_rfl) (by kernel_rfl) (by kernel_rfl) rfl (by kernel_rfl) rfl rfl (by kernel_rfl) (fun A=>(show ev _ (.tmp 7)=(pt A)from by kernel_rfl)) (fun A=>(show ev _ (.tmp 44) = .agg (aA 14 (bI (bI (bI (bI (fun h=>if h<1 then au 0 else if h<8 then aD 0 else if h<9 then .int .u8 (0)else if h<10 then aD 0 else if h<12 then au 0 else aD 0) 0 1 (fun _=>au ((o:Int)+1))) 1 1 (fun _=>aD ((M.ml o).s.known o+1))) 2 6 (rv .u64 ((M.ml o).s.known))) 8 1 (fun _ => .int .u8 ((H:Int)+1))))from by kernel_rfl)) (bH _ _) (bW (bW (bW (bW (fun jq _=>by show((fun h=>if h<1 then au 0 else if h<8 then aD 0 else if h<9 then .int .u8 (0)else if h<10 then aD 0 else if h<12 then au 0 else aD 0:Nat->Value) jq).oneCell'=true; simp only[]; repeat (first|rfl|split)) (fun _ _=>rfl)) (fun _ _=>rfl)) (fun _ _=>rfl)) (fun _ _=>rfl)) (by kernel_rfl) (fun A => ?_) ?_
 ·refine⟨?_,?_,?_,?_,?_,?_,?_,?_,?_,?_,?_,?_,?_,?_,?_,?_,?_,?_,?_,?_,?_,?_,trivial⟩
  ·exact .inr (.inr nW)
  ·exact .inr (.inr (oL (au ((o:Int)+1)) fun E D=>Fx.JE rfl (show ev _ (.tmp 25)=au (o:Int)from by kernel_rfl) (show ev _ (.const (au 1))=au 1 from by kernel_rfl) Fx.io))
  ·exact .inr (.inr nW)
  ·exact .inr (.inr nW)
  ·exact .inr (.inr nW)
  ·exact .inr (.inr nW)
  ·exact .inr (.inr nW)
  ·exact .inr (.inr (oL (pf (M.pl o) (o+12)) fun E D=>gH rfl (show ev _ (.tmp 31)=(pf (M.pl o) 12)from by kernel_rfl) (show ev _ (.tmp 28)=au (o:Int)from by kernel_rfl) Tryz.underlying30 (s:=1) (by kernel_rfl) (by omega) (by omega) (by omega)))
  ·exact .inr (.inr (oL (aD ((M.ml o).s.known o)) fun E D=>bB (x:=mE (M.ml o)) rfl (show ev _ (.tmp 32)=(pf (M.pl o) (o+12))from by kernel_rfl) (by kernel_rfl) (FL.aI.below D (by have:=FL.lt; omega)) (i:=o+12) (by omega) (by omega) (kM _ (by omega) (lu _ (by omega) (by omega)))))
  ·exact .inr (.inr (oL (aD ((M.ml o).s.known o+1)) fun E D=>Fx.JE rfl (show ev _ (.tmp 33)=aD ((M.ml o).s.known o)from by kernel_rfl) (show ev _ (.const (aD 1))=aD 1 from by kernel_rfl) (jH (by omega) (by omega))))
  ·exact .inr (.inr nW)
  ·exact .inr (.inr nW)
  ·exact .inr (.inr nW)
  ·exact .inr (.inr nW)
  ·exact .inr (.inr (oL (.agg (aA 6 (rv .u64 ((M.ml o).s.known)))) fun E D=>eT (x:=mE (M.ml o)) (y:=rv .u64 ((M.ml o).s.known)) rfl (show ev _ (.tmp 38)=(pf (M.pl o) 12)from by kernel_rfl) (by kernel_rfl) (by kernel_rfl) (FL.aI.below D (by have:=FL.lt; omega)) (i:=12) (by omega) (by omega) (fun j C=>kM _ (by omega) (lu _ C (by omega)))))
  ·exact .inr (.inr nW)
  ·exact .inr (.inr (oL (.int .u8 (x.kind:Int)) fun E D=>bB (x:=Gi x) rfl (show ev _ (.tmp 40)=(pf G 3)from by kernel_rfl) (by kernel_rfl) (m16.aI.below D (by have:=m16.lt; omega)) (i:=3) (by omega) (by omega) rfl))
  ·exact .inr (.inr (oL (.int .u8 (H:Int)) fun E D=>Fx.zx rfl (show ev _ (.tmp 41) = .int .u8 (x.kind:Int)from by kernel_rfl) (show ev _ (.const (.int .u8 (7))) = .int .u8 (7)from by kernel_rfl) (by omega) (Gj ahL)))
  ·exact .inr (.inr (oL (.int .u8 ((H:Int)+1)) fun E D=>Fx.JE rfl (show ev _ (.const (.int .u8 (1))) = .int .u8 (1)from by kernel_rfl) (show ev _ (.tmp 42) = .int .u8 (H:Int)from by kernel_rfl) (Fx.u8e (by omega) (by omega))))
  ·exact .inr (.inr (oL (.agg (aA 14 (bI (bI (bI (bI (fun h=>if h<1 then au 0 else if h<8 then aD 0 else if h<9 then .int .u8 (0)else if h<10 then aD 0 else if h<12 then au 0 else aD 0) 0 1 (fun _=>au ((o:Int)+1))) 1 1 (fun _=>aD ((M.ml o).s.known o+1))) 2 6 (rv .u64 ((M.ml o).s.known))) 8 1 (fun _ => .int .u8 ((H:Int)+1))))) fun E D=>fV (vs := [(0,au ((o:Int)+1)),(1,aD ((M.ml o).s.known o+1)),(2,.agg (aA 6 (rv .u64 ((M.ml o).s.known)))),(3,.int .u8 ((H:Int)+1))]) (places := #[(0,1),(1,1),(2,6),(8,1),(9,1),(10,1),(11,1),(12,1),(13,1)]) (m:=14) (x:=fun h=>if h<1 then au 0 else if h<8 then aD 0 else if h<9 then .int .u8 (0)else if h<10 then aD 0 else if h<12 then au 0 else aD 0) rfl (Fx.aaF (show ev _ (.tmp 26)=au ((o:Int)+1)from by kernel_rfl) (show ev _ (.tmp 34)=aD ((M.ml o).s.known o+1)from by kernel_rfl) (show ev _ (.tmp 39) = .agg (aA 6 (rv .u64 ((M.ml o).s.known)))from by kernel_rfl) (show ev _ (.tmp 43) = .int .u8 ((H:Int)+1)from by kernel_rfl)) Tryz.underlying32 (by kernel_rfl) (by kernel_rfl) (by rw[bD (off:=0) (s:=1) (y:=fun _=>au ((o:Int)+1)) (by kernel_rfl) (cells_one (by rfl)) (by rfl)]; rw[bD (off:=1) (s:=1) (y:=fun _=>aD ((M.ml o).s.known o+1)) (by kernel_rfl) (cells_one (by rfl)) (by rfl)]; rw[bD (off:=2) (s:=6) (y:=rv .u64 ((M.ml o).s.known)) (by kernel_rfl) (bH _ _) (by rfl)]; rw[bD (off:=8) (s:=1) (y:=fun _ => .int .u8 ((H:Int)+1)) (by kernel_rfl) (cells_one (by rfl)) (by rfl)]; rfl)))
  ·exact .inl rfl
  exact .inr (.inl rfl)
 rintro A w3 f1 hf1 Dz m19 hb1;have adJ:p≠A:=t_ (n_ (m12.lt) Dz);have apZ:G≠A:=t_ (n_ (m16.lt) Dz);have adH:U≠A:=t_ (n_ (m17.lt) Dz);have aqa:CG≠A:=t_ (n_ (m18.lt) Dz);have ahN:(M.pl o)≠A:=t_ (n_ (FL.lt) Dz);have adK:(.slice M.aa (M.an) (M.ac):Value).ownBlock≠some A:=fun e=>by have:=(m14.ge e).2; omega
 have⟨m22,m23,m24,nA,pE,b4⟩:=ql hb1 m15 m16 m17 m18 ahM b3;have Dz:w.heap.size<=A:=m_ b3.size Dz;have LK:=m19.lt;have q1:f1 3=(pt G):=by rw[hf1]; kernel_rfl
 have q2:f1 4=(pt U):=by rw[hf1]; kernel_rfl
 have q3:f1 6=(pt (M.pl o)):=by rw[hf1]; kernel_rfl
 have q4:f1 7=(pt A):=by rw[hf1]; kernel_rfl
 clear hf1;refine sN<|Ws ?_;obtain⟨d,eV0⟩ : ∃ V:EvM,V=(⟨(o:Int)+1,(M.ml o).s.known o+1,(M.ml o).s.known,(H:Int)+1,0,0,0,0,0⟩:EvM):=⟨_,rfl⟩;have hz1:ku 0:=⟨by decide,by decide⟩;have hz2:xG 0:=⟨by decide,by decide⟩;have t:fT d:=by rw[eV0]; exact⟨⟨by show(_:Int)<=(o:Int)+1; omega,by show(o:Int)+1<=_; omega⟩,⟨by show(0:Int)<=(M.ml o).s.known o+1; omega,by show(M.ml o).s.known o+1<=_; omega⟩,fun i hi=>⟨(hkn i hi).1,by have q:(M.ml o).s.known i<1099511627776:=(hkn i hi).2; show(M.ml o).s.known i<=_; omega⟩,⟨by show(0:Int)<=(H:Int)+1; omega,by show(H:Int)+1<=255; omega⟩,hz1,hz2,hz2,hz1,hz1⟩
 have oN:aQ w3 A 14 (bQ d) 32:=m19.congr (fun j C=>by rw[eV0]; rcases j with _|_|_|_|_|_|_|_|_|_|_|_|_|_|j <;> first|rfl|omega|exact K_ (Value.int .u8) (by omega))
 have X:mG d:=by rw[eV0]; exact⟨by show(0:Int)<=_; decide,by show(0:Int)<=_; decide⟩
 have hd0:d.o=(o:Int)+1/\d.seq=(M.ml o).s.known o+1/\d.deps=(M.ml o).s.known:=by rw[eV0]; exact⟨rfl,rfl,rfl⟩
 have ek0:d.kind=(H:Int)+1:=by rw[eV0]
 refine Wl<|av (aD 0)<|aC ?_;have pF:Fx.Own w3 B 72 1 (.slice M.la (M.n) (M.lc)) M.n (F3 M.pl):=nA.fq (K_ (fun q=>Value.slice q M.n M.lc) eq1.symm);refine Dl (fun f w_ => ∃ nd:Int,ku nd/\f 3=(pt G)/\f 4=(pt U)/\f 7=(pt A)/\f 8=aD nd/\aQ w_ G 9 (Gi x) 36/\aQ w_ U 14 (fun h=>if h<1 then au 0 else if h<8 then aD 0 else if h<9 then .int .u8 (0)else if h<10 then aD 0 else if h<12 then au 0 else aD 0) 32/\aQ w_ A 14 (bQ d) 32/\Below w.heap.size w w_) ?_ ?_
 ·refine Ws ?_;have YX:=m22 o (by omega);have VD:=YX.c;have asW:=YX.n;refine Wl<|aR q3<|av (pt (M.pl o))<|av (pt (M.pl o))<|av (pf (M.pl o) 18)<|Lv (.slice (M.ml o).s.na ((M.ml o).s.nn) ((M.ml o).s.nc)) (aM VD.aI 18)<|av (au (((M.ml o).s.nn:Nat):Int))<|Lv (.bool (decide (0<(((M.ml o).s.nn:Nat):Int)))) (Fx.Rh rfl rfl rfl)<|aC<|Wc (b:=decide (0<(((M.ml o).s.nn:Nat):Int))) rfl (fun c51 => ?_)<|fun c51 => ?_
  ·have c51:=h_ c51;obtain⟨WK,ahP⟩ : ∃ r,r=x.node % (M.ml o).s.nn:=⟨_,rfl⟩;have aqb:WK<(M.ml o).s.nn:=(by rw[ahP]; exact I_ _ (by omega));refine zQ<|eG q3<|aU (pt (M.pl o))<|aU (pt (M.pl o))<|aU (pf (M.pl o) 18)<|Qv (.slice (M.ml o).s.na ((M.ml o).s.nn) ((M.ml o).s.nc)) (fun E D=>aM (VD.aI.dr D) 18)<|Qv (pf G 4) (fun E D=>je q1 4)<|Qv (.int .u8 (x.node:Int)) (fun E D=>aM (m23.aI.dr D) 4)<|Qv (au x.node) (fun E D=>dD rfl rfl (by kernel_rfl) Tryz.underlying3 (iN (by omega) rfl))<|eG q3<|aU (pt (M.pl o))<|aU (pt (M.pl o))<|aU (pf (M.pl o) 18)<|Qv (.slice (M.ml o).s.na ((M.ml o).s.nn) ((M.ml o).s.nc)) (fun E D=>aM (VD.aI.dr D) 18)<|aU (au (((M.ml o).s.nn:Nat):Int))<|Qv (au WK) (fun E D=>Fx.zx rfl rfl rfl (by omega) (Gj ahP)) ?_;obtain⟨QZ,GU⟩:=pE.addr (by omega);have oq:Fx.Own w3 B 61 56 (.slice (some ⟨QZ,0,none⟩) ((M.ml o).s.nn) ((M.ml o).s.nc)) ((M.ml o).s.nn) (Jy (M.ml o)):=pE.fq (K_ (fun q=>Value.slice q ((M.ml o).s.nn) ((M.ml o).s.nc)) GU);refine Qv (pf QZ (56*WK)) (fun E D=>cZ 56 (hx:=(rfl.trans (K_ (fun q=>Value.slice q ((M.ml o).s.nn) ((M.ml o).s.nc)) GU))))<|aU (pf QZ (56*WK))<|Qv (aD ((M.ml o).id WK)) (fun E D=>aM (oq.aI.dr D) (56*WK) (Fx.dF (k:=WK) (j:=0) (by omega) (by omega) rfl))<|aU (aD ((M.ml o).id WK))<|Qn ?_;rintro _ ⟨qd,rfl⟩;obtain⟨wq2,wK⟩ : ∃ E,E=World.drewN w3 qd:=⟨_,rfl⟩;rw[<- wK];have s5:Stp w3.heap.size w3 wq2:=(by rw[wK]; exact Sb (jM w3 qd));have⟨nX,pW,rJ,sD,b5⟩:=sH s5.old m23 m24 oN oq b4;clear wK;have nY:Fx.Own wq2 B 61 56 (.slice (M.ml o).s.na ((M.ml o).s.nn) ((M.ml o).s.nc)) ((M.ml o).s.nn) (Jy (M.ml o)):=sD.fq (K_ (fun q=>Value.slice q ((M.ml o).s.nn) ((M.ml o).s.nc)) GU.symm);exact xE ⟨((M.ml o).id WK),(hU WK aqb),q1,q2,q4,Fx.ic,nX,pW,rJ,b5⟩
  have c51:=j_ c51;refine Wk ?_;exact xE ⟨0,⟨by decide,by decide⟩,q1,q2,q4,Fx.ic,m23,m24,oN,b4⟩
 rintro f2 w4 ⟨nd,O7,Y,I,F,h4,mW,nC,K,J⟩;refine Ws<|ay<|Lv (pf A 8) (je F 8)<|Lv (.int .u8 (d.kind)) (aM K.aI 8)<|aC<|Wb<|ay ?_;by_cases c73:d.kind=1
 ·refine Lv aG (eF c73)<|av aG<|aC<|aO<|Ws<|Ws ?_;obtain⟨r76,ahQ⟩ : ∃ r,r=x.node % 2:=⟨_,rfl⟩;have awT:r76<2:=by rw[ahQ]; exact I_ _ (by omega)
  refine Wl<|Lv (pf G 4) (je Y 4)<|Lv (.int .u8 (x.node:Int)) (aM mW.aI 4)<|Lv (.int .u8 (r76:Int)) (Fx.zx rfl rfl rfl (by omega) (Gj ahQ)) ?_;by_cases c77:(r76:Int)=1
  ·refine Lv aG (eF c77)<|aC<|aO<|Wl<|aR h4<|Lv (pf A 9) (je F 9)<|jh K 9 (aD nd) fun w5 qZ s6 z3 => ?_;obtain⟨L,eV1⟩ : ∃ V:EvM,V=⟨d.o,d.seq,d.deps,d.kind,nd,d.dst,d.aT,d.req,d.of⟩:=⟨_,rfl⟩;have Lc:fT L:=(by rw[eV1]; exact⟨t.o,t.seq,t.deps,t.kind,O7,t.dst,t.aT,t.req,t.of⟩);have aqd:L.o=(o:Int)+1/\L.seq=(M.ml o).s.known o+1/\L.deps=(M.ml o).s.known:=(by rw[eV1]; exact hd0);have aqe:mG L:=(by rw[eV1]; exact⟨X.aT,X.req⟩);have nZ:aQ w5 A 14 (bQ L) 32:=qZ.congr (fun j C=>by rw[eV1]; exact D9 _ _ j C);have gM:=iw s6 K.ty;have sF:=lN gM mW;have xV:=nC.dh s6 (by omega);have b7:=s6.below J J.size (by omega);refine aC<|Wl<|Lv (pf G 6) (je Y 6)<|Lv (.int .u16 (x.aT:Int)) (aM sF.aI 6)<|Lv (au x.aT) (dD rfl rfl (by kernel_rfl) Tryz.underlying2 (iN (by omega) rfl))<|Lv (pf A 11) (je F 11)<|jh nZ 11 (au x.aT) fun w6 sJ s7 z4 => ?_;obtain⟨V2,eV2⟩ : ∃ V:EvM,V=⟨L.o,L.seq,L.deps,L.kind,L.node,L.dst,(x.aT:Int),L.req,L.of⟩:=⟨_,rfl⟩;have aqf:fT V2:=(by rw[eV2]; exact⟨Lc.o,Lc.seq,Lc.deps,Lc.kind,Lc.node,Lc.dst,(show xG (x.aT:Int)from⟨by omega,by omega⟩),Lc.req,Lc.of⟩);have aqg:V2.o=(o:Int)+1/\V2.seq=(M.ml o).s.known o+1/\V2.deps=(M.ml o).s.known:=(by rw[eV2]; exact aqd);have aqh:mG V2:=(by rw[eV2]; exact⟨by show(x.aT:Int)<=65536; omega,aqe.req⟩);have sK:aQ w6 A 14 (bQ V2) 32:=sJ.congr (fun j C=>by rw[eV2]; exact FK _ _ j C);have uo:=xV.dh s7 (by omega);have b8:=s7.below b7 b7.size (by omega);refine Ln<|bM<|sN<|ay<|Lv (.agg (aA 14 (bQ V2))) (gD sK.aI 0 (ha:=F))<|fI uo 0 (ha:=I) (h1:=(iI _)) fun w7 tJ s8 z5 => ?_;have tK:aQ w7 U 14 (bQ V2) 32:=aW tJ;have uq:=sK.dh s8 (by omega);have b9:=s8.below b8 b8.size (by omega);refine aC (Wr (⟨.agg (aA 14 (bQ V2)),rV Tryz.results38 ⟨_,I,aX tK.aI (by kernel_rfl) (by kernel_rfl)⟩,?_⟩));exact⟨V2,aqf,aqh,by rw[<- eo]; exact aqg,rfl,b9⟩
  refine Lv aF (fE c77)<|aC<|aK<|Wk<|sN<|Wl<|Lv (pf G 6) (je Y 6)<|Lv (.int .u16 (x.aT:Int)) (aM mW.aI 6)<|Lv (au x.aT) (dD rfl rfl (by kernel_rfl) Tryz.underlying2 (iN (by omega) rfl))<|Lv (pf A 11) (je F 11)<|jh K 11 (au x.aT) fun w8 sM s9 z6 => ?_;obtain⟨V3,eV3⟩ : ∃ V:EvM,V=⟨d.o,d.seq,d.deps,d.kind,d.node,d.dst,(x.aT:Int),d.req,d.of⟩:=⟨_,rfl⟩;have aqi:fT V3:=by rw[eV3]; exact⟨t.o,t.seq,t.deps,t.kind,t.node,t.dst,(show xG (x.aT:Int)from⟨by omega,by omega⟩),t.req,t.of⟩
  have aqj:V3.o=(o:Int)+1/\V3.seq=(M.ml o).s.known o+1/\V3.deps=(M.ml o).s.known:=by rw[eV3]; exact hd0
  have aqk:mG V3:=by rw[eV3]; exact⟨by show(x.aT:Int)<=65536; omega,X.req⟩
  have sO:aQ w8 A 14 (bQ V3) 32:=sM.congr (fun j C=>by rw[eV3]; exact FK _ _ j C);have pY:=nC.dh s9 (by omega);have b10:=s9.below J J.size (by omega);refine Ln<|bM<|sN<|ay<|Lv (.agg (aA 14 (bQ V3))) (gD sO.aI 0 (ha:=F))<|fI pY 0 (ha:=I) (h1:=(iI _)) fun w9 uI s10 z7 => ?_;have nL:aQ w9 U 14 (bQ V3) 32:=aW uI;have m64:=sO.dh s10 (by omega);have b11:=s10.below b10 b10.size (by omega);refine aC (Wr (⟨.agg (aA 14 (bQ V3)),rV Tryz.results38 ⟨_,I,aX nL.aI (by kernel_rfl) (by kernel_rfl)⟩,?_⟩));exact⟨V3,aqi,aqk,by rw[<- eo]; exact aqj,rfl,b11⟩
 refine Lv aF (fE c73)<|av aF<|aC<|aK<|ay ?_;by_cases c85:d.kind=2
 ·refine Lv aG (eF c85)<|av aG<|aC<|aO<|ay<|aR h4<|Lv (pf A 9) (je F 9)<|jh K 9 (aD nd) fun um uW s11 z8 => ?_;obtain⟨P,eV4⟩ : ∃ V:EvM,V=⟨d.o,d.seq,d.deps,d.kind,nd,d.dst,d.aT,d.req,d.of⟩:=⟨_,rfl⟩;have Ld:fT P:=by rw[eV4]; exact⟨t.o,t.seq,t.deps,t.kind,O7,t.dst,t.aT,t.req,t.of⟩
  have aql:P.o=(o:Int)+1/\P.seq=(M.ml o).s.known o+1/\P.deps=(M.ml o).s.known:=by rw[eV4]; exact hd0
  have aqm:mG P:=by rw[eV4]; exact⟨X.aT,X.req⟩
  have uJ:aQ um A 14 (bQ P) 32:=uW.congr (fun j C=>by rw[eV4]; exact D9 _ _ j C);have zh:=iw s11 K.ty;have wz:=lN zh mW;have wB:=nC.dh s11 (by omega);have b12:=s11.below J J.size (by omega);refine aC<|Wl<|Lv (pf G 6) (je Y 6)<|Lv (.int .u16 (x.aT:Int)) (aM wz.aI 6)<|Lv (au x.aT) (dD rfl rfl (by kernel_rfl) Tryz.underlying2 (iN (by omega) rfl))<|Lv (au ((x.aT:Int)+1)) dZ<|Lv (pf A 11) (je F 11)<|jh uJ 11 (au ((x.aT:Int)+1)) fun Ev rM s12 z9 => ?_;obtain⟨V5,eV5⟩ : ∃ V:EvM,V=⟨P.o,P.seq,P.deps,P.kind,P.node,P.dst,(x.aT:Int)+1,P.req,P.of⟩:=⟨_,rfl⟩;have aqn:fT V5:=by rw[eV5]; exact⟨Ld.o,Ld.seq,Ld.deps,Ld.kind,Ld.node,Ld.dst,(show xG ((x.aT:Int)+1)from⟨by omega,by omega⟩),Ld.req,Ld.of⟩
  have aqo:V5.o=(o:Int)+1/\V5.seq=(M.ml o).s.known o+1/\V5.deps=(M.ml o).s.known:=by rw[eV5]; exact aql
  have aqp:mG V5:=by rw[eV5]; exact⟨by show(x.aT:Int)+1<=65536; omega,aqm.req⟩
  have tL:aQ Ev A 14 (bQ V5) 32:=rM.congr (fun j C=>by rw[eV5]; exact FK _ _ j C);have tN:=wB.dh s12 (by omega);have b13:=s12.below b12 b12.size (by omega);refine Ln<|bM<|sN<|ay<|Lv (.agg (aA 14 (bQ V5))) (gD tL.aI 0 (ha:=F))<|fI tN 0 (ha:=I) (h1:=(iI _)) fun Dn sG s13 z10 => ?_;have xk:aQ Dn U 14 (bQ V5) 32:=aW sG;have uX:=tL.dh s13 (by omega);have b14:=s13.below b13 b13.size (by omega);refine aC (Wr (⟨.agg (aA 14 (bQ V5)),rV Tryz.results38 ⟨_,I,aX xk.aI (by kernel_rfl) (by kernel_rfl)⟩,?_⟩));exact⟨V5,aqn,aqp,by rw[<- eo]; exact aqo,rfl,b14⟩
 refine Lv aF (fE c85)<|av aF<|aC<|aK<|ay ?_;by_cases c94:d.kind=3
 ·refine Lv aG (eF c94)<|av aG<|aC<|aO<|ay<|aR h4<|Lv (pf A 9) (je F 9)<|jh K 9 (aD nd) fun GD xq Dm z11 => ?_;obtain⟨Q,eV6⟩ : ∃ V:EvM,V=⟨d.o,d.seq,d.deps,d.kind,nd,d.dst,d.aT,d.req,d.of⟩:=⟨_,rfl⟩;have Lf:fT Q:=by rw[eV6]; exact⟨t.o,t.seq,t.deps,t.kind,O7,t.dst,t.aT,t.req,t.of⟩
  have aqr:Q.o=(o:Int)+1/\Q.seq=(M.ml o).s.known o+1/\Q.deps=(M.ml o).s.known:=by rw[eV6]; exact hd0
  have aqs:mG Q:=by rw[eV6]; exact⟨X.aT,X.req⟩
  have xu:aQ GD A 14 (bQ Q) 32:=xq.congr (fun j C=>by rw[eV6]; exact D9 _ _ j C);have acy:=iw Dm K.ty;have uY:=lN acy mW;have uL:=nC.dh Dm (by omega);have b15:=Dm.below J J.size (by omega);refine aC<|ay<|Lv (pf G 6) (je Y 6)<|Lv (.int .u16 (x.aT:Int)) (aM uY.aI 6)<|Lv (au x.aT) (dD rfl rfl (by kernel_rfl) Tryz.underlying2 (iN (by omega) rfl))<|Lv (au ((x.aT:Int)+1)) dZ<|Lv (pf A 11) (je F 11)<|jh xu 11 (au ((x.aT:Int)+1)) fun Px tQ s15 z12 => ?_;obtain⟨R,eV7⟩ : ∃ V:EvM,V=⟨Q.o,Q.seq,Q.deps,Q.kind,Q.node,Q.dst,(x.aT:Int)+1,Q.req,Q.of⟩:=⟨_,rfl⟩;have Lg:fT R:=by rw[eV7]; exact⟨Lf.o,Lf.seq,Lf.deps,Lf.kind,Lf.node,Lf.dst,(show xG ((x.aT:Int)+1)from⟨by omega,by omega⟩),Lf.req,Lf.of⟩
  have aqt:R.o=(o:Int)+1/\R.seq=(M.ml o).s.known o+1/\R.deps=(M.ml o).s.known:=by rw[eV7]; exact aqr
  have aqu:mG R:=by rw[eV7]; exact⟨by show(x.aT:Int)+1<=65536; omega,aqs.req⟩
  have wC:aQ Px A 14 (bQ R) 32:=tQ.congr (fun j C=>by rw[eV7]; exact FK _ _ j C);have ahR:=iw s15 xu.ty;have yI:=lN ahR uY;have xw:=uL.dh s15 (by omega);have b16:=s15.below b15 b15.size (by omega);refine aC<|Wl<|Lv (pf G 7) (je Y 7)<|Lv (.int .u8 (x.req:Int)) (aM yI.aI 7)<|Lv (aD x.req) (dD rfl rfl (by kernel_rfl) Tryz.underlying28 (jH (by omega) rfl))<|Lv (aD ((x.req:Int)+1)) dZ<|Lv (pf A 12) (je F 12)<|jh wC 12 (aD ((x.req:Int)+1)) fun Mt yJ s16 z13 => ?_;obtain⟨V8,eV8⟩ : ∃ V:EvM,V=⟨R.o,R.seq,R.deps,R.kind,R.node,R.dst,R.aT,(x.req:Int)+1,R.of⟩:=⟨_,rfl⟩;have aqv:fT V8:=by rw[eV8]; exact⟨Lg.o,Lg.seq,Lg.deps,Lg.kind,Lg.node,Lg.dst,Lg.aT,(show ku ((x.req:Int)+1)from⟨by omega,by omega⟩),Lg.of⟩
  have aqw:V8.o=(o:Int)+1/\V8.seq=(M.ml o).s.known o+1/\V8.deps=(M.ml o).s.known:=by rw[eV8]; exact aqt
  have aqx:mG V8:=by rw[eV8]; exact⟨aqu.aT,by show(x.req:Int)+1<=256; omega⟩
  have zF:aQ Mt A 14 (bQ V8) 32:=yJ.congr (fun j C=>by rw[eV8]; exact VB _ _ j C);have zi:=xw.dh s16 (by omega);have b17:=s16.below b16 b16.size (by omega);refine Ln<|bM<|sN<|ay<|Lv (.agg (aA 14 (bQ V8))) (gD zF.aI 0 (ha:=F))<|fI zi 0 (ha:=I) (h1:=(iI _)) fun w16 zk Jv z14 => ?_;have zT:aQ w16 U 14 (bQ V8) 32:=aW zk;have AJ:=zF.dh Jv (by omega);have b18:=Jv.below b17 b17.size (by omega);refine aC (Wr (⟨.agg (aA 14 (bQ V8)),rV Tryz.results38 ⟨_,I,aX zT.aI (by kernel_rfl) (by kernel_rfl)⟩,?_⟩));exact⟨V8,aqv,aqx,by rw[<- eo]; exact aqw,rfl,b18⟩
 refine Lv aF (fE c94)<|av aF<|aC<|aK<|ay ?_;by_cases ahS:d.kind=4
 ·refine Lv aG (eF ahS)<|av aG<|aC<|aO<|ay<|Lv (pf G 7) (je Y 7)<|Lv (.int .u8 (x.req:Int)) (aM mW.aI 7)<|Lv (aD x.req) (dD rfl rfl (by kernel_rfl) Tryz.underlying28 (jH (by omega) rfl))<|Lv (aD ((x.req:Int)+1)) dZ<|Lv (pf A 12) (je F 12)<|jh K 12 (aD ((x.req:Int)+1)) fun Sn yM LP z15 => ?_;obtain⟨S,eV9⟩ : ∃ V:EvM,V=⟨d.o,d.seq,d.deps,d.kind,d.node,d.dst,d.aT,(x.req:Int)+1,d.of⟩:=⟨_,rfl⟩;have Lh:fT S:=by rw[eV9]; exact⟨t.o,t.seq,t.deps,t.kind,t.node,t.dst,t.aT,(show ku ((x.req:Int)+1)from⟨by omega,by omega⟩),t.of⟩
  have aqy:S.o=(o:Int)+1/\S.seq=(M.ml o).s.known o+1/\S.deps=(M.ml o).s.known:=by rw[eV9]; exact hd0
  have ahT:mG S:=by rw[eV9]; exact⟨X.aT,by show(x.req:Int)+1<=256; omega⟩
  have zl:aQ Sn A 14 (bQ S) 32:=yM.congr (fun j C=>by rw[eV9]; exact VB _ _ j C);have ahU:=iw LP K.ty;have xB:=lN ahU mW;have zW:=nC.dh LP (by omega);have b19:=LP.below J J.size (by omega);refine aC<|Wl<|Lv (pf G 8) (je Y 8)<|Lv (.int .u8 (x.of:Int)) (aM xB.aI 8)<|Lv (aD x.of) (dD rfl rfl (by kernel_rfl) Tryz.underlying28 (jH (by omega) rfl))<|Lv (aD ((x.of:Int)+1)) dZ<|Lv (pf A 13) (je F 13)<|jh zl 13 (aD ((x.of:Int)+1)) fun LJ Bn s19 z16 => ?_;obtain⟨WL,YZ⟩ : ∃ V:EvM,V=⟨S.o,S.seq,S.deps,S.kind,S.node,S.dst,S.aT,S.req,(x.of:Int)+1⟩:=⟨_,rfl⟩;have ahV:fT WL:=by rw[YZ]; exact⟨Lh.o,Lh.seq,Lh.deps,Lh.kind,Lh.node,Lh.dst,Lh.aT,Lh.req,(show ku ((x.of:Int)+1)from⟨by omega,by omega⟩)⟩
  have ahW:WL.o=(o:Int)+1/\WL.seq=(M.ml o).s.known o+1/\WL.deps=(M.ml o).s.known:=by rw[YZ]; exact aqy
  have ahX:mG WL:=by rw[YZ]; exact⟨ahT.aT,ahT.req⟩
  have DT:aQ LJ A 14 (bQ WL) 32:=Bn.congr (fun j C=>by rw[YZ]; exact ahK _ _ j C);have rX:=zW.dh s19 (by omega);have b20:=s19.below b19 b19.size (by omega);refine Ln<|bM<|sN<|ay<|Lv (.agg (aA 14 (bQ WL))) (gD DT.aI 0 (ha:=F))<|fI rX 0 (ha:=I) (h1:=(iI _)) fun ZI uw s20 z17 => ?_;have sS:aQ ZI U 14 (bQ WL) 32:=aW uw;have nP:=DT.dh s20 (by omega);have F9:=s20.below b20 b20.size (by omega);refine aC (Wr (⟨.agg (aA 14 (bQ WL)),rV Tryz.results38 ⟨_,I,aX sS.aI (by kernel_rfl) (by kernel_rfl)⟩,?_⟩));exact⟨WL,ahV,ahX,by rw[<- eo]; exact ahW,rfl,F9⟩
 refine Lv aF (fE ahS)<|av aF<|aC<|aK<|ay ?_;by_cases ahY:d.kind=5
 ·refine Lv aG (eF ahY)<|av aG<|aC<|aO<|ay<|aR h4<|Lv (pf A 9) (je F 9)<|jh K 9 (aD nd) fun Mv nQ s21 z18 => ?_;obtain⟨N,Y0⟩ : ∃ V:EvM,V=⟨d.o,d.seq,d.deps,d.kind,nd,d.dst,d.aT,d.req,d.of⟩:=⟨_,rfl⟩;have C8:fT N:=by rw[Y0]; exact⟨t.o,t.seq,t.deps,t.kind,O7,t.dst,t.aT,t.req,t.of⟩
  have ahZ:N.o=(o:Int)+1/\N.seq=(M.ml o).s.known o+1/\N.deps=(M.ml o).s.known:=by rw[Y0]; exact hd0
  have aia:mG N:=by rw[Y0]; exact⟨X.aT,X.req⟩
  have oG:aQ Mv A 14 (bQ N) 32:=nQ.congr (fun j C=>by rw[Y0]; exact D9 _ _ j C);have aib:=iw s21 K.ty;have og:=lN aib mW;have pJ:=nC.dh s21 (by omega);have J8:=s21.below J J.size (by omega);refine aC<|ay<|Lv (pf G 6) (je Y 6)<|Lv (.int .u16 (x.aT:Int)) (aM og.aI 6)<|Lv (au x.aT) (dD rfl rfl (by kernel_rfl) Tryz.underlying2 (iN (by omega) rfl))<|Lv (au ((x.aT:Int)+1)) dZ<|Lv (pf A 11) (je F 11)<|jh oG 11 (au ((x.aT:Int)+1)) fun w21 rY s22 z19 => ?_;obtain⟨O,Y1⟩ : ∃ V:EvM,V=⟨N.o,N.seq,N.deps,N.kind,N.node,N.dst,(x.aT:Int)+1,N.req,N.of⟩:=⟨_,rfl⟩;have C9:fT O:=by rw[Y1]; exact⟨C8.o,C8.seq,C8.deps,C8.kind,C8.node,C8.dst,(show xG ((x.aT:Int)+1)from⟨by omega,by omega⟩),C8.req,C8.of⟩
  have aic:O.o=(o:Int)+1/\O.seq=(M.ml o).s.known o+1/\O.deps=(M.ml o).s.known:=by rw[Y1]; exact ahZ
  have aag:mG O:=by rw[Y1]; exact⟨by show(x.aT:Int)+1<=65536; omega,aia.req⟩
  have vF:aQ w21 A 14 (bQ O) 32:=rY.congr (fun j C=>by rw[Y1]; exact FK _ _ j C);have aie:=iw s22 oG.ty;have qR:=lN aie og;have uy:=pJ.dh s22 (by omega);have Sd:=s22.below J8 J8.size (by omega);refine aC ?_;obtain⟨W,er6⟩ : ∃ r,r=x.dst % 6:=⟨_,rfl⟩;have hr6:W<6:=by rw[er6]; exact I_ _ (by omega)
  refine Wl<|Lv (pf G 5) (je Y 5)<|Lv (.int .u8 (x.dst:Int)) (aM qR.aI 5)<|Lv (au x.dst) (dD rfl rfl (by kernel_rfl) Tryz.underlying3 (iN (by omega) rfl))<|Lv (au W) (Fx.zx rfl rfl rfl (by omega) (Gj er6))<|Lv (au ((W:Int)+1)) dZ<|Lv (pf A 10) (je F 10)<|jh vF 10 (au ((W:Int)+1)) fun w22 zm s23 z20 => ?_;obtain⟨WO,Y2⟩ : ∃ V:EvM,V=⟨O.o,O.seq,O.deps,O.kind,O.node,(W:Int)+1,O.aT,O.req,O.of⟩:=⟨_,rfl⟩;have aii:fT WO:=by rw[Y2]; exact⟨C9.o,C9.seq,C9.deps,C9.kind,C9.node,(show xG ((W:Int)+1)from⟨by omega,by omega⟩),C9.aT,C9.req,C9.of⟩
  have aij:WO.o=(o:Int)+1/\WO.seq=(M.ml o).s.known o+1/\WO.deps=(M.ml o).s.known:=by rw[Y2]; exact aic
  have aik:mG WO:=by rw[Y2]; exact⟨aag.aT,aag.req⟩
  have vG:aQ w22 A 14 (bQ WO) 32:=zm.congr (fun j C=>by rw[Y2]; exact VA _ _ j C);have BI:=uy.dh s23 (by omega);have Sg:=s23.below Sd Sd.size (by omega);refine Ln<|bM<|sN<|ay<|Lv (.agg (aA 14 (bQ WO))) (gD vG.aI 0 (ha:=F))<|fI BI 0 (ha:=I) (h1:=(iI _)) fun w23 xH s24 z21 => ?_;have uz:aQ w23 U 14 (bQ WO) 32:=aW xH;have xZ:=vG.dh s24 (by omega);have b25:=s24.below Sg Sg.size (by omega);refine aC (Wr (⟨.agg (aA 14 (bQ WO)),rV Tryz.results38 ⟨_,I,aX uz.aI (by kernel_rfl) (by kernel_rfl)⟩,?_⟩));exact⟨WO,aii,aik,by rw[<- eo]; exact aij,rfl,b25⟩
 refine Lv aF (fE ahY)<|av aF<|aC<|aK<|ay ?_;by_cases ail:d.kind=6
 ·refine Lv aG (eF ail)<|av aG<|aC<|aO ?_;obtain⟨W,er6⟩ : ∃ r,r=x.dst % 6:=⟨_,rfl⟩;have hr6:W<6:=by rw[er6]; exact I_ _ (by omega)
  refine Wl<|Lv (pf G 5) (je Y 5)<|Lv (.int .u8 (x.dst:Int)) (aM mW.aI 5)<|Lv (au x.dst) (dD rfl rfl (by kernel_rfl) Tryz.underlying3 (iN (by omega) rfl))<|Lv (au W) (Fx.zx rfl rfl rfl (by omega) (Gj er6))<|Lv (au ((W:Int)+1)) dZ<|Lv (pf A 10) (je F 10)<|jh K 10 (au ((W:Int)+1)) fun w24 yc ZH z22 => ?_;obtain⟨WQ,Y3⟩ : ∃ V:EvM,V=⟨d.o,d.seq,d.deps,d.kind,d.node,(W:Int)+1,d.aT,d.req,d.of⟩:=⟨_,rfl⟩;have ain:fT WQ:=by rw[Y3]; exact⟨t.o,t.seq,t.deps,t.kind,t.node,(show xG ((W:Int)+1)from⟨by omega,by omega⟩),t.aT,t.req,t.of⟩
  have aio:WQ.o=(o:Int)+1/\WQ.seq=(M.ml o).s.known o+1/\WQ.deps=(M.ml o).s.known:=by rw[Y3]; exact hd0
  have aip:mG WQ:=by rw[Y3]; exact⟨X.aT,X.req⟩
  have uD:aQ w24 A 14 (bQ WQ) 32:=yc.congr (fun j C=>by rw[Y3]; exact VA _ _ j C);have IY:=nC.dh ZH (by omega);have b26:=ZH.below J J.size (by omega);refine Ln<|bM<|sN<|ay<|Lv (.agg (aA 14 (bQ WQ))) (gD uD.aI 0 (ha:=F))<|fI IY 0 (ha:=I) (h1:=(iI _)) fun w25 EI s26 z23 => ?_;have AL:aQ w25 U 14 (bQ WQ) 32:=aW EI;have Ga:=uD.dh s26 (by omega);have b27:=s26.below b26 b26.size (by omega);refine aC (Wr (⟨.agg (aA 14 (bQ WQ)),rV Tryz.results38 ⟨_,I,aX AL.aI (by kernel_rfl) (by kernel_rfl)⟩,?_⟩));exact⟨WQ,ain,aip,by rw[<- eo]; exact aio,rfl,b27⟩
 refine Lv aF (fE ail)<|av aF<|aC<|aK<|Wk<|bM<|sN<|ay<|Lv (.agg (aA 14 (bQ d))) (gD K.aI 0 (ha:=F))<|fI nC 0 (ha:=I) (h1:=(iI _)) fun w26 BK s27 z24 => ?_;have zX:aQ w26 U 14 (bQ d) 32:=aW BK;have Kv:=K.dh s27 (by omega);have b28:=s27.below J J.size (by omega);refine aC (Wr (⟨.agg (aA 14 (bQ d)),rV Tryz.results38 ⟨_,I,aX zX.aI (by kernel_rfl) (by kernel_rfl)⟩,?_⟩));exact⟨d,t,X,by rw[<- eo]; exact hd0,rfl,b28⟩
theorem Rt.QF{L:fQ}{v:EvM}(h:bS L v=0):bR v=true:=by
 unfold bS at h;split at h; · cases h
 rename_i h1; simpa using h1
structure Rt.DoR(o:Nat)(x:Gg)(M M':WM)(v:EvM):Prop where
 n:M'.n=M.n
 oth : ∀ q,q≠o->M'.ml q=M.ml q
 c:(v=zeroE/\M'.an=M.an/\M'.ev=M.ev/\((M'.ml o).core=(M.ml o).core\/x.meet=true/\(M'.ml o).core=Fg M.ev M.an (M.ml (x.other % M.n)).s.known (M.ml o).core))\/(x.meet=false/\M'.an=M.an+1/\M'.ev=aH M.ev M.an v/\bS (M.ml o).core v=0/\(M'.ml o).core=bU (M.ml o).core v/\v.o=(o:Int)+1/\v.seq=(M.ml o).s.known o+1/\v.deps=(M.ml o).s.known)
theorem Rt.yT{L:fQ}{v:EvM}(h:bS L v=0):(bU L v).known=aH L.known (aL v) (L.known (aL v)+1):=by
 rcases qV L v with ⟨_,a⟩|⟨h1,_⟩
 ·exact a
 exact L_ h h1
theorem Rt.Li:fT zeroE:=by
 have z:ku 0:=⟨by decide,by decide⟩;have y:xG 0:=⟨by decide,by decide⟩;exact⟨y,z,fun _ _=>z,⟨by decide,by decide⟩,z,y,y,z,z⟩
def WR(p:Nat)(M:WM)(k:Nat):Prop:=k=p\/(Value.slice M.la M.n M.lc).ownBlock=some k\/(Value.slice M.aa M.an M.ac).ownBlock=some k
def Y4(w:World)(p:Nat)(M a:WM):Prop := ∀ k,WR p a k->WR p M k\/w.heap.size<=k
theorem om.ge{w:World}{B p T:Nat}{M:WM}(h:om w B p M T) : ∀ k,WR p M k->B<=k/\k<w.heap.size:=fun k b=>by
 rcases b with rfl|e|e
 ·exact⟨h.pB,h.c.lt⟩
 ·exact h.l.ge e
 ·exact h.a.ge e
theorem om.Cj{w w':World}{B p T:Nat}{M:WM}(h:om w B p M T)(a:B<=w.heap.size)(c:jN (WR p M) w w'):Below B w w':=Fx.jN.below (Below.refl B w) c (fun k b=>(h.ge k b).1) a
theorem om.Bt{w w':World}{B p T:Nat}{M:WM}(h:om w B p M T)(d:jN (WR p M) w w'):iP [44,72,32] w w':=Fx.iP.Ry d fun k b=>by
 rcases b with rfl|e|e
 ·exact⟨_,h.c.ty,by decide⟩
 ·exact⟨_,h.l.ty e,by decide⟩
 ·exact⟨_,h.a.ty e,by decide⟩
theorem Y4.app{w b:World}{p g:Nat}{M a:WM}(i:(Value.slice M.aa M.an M.ac).ownBlock=some g\/g=b.heap.size)(l:w.heap.size<=b.heap.size)(h1:a.la=M.la:=by rfl)(c:a.n=M.n:=by rfl)(d:a.lc=M.lc:=by rfl)(f:(Value.slice a.aa a.an a.ac).ownBlock=some g:=by rfl):Y4 w p M a:=fun k j=>by
 rcases j with h|h|h
 ·exact .inl (.inl h)
 ·rw[h1,c,d]at h; exact .inl (.inr (.inl h))
 ·have e:g=k:=B_ (f.symm.trans h)
  rcases i with h5|h5
  ·exact .inl (.inr (.inr (e ▸ h5)))
  ·exact .inr (by omega)
theorem om.mono{w:World}{B p T T':Nat}{M:WM}(h:om w B p M T)(a:T<=T'):om w B p M T' := { h with inv:=fun i b=>(h.inv i b).mono a }
set_option maxRecDepth 20000 in
set_option maxHeartbeats 2000000 in
theorem aiq(M:WM)(B p T:Nat)(x:Gg)(w:World)(d:om w B p M T)(hB:B<=w.heap.size)(hx:H6 x)(han:M.an<=60)(hT:T<=890000) :
 Calls Tryz.prog 13 #[(pt p),.agg (aA 9 (Gi x))] w fun e w' => ∃ v,e = .returned (.agg (aA 14 (bQ v)))/\fT v /\ ∃ O,om w' B p O (T+3660)/\DoR (x.who % M.n) x M O v/\O.an<=M.an+1/\(x.meet=true->O.an=M.an)/\jN (WR p M) w w'/\Y4 w p M O:=by
 have hWc:=d.c;have hWl:=d.l;have hWa:=d.a;have hWg:=d.g;have hn1:=d.n1;have hn6:=d.n6;have hpB:=d.pB;have lpp:p<w.heap.size:=hWc.lt;have hxw:=hx.who;have hxo:=hx.other;have hxk:=hx.kind;have hxn:=hx.node;have hxt:=hx.dst;have hxa:=hx.aT;have hxr:=hx.req;have hxf:=hx.of;refine Kent Tryz.func13 94 ?_;refine ay<|rF fun g1 w1 ng m1 s1 z1 => ?_;have⟨m2,f,m4,m5,m6⟩:=sH s1.old hWc hWl hWa hWg d;have b1:=(uO (WR p M) w).then s1 (.inr (uO (WR p M) w).size);have sw:w.heap.size<=g1:=by rw[ng]; exact(uO (WR p M) w).size
 have nK:=dn ng hWc.lt;have wu:=m1.lt;refine xD 14 (fun b=>if b<1 then au 0 else if b<8 then aD 0 else if b<9 then .int .u8 (0)else if b<10 then aD 0 else if b<12 then au 0 else aD 0) fun R w2 ad m7 s2 z2 => ?_;have⟨m8,m9,m10,m11,m12,m13⟩:=ql s2.old m2 f m4 m5 m6 m1;have b2:=b1.then s2 (.inr b1.size);have sP:=jE ad b1.size;have agQ:=dn ad m2.lt;have FC:(.slice M.aa (M.an) (M.ac):Value).ownBlock≠some R:=by rw[ad]; exact m4.jw (z_ _)
 have Ad:=dn ad m1.lt;have Bl:=m7.lt;refine aC<|Ws ?_;obtain⟨o,Q⟩ : ∃ r,r=x.who % M.n:=⟨_,rfl⟩;have ho:o<M.n:=by rw[Q]; exact I_ _ (by omega)
 refine zQ<|aU (pt g1)<|Qv (.int .u8 (x.who:Int)) (fun D C=>aM (m13.aI.dr C) 0)<|Qv (au x.who) (fun D C=>dD rfl rfl (by kernel_rfl) Tryz.underlying3 (iN (by omega) rfl))<|aU (pt p)<|aU (pt p)<|aU (pt p)<|Qv (.slice M.la (M.n) (M.lc)) (fun D C=>aM (m8.aI.dr C) 0)<|aU (au M.n)<|Qv (au o) (fun D C=>Fx.zx rfl rfl rfl (by omega) (Gj Q))<|aU (au o)<|Qn ?_;rintro _ ⟨qd,rfl⟩;obtain⟨DJ,rW⟩ : ∃ D,D=World.drewN w2 qd:=⟨_,rfl⟩;rw[<- rW];have s3:Stp w2.heap.size w2 DJ:=by rw[rW]; exact Sb (jM w2 qd)
 have⟨m14,m15,m16,m17,m18,Y,m20⟩:=jI s3.old m8 m9 m10 m11 m12 m13 m7;have Z:=b2.then s3 (.inr b2.size);clear rW;refine sN<|Ws<|ay<|av (pf g1 1) ?_;by_cases H:x.meet=true
 ·refine Lv aG (aM Y.aI 1 ((show _=Value.bool x.meet from rfl).trans (K_ Value.bool H)))<|aC<|aO<|Ws ?_;obtain⟨A,aeb⟩ : ∃ r,r=x.other % M.n:=⟨_,rfl⟩;have awV:A<M.n:=by rw[aeb]; exact I_ _ (by omega)
  have YW:=m17 A (by omega);have FL:=YW.c;have YX:=m17 o (by omega);refine jO [0,1,2,4,5,6,7,9,12,13,14,16,17,18,20,23,24,25,3,8,10,11,15,19,21,22,26,27,28,29,30,31,32,33,34,35,36,37] [0,0,0,1,0,0,0,0,4,0,0,4,0,0,0,4,0,0,0,4,0,4,0,0,0,0,4,0,0,0,4,0,0,0,4,2,0,3] [(37,3,[3]),(35,8,[11,10,8]),(37,8,[8]),(35,11,[11]),(37,11,[11]),(35,15,[15]),(37,15,[15]),(35,19,[34,33,32,31,30,29,19]),(37,19,[19]),(35,21,[34,33,32,31,30,29,28,22,21]),(37,21,[21]),(35,26,[34,33,32,31,30,29,28,27,26]),(37,26,[26]),(35,30,[34,33,32,31,30]),(37,30,[30]),(35,34,[34]),(37,34,[34]),(36,35,[35]),(37,35,[35])] fun qA dS iy => ?_;have s4:Stp DJ.heap.size DJ qA:=Sb dS;have⟨G,m22,m23,m24,nA,oo,pE,oN⟩:=mP dS m14 m15 m16 m17 Y m20 FL YX;have b4:=Z.then s4 (.inr Z.size);refine aZ (pt p)<|aZ (pt p)<|aZ (pt p)<|aZ (au o)<|aZ (pt p)<|aZ (pt p)<|aZ (pt p)<|aZ (au o)<|aZ (pt p)<|aZ (pt p)<|aZ (pf p 1)<|aZ (pt p)<|aZ (pt p)<|aZ (pt p)<|aZ (pf g1 2)<|aZ (pt p)<|aZ (pt p)<|aZ (pt p)<|Rd (v := .slice M.la (M.n) (M.lc)) (by rfl) (by rfl) (uP _) (fun D C=>bB (x:=Gf (.slice M.la (M.n) (M.lc)) (.slice M.aa (M.an) (M.ac))) rfl rfl (by kernel_rfl) (G.aI.below C (by have:=G.lt; omega)) (i:=0) (by omega) (by omega) rfl) ?_;refine Rs (.slice M.la (M.n) (M.lc)) (aM G.aI 0) ?_;obtain⟨S,J⟩:=m22.addr (by omega);have pF:Fx.Own qA B 72 1 (bK S M.n M.lc) M.n (F3 M.pl):=m22.fq (K_ (fun q=>Value.slice q M.n M.lc) J);refine Rp (pf S o) (fun _=>cZ 1 (hx:=(rfl.trans (K_ (fun q=>Value.slice q (M.n) (M.lc)) J))))<|Rs (pt (M.pl o)) (aM pF.aI o) ?_;refine Rs (.slice M.aa (M.an) (M.ac)) (aM G.aI 1) ?_;refine Rs (.slice M.la (M.n) (M.lc)) (aM G.aI 0) ?_;refine Rs (.int .u8 (x.other:Int)) (aM nA.aI 2) ?_;refine Rp (au x.other) (fun D=>dD rfl rfl (by kernel_rfl) Tryz.underlying3 (iN (by omega) rfl))<|Rs (.slice M.la (M.n) (M.lc)) (aM G.aI 0) ?_;refine aZ (au M.n)<|Rp (au A) (fun D=>Fx.zx rfl rfl rfl (by omega) (Gj aeb))<|Rp (pf S A) (fun _=>cZ 1 (hx:=(rfl.trans (K_ (fun q=>Value.slice q (M.n) (M.lc)) J))))<|Rs (pt (M.pl A)) (aM pF.aI A) ?_;refine aZ (pt (M.pl A))<|aZ (pt (M.pl A))<|aZ (pf (M.pl A) 12)<|Rs (.agg (aA 6 (rv .u64 ((M.ml A).s.known)))) (gD pE.aI 12 (fun j W=>kM _ (by omega) (lu _ W (by omega)))) ?_;refine Cw<|lV (X8 (M.ml o) B (M.pl o) T M.aa M.an M.ac M.ev ((M.ml A).s.known) _ oN (d.inv o (by omega)) m23.arr d.wf d.may d.sm han hT) ?_;rintro e9 w3 ⟨t,f,E,hlc,hI3,hL1,hb1⟩;refine⟨(pt t),E,?_⟩;clear E;have s5:=Sb hb1;have⟨oq,mJ,m32,nX,qm⟩:=sH hb1 G m23 m24 oo pF;have b5:=b4.then s5 (.inr b4.size);refine Ln ⟨s5.old,?_⟩;refine Rp (pf S o) (fun _=>cZ 1 (hx:=(rfl.trans (K_ (fun q=>Value.slice q (M.n) (M.lc)) J))))<|gI<|pV qm o (pt t) fun w4 rJ s6 z3 => ?_;have gM:=iw s6 qm.JK;have⟨qP,pX,sD,mW,sI⟩:=qL gM oq mJ m32 nX hL1;have b6:=b5.then s6 (.inl (.inr (.inl (by rw[J]; rfl))));have qZ:Fx.Own w4 B 72 1 (bK S M.n M.lc) M.n (F3 (aH M.pl o t)):=rJ.congr (fun F _=>congrFun Vw F);refine Ln<|bP<|ay<|av (.agg (aA 14 (fun b=>if b<1 then au 0 else if b<8 then aD 0 else if b<9 then .int .u8 (0)else if b<10 then aD 0 else if b<12 then au 0 else aD 0)))<|fI mW 0 (h1:=(fun F _=>by show((fun b=>if b<1 then au 0 else if b<8 then aD 0 else if b<9 then .int .u8 (0)else if b<10 then aD 0 else if b<12 then au 0 else aD 0:Nat->Value) F).oneCell'=true; simp only[]; repeat (first|rfl|split))) fun w5 nZ s7 z4 => ?_
  have sF:aQ w5 R 14 (fun b=>if b<1 then au 0 else if b<8 then aD 0 else if b<9 then .int .u8 (0)else if b<10 then aD 0 else if b<12 then au 0 else aD 0) 32:=aW nZ;have jQ:=iw s7 mW.ty;have xV:=lN jQ qP;have sJ:=pX.dh s7 FC;have⟨sK,tJ,tK⟩:=Em jQ sD sI qZ;have b7:=b6.then s7 (.inr sP);refine aC (Wr (sR (⟨.agg (aA 14 (fun b=>if b<1 then au 0 else if b<8 then aD 0 else if b<9 then .int .u8 (0)else if b<10 then aD 0 else if b<12 then au 0 else aD 0)),rV Tryz.results13 ⟨_,rfl,aX sF.aI (by kernel_rfl) (by kernel_rfl)⟩,?_⟩)));have wZ:Fx.Own w5 B 72 1 (.slice M.la (M.n) (M.lc)) M.n (F3 (aH M.pl o t)):=tK.fq (K_ (fun q=>Value.slice q M.n M.lc) J.symm);exact⟨zeroE,K_ (fun z=>Ending.returned (Value.agg z)) (Fx.eZ (y:=bQ zeroE) fun j W=>by rcases j with _|_|_|_|_|_|_|_|_|_|_|_|_|_|j <;> first|rfl|omega),Li,{ M with pl:=aH M.pl o t,ml:=aH M.ml o f },{ c:=xV,l:=wZ,a:=sJ,g:=sK.put tJ,inv:=(fun i U=>by show Inv (aH M.ml o f i).core _; unfold aH; split; exact hI3; exact(d.inv i U).mono (by omega)),wf:=d.wf,may:=d.may,sm:=d.sm,cz:=d.cz.learn (o:=o) (by omega) (L:=(M.ml o).core) rfl (fun q u=>by show(aH M.ml o f q).s.known=_; unfold aH; rw[b_ u]) (by show(aH M.ml o f o).s.known=_; unfold aH; rw[d_ rfl]; exact K_ fQ.known hlc),pB:=hpB,n1:=hn1,n6:=hn6 },(by rw[<- Q]; exact⟨rfl,fun q u=>by show aH M.ml o f q=_; unfold aH; rw[b_ u],.inl ⟨rfl,rfl,rfl,.inr ⟨H,by rw[<- aeb]; show(aH M.ml o f o).core=_; unfold aH; rw[d_ rfl]; exact hlc⟩⟩⟩),(by show M.an<=M.an+1; omega),(fun _=>rfl),b7,fun _ h => .inl h⟩
 rw[S_]at H;refine Lv aF (aM Y.aI 1 ((show _=Value.bool x.meet from rfl).trans (K_ Value.bool H)))<|aC<|aK<|Wk<|sN<|ay<|av (pt p)<|Lv (.agg (aA 9 (Gi x))) (gD Y.aI 0)<|lV (YV M B p T x _ m18 hx) ?_;rintro e9 w6 ⟨V,hV,hVs,hVd,E,hb2⟩;refine⟨_,E,?_⟩;clear E;rw[<- Q]at hVd;have s8:=Sb hb2;have⟨uq,sM,sO,xg,uI,nL⟩:=ql hb2 m14 m15 m16 m17 Y m20;have b8:=Z.then s8 (.inr Z.size);refine xD 14 (fun b=>if b<1 then au 0 else if b<8 then aD 0 else if b<9 then .int .u8 (0)else if b<10 then aD 0 else if b<12 then au 0 else aD 0) fun g3 w7 ae ru s9 z5 => ?_;have⟨m64,uW,uJ,wz,wB,rM⟩:=ql s9.old uq sM sO xg uI nL;have b9:=b8.then s9 (.inr b8.size);have Dz:=jE ae b8.size;have aqB:=dn ae uq.lt;have Nv:(.slice M.aa (M.an) (M.ac):Value).ownBlock≠some g3:=by rw[ae]; exact sO.jw (z_ _)
 have⟨aqC,aqD⟩:=vY ae uI.lt nL.lt;have LK:=ru.lt;refine fI ru 0 (h1:=(iI _)) fun w8 tL s10 z6 => ?_;have uK:aQ w8 g3 14 (bQ V) 32:=aW tL;have qN:=iw s10 ru.ty;have⟨tN,sG⟩:=Br qN m64 uW;have xk:=uJ.dh s10 Nv;have⟨tO,uX⟩:=Br qN wz wB;have xq:=rM.dh s10 (by omega);have b10:=b9.then s10 (.inr Dz);refine aC<|Ws ?_;have aqE:=tO o (by omega);refine jO [0,1,2,4,3,5,6,7,8,9,10,11,12,13] [0,0,0,4,0,0,4,4,3,0,0,0,0,0] [(8,3,[6,5,3]),(8,6,[6]),(8,7,[7]),(9,8,[8]),(10,8,[9,8]),(11,8,[9,8]),(12,8,[8]),(13,8,[8])] fun Cx gu nJ => ?_;have s11:Stp w8.heap.size w8 Cx:=Sb gu;have⟨xu,uY,uL,tQ,wC,yI,xw,yJ⟩:=mP gu tN sG xk tO uX xq uK aqE;have b11:=b10.then s11 (.inr b10.size);refine aZ (pt p)<|aZ (pt p)<|aZ (pt p)<|aZ (au o)<|Rs (.slice M.la (M.n) (M.lc)) (aM xu.aI 0) ?_;obtain⟨QZ,K⟩:=uY.addr (by omega);have zF:Fx.Own Cx B 72 1 (bK QZ M.n M.lc) M.n (F3 M.pl):=uY.fq (K_ (fun q=>Value.slice q M.n M.lc) K);refine Rp (pf QZ o) (fun _=>cZ 1 (hx:=(rfl.trans (K_ (fun q=>Value.slice q (M.n) (M.lc)) K))))<|Rs (pt (M.pl o)) (aM zF.aI o) ?_;refine Rs (.agg (aA 14 (bQ V))) (gD xw.aI 0) ?_;refine gI<|lV (Oq (M.ml o) B (M.pl o) T V _ yJ hV (d.inv o (by omega)).w (by omega)) ?_;rintro e9 w9 ⟨t,f,E,hc3,hL2,hb3⟩;refine⟨.tuple #[(pt t),au (bS (M.ml o).core V)],E,?_⟩;clear E;have s12:=Sb hb3;have⟨zG,zi,zk,zT,Ey,AJ,yM⟩:=jI hb3 xu uL tQ wC yI xw zF;have b12:=b11.then s12 (.inr b11.size);refine Ln<|aZ (.tuple #[(pt t),au (bS (M.ml o).core V)])<|aZ (pt t)<|aZ (au (bS (M.ml o).core V))<|aZ (pt t)<|aZ (au (bS (M.ml o).core V))<|bP<|Ws<|ay<|av (au (bS (M.ml o).core V)) ?_;by_cases I:(bS (M.ml o).core V)=0
 ·refine Lv aF (kr I)<|aC<|aK<|Wk<|sN<|ay<|av (pt p)<|av (pt p)<|av (pt p)<|Lv (.slice M.la (M.n) (M.lc)) (aM zG.aI 0)<|av (au o)<|av (pt t)<|Lv (pf QZ o) (cZ 1 (hx:=(rfl.trans (K_ (fun q=>Value.slice q (M.n) (M.lc)) K))))<|pV yM o (pt t) fun um zl s13 z7 => ?_;have zS:=iw s13 yM.JK;have⟨xB,zW,Bn,DT,EG,rX,uw⟩:=RD zS zG zi zk zT Ey AJ hL2;have b13:=b12.then s13 (.inl (.inr (.inl (by rw[K]; rfl))));have sS:Fx.Own um B 72 1 (bK QZ M.n M.lc) M.n (F3 (aH M.pl o t)):=zl.congr (fun F _=>congrFun Vw F);refine aC<|Ws ?_;have qQ:Fx.Own um B 72 1 (.slice M.la (M.n) (M.lc)) M.n (F3 (aH M.pl o t)):=sS.fq (K_ (fun q=>Value.slice q M.n M.lc) K.symm);refine Ar [0,1,2,3,4,5,6,7,8,9,10] [0,0,0,0,1,4,2,2,0,0,3] (iP [32]) vX Fx.iP.trans (fH := [(10,4,[4]),(6,5,[5]),(7,5,[6,5]),(10,5,[5]),(7,6,[6]),(8,6,[6]),(9,6,[6]),(10,6,[6]),(8,7,[7]),(9,7,[7]),(10,7,[7])]) (by kernel_rfl) (by kernel_rfl) (by kernel_rfl) (by kernel_rfl) (by kernel_rfl) fun QW lK Ay => ?_;have Dm:Stp um.heap.size um QW:=Sb lK;have⟨nP,nQ,oG,og,pJ,rY,vF,qR⟩:=mP lK xB zW Bn DT EG rX uw qQ;have b14:=b13.then Dm (.inr b13.size);refine aZ (pt p)<|aZ (pt p)<|aZ (pt p)<|aZ (pf p 1)<|Rd (v := .slice M.aa (M.an) (M.ac)) (by rfl) (by rfl) (vX _) (fun D C=>bB (x:=Gf (.slice M.la (M.n) (M.lc)) (.slice M.aa (M.an) (M.ac))) rfl rfl (by kernel_rfl) (nP.jZ C (by decide)).aI (i:=1) (by omega) (by omega) rfl) ?_;refine Rs (.agg (aA 14 (bQ V))) (gD rY.aI 0) ?_;refine Cw<|yD (vs := [(0,.agg (aA 14 (bQ V)))]) (s:=14) (zc:=fun b=>if b<1 then au 0 else if b<8 then aD 0 else if b<9 then .int .u8 (0)else if b<10 then aD 0 else if b<12 then au 0 else aD 0) (y:=bI (fun j=>(fun b=>if b<1 then au 0 else if b<8 then aD 0 else if b<9 then .int .u8 (0)else if b<10 then aD 0 else if b<12 then au 0 else aD 0) (j % 14)) (0*14) 14 (bQ V)) (by rfl) rfl rfl Tryz.underlying42 (by kernel_rfl) (by rfl) (by rfl) (by kernel_rfl) (by rw[bD (off:=0*14) (s:=14) (y:=bQ V) rfl (bH _ _) (by rfl)]; rfl) rfl fun g4 Ev af uy s15 z8 => ?_;have⟨zm,vG,zn,xH,uz,qw,xZ⟩:=jI s15.old nP nQ oG pJ rY vF qR;have b15:=b14.then s15 (.inr b14.size);have WI:=jE af b14.size;have XO:=dn af nP.lt;have XP:(.slice M.aa (M.an) (M.ac):Value).ownBlock≠some g4:=by rw[af]; exact nQ.jw (z_ _)
  have⟨akn,ako,XQ⟩:=Iy af og.lt pJ.lt rY.lt;have Ug:=uy.lt;refine Ln ⟨Fx.iP.of_below s15.old,?_⟩;refine Cw<|yZ (B:=B) (s:=14) (bytes:=112) (k:=M.an) (m:=1) (v := .slice M.aa (M.an) (M.ac)) (x:=Q0 M.ev) (by rfl) rfl rfl rfl Tryz.underlying42 (by kernel_rfl) (by kernel_rfl) rfl rfl vG uy.aI (wJ (fun j=>(show(bQ V j).oneCell'=true by unfold bQ; repeat (first|rfl|split)))) (by omega) (by omega) (by omega) (m_ hB b15.size) fun N ab Dn ho1 hg1 uh hlt1 => ?_
  have zf:=za hg1 vG;have⟨uD,BJ⟩:=Br zf zm zn;have EI:=xH.grown hg1 FC;have akp:R≠N:=fun e=>uh.elim (fun P=>FC (by rw[e]; exact P)) (fun P=>by have:=xH.lt; omega);have AL:=uz.grown hg1 Nv;have akq:g3≠N:=fun e=>uh.elim (fun P=>Nv (by rw[e]; exact P)) (fun P=>by have:=uz.lt; omega);have⟨EJ,Ga⟩:=Br zf qw xZ;have yc:Fx.Own Dn B 32 14 (bK N (M.an+1) ab) (M.an+1) (Q0 (aH M.ev M.an V)):=(ho1.congr (fun j W=>Vx j W));have b16:jN (WR p M) w Dn:=Fx.jN.grow b15 hg1 (fun q u => .inl (.inr (.inr u)));refine Ln ⟨zf,?_⟩;refine aZ (pt p)<|aZ (pf p 1)<|gI<|jh uD 1 (bK N (M.an+1) ab) fun GD BK s16 z9 => ?_;have zX:aQ GD p 2 (Gf (.slice M.la (M.n) (M.lc)) (bK N (M.an+1) ab)) 44:=BK.congr (ahE _ _ _);have zh:=iw s16 uD.ty;have⟨I7,EK,EL,Gb,Gc,BL⟩:=RB zh BJ EI AL EJ Ga yc;have b17:=b16.then s16 (.inl (.inl rfl));refine Ln<|bP<|ay<|Lv (.agg (aA 14 (bQ V))) (gD EL.aI 0)<|fI EK 0 (h1:=(iI _)) fun Px EM Jv z10 => ?_;have BM:aQ Px R 14 (bQ V) 32:=aW EM;have AB:=iw Jv EK.ty;have EX:=lN AB I7;have zY:=EL.dh Jv (by omega);have⟨BN,AO⟩:=Br AB Gb Gc;have IZ:=BL.aaI Jv (by omega);have TR:=lN AB zX;have b18:=b17.then Jv (.inr sP);refine aC (Wr (⟨.agg (aA 14 (bQ V)),rV Tryz.results13 ⟨_,rfl,aX BM.aI (by kernel_rfl) (by kernel_rfl)⟩,?_⟩));have hinv:Inv f.core (T+3660):=by rw[hc3]; exact(G7 hVs (d.inv o (by omega))).mono (by omega)
  have eRo:aL V=o:=by unfold aL; omega
  have hk3:f.s.known=aH (M.ml o).s.known o ((M.ml o).s.known o+1):=(K_ fQ.known hc3).trans (by rw[yT I,eRo]; rfl);exact⟨V,rfl,hV,{ M with pl:=aH M.pl o t,ml:=aH M.ml o f,an:=M.an+1,aa:=some ⟨N,0,none⟩,ac:=ab,ev:=aH M.ev M.an V },{ c:=TR,l:=AO,a:=IZ,g:=EX.put BN,inv:=(fun i U=>by show Inv (aH M.ml o f i).core _; unfold aH; split; exact hinv; exact(d.inv i U).mono (by omega)),wf:=(fun k X=>by have hk2:k<M.an+1:=X; show fT (aH M.ev M.an V k); unfold aH; split; exact hV; exact d.wf k (by omega)),may:=(fun k X=>by have hk2:k<M.an+1:=X; show bR (aH M.ev M.an V k)=true; unfold aH; split; exact QF I; exact d.may k (by omega)),sm:=(fun k X=>by have hk2:k<M.an+1:=X; show mG (aH M.ev M.an V k); unfold aH; split; exact hVs; exact d.sm k (by omega)),cz:=d.cz.event (o:=o) (by omega) (jG I) eRo hVd.2.2 (fun q u=>by show(aH M.ml o f q).s.known=_; unfold aH; rw[b_ u]) (by show(aH M.ml o f o).s.known=_; unfold aH; rw[d_ rfl]; exact hk3),pB:=hpB,n1:=hn1,n6:=hn6 },(by rw[<- Q]; exact⟨rfl,fun q u=>by show aH M.ml o f q=_; unfold aH; rw[b_ u],.inr ⟨H,rfl,rfl,I,by show(aH M.ml o f o).core=_; unfold aH; rw[d_ rfl]; exact hc3,hVd⟩⟩),z_ _,(fun u=>by rw[H]at u; cases u),b18,Y4.app uh b15.size⟩
 refine Lv aG (nH I)<|aC<|aO<|ay<|av (.agg (aA 14 (fun b=>if b<1 then au 0 else if b<8 then aD 0 else if b<9 then .int .u8 (0)else if b<10 then aD 0 else if b<12 then au 0 else aD 0)))<|fI Ey 0 (h1:=(fun F _=>by show((fun b=>if b<1 then au 0 else if b<8 then aD 0 else if b<9 then .int .u8 (0)else if b<10 then aD 0 else if b<12 then au 0 else aD 0:Nat->Value) F).oneCell'=true; simp only[]; repeat (first|rfl|split))) fun Mt Ui LP z11 => ?_
 have TS:aQ Mt R 14 (fun b=>if b<1 then au 0 else if b<8 then aD 0 else if b<9 then .int .u8 (0)else if b<10 then aD 0 else if b<12 then au 0 else aD 0) 32:=aW Ui;have EF:=iw LP Ey.ty;have TT:=lN EF zG;have aco:=zi.dh LP FC;have TU:=lN EF zk;have TV:=AJ.dh LP (by omega);have PZ:=lN EF yM;have b19:=b12.then LP (.inr sP);refine aC (Wr (sR (⟨.agg (aA 14 (fun b=>if b<1 then au 0 else if b<8 then aD 0 else if b<9 then .int .u8 (0)else if b<10 then aD 0 else if b<12 then au 0 else aD 0)),rV Tryz.results13 ⟨_,rfl,aX TS.aI (by kernel_rfl) (by kernel_rfl)⟩,?_⟩)));have TY:Fx.Own Mt B 72 1 (.slice M.la (M.n) (M.lc)) M.n (F3 M.pl):=PZ.fq (K_ (fun q=>Value.slice q M.n M.lc) K.symm);exact⟨zeroE,K_ (fun z=>Ending.returned (Value.agg z)) (Fx.eZ (y:=bQ zeroE) fun j W=>by rcases j with _|_|_|_|_|_|_|_|_|_|_|_|_|_|j <;> first|rfl|omega),Li,M,{ c:=TT,l:=TY,a:=aco,g:=TU,inv:=fun i U=>(d.inv i U).mono (by omega),wf:=d.wf,may:=d.may,sm:=d.sm,cz:=d.cz,pB:=hpB,n1:=hn1,n6:=hn6 },⟨rfl,fun _ _=>rfl,.inl ⟨rfl,rfl,rfl,.inl rfl⟩⟩,by omega,(fun _=>rfl),b19,fun _ h => .inl h⟩
theorem air(M:WM)(B p T:Nat)(x:Gg)(w:World)(c:om w B p M T)(b:B<=w.heap.size)(hx:H6 x)(m:M.an<=60)(l:T<=890000) :
 Calls Tryz.prog 13 #[(pt p),.agg (aA 9 (Gi x))] w fun e w' => ∃ v,e = .returned (.agg (aA 14 (bQ v)))/\fT v /\ ∃ a,om w' B p a (T+3660)/\DoR (x.who % M.n) x M a v/\a.an<=M.an+1/\(x.meet=true->a.an=M.an)/\Below B w w' :=
 (aiq M B p T x w c b hx m l).mono fun _ _ ⟨v,d,f,a,g,h,i,j,k,_⟩=>⟨v,d,f,a,g,h,i,j,c.Cj b k⟩
end Go.Proofs.YtahbiajdgealnaaGreatDoor
namespace Go.Proofs.YtahbiajdgealnaaGreatDoor
open Go.RowKit Go.WideShapes Go.ChangeShapes Go.Deep Rt
def VE:Value->Bool | .bool b=>b|_=>false
theorem Q8.int{k:IntKind}{v:Value}(h:Q8 (some k) v):v = .int k (intOf v)/\(Lit.int k (intOf v)).wf=true:=by
 obtain⟨n,rfl,a⟩:=h; exact⟨rfl,a⟩
theorem Q8.bool{v:Value}(h:Q8 none v):v = .bool (VE v):=by
 obtain⟨b,rfl⟩:=h; rfl
theorem wf_u8{n:Int}(h:(Lit.int .u8 n).wf=true):0<=n/\n<=255:=by simp[Lit.wf,IntKind.min,IntKind.max,IntKind.bits,IntKind.signed]at h; omega
theorem wf_u16{n:Int}(h:(Lit.int .u16 n).wf=true):0<=n/\n<=65535:=by simp[Lit.wf,IntKind.min,IntKind.max,IntKind.bits,IntKind.signed]at h; omega
theorem VF{n:Int}(h:(Lit.int .u8 n).wf=true) : ∃ m:Nat,n=(m:Int)/\m<=255:=by
 have:=wf_u8 h; exact⟨n.toNat,by omega,by omega⟩
theorem Fx.ny.congr{w:World}{a:Option Addr}{n s:Nat}{x y:Nat->Value}(h:Fx.ny w a n s x)(e : ∀ p,p<n*s->x p=y p):Fx.ny w a n s y:=fun f=>by
 obtain⟨b,j,d,g⟩:=h f;exact⟨b,j,d,fun i c=>by rw[<- e i c]; exact g i c⟩
def VG:List (Option IntKind) := [some .u8,none,some .u8,some .u8,some .u8,some .u8,some .u16,some .u8,some .u8]
def VH(X:Nat->Value):Gg:=⟨(intOf (X 0)).toNat,VE (X 1),(intOf (X 2)).toNat,(intOf (X 3)).toNat,(intOf (X 4)).toNat,(intOf (X 5)).toNat,(intOf (X 6)).toNat,(intOf (X 7)).toNat,(intOf (X 8)).toNat⟩
theorem Lj{X:Nat->Value}(h : ∀(j:Nat) (k:Option IntKind),VG[j]? = some k->Q8 k (X j)):H6 (VH X) /\ ∀ j,j<9->X j=Gi (VH X) j:=by
 have a : ∀ j,VG[j]? = some (some .u8)->X j = .int .u8 ((intOf (X j)).toNat:Int)/\(intOf (X j)).toNat<=255:=fun j d=>by
  obtain⟨e,b⟩:=(h j _ d).int;have:=wf_u8 b;exact⟨by rw[Int.toNat_of_nonneg this.1]; exact e,by omega⟩
 have c:X 6 = .int .u16 ((intOf (X 6)).toNat:Int)/\(intOf (X 6)).toNat<=65535:=by
  obtain⟨e,b⟩:=(h 6 (some .u16) rfl).int;have:=wf_u16 b;exact⟨by rw[Int.toNat_of_nonneg this.1]; exact e,by omega⟩
 refine⟨⟨(a 0 rfl).2,(a 2 rfl).2,(a 3 rfl).2,(a 4 rfl).2,(a 5 rfl).2,c.2,(a 7 rfl).2,(a 8 rfl).2⟩,fun j d => ?_⟩
 rcases j with _|_|_|_|_|_|_|_|_|j
 ·exact(a 0 rfl).1
 ·exact(h 1 none rfl).bool
 ·exact(a 2 rfl).1
 ·exact(a 3 rfl).1
 ·exact(a 4 rfl).1
 ·exact(a 5 rfl).1
 ·exact c.1
 ·exact(a 7 rfl).1
 ·exact(a 8 rfl).1
 omega
section
variable {H:Type} {enc:TypeId × Value->H} {P:Program} {w:World}
theorem QG{t e:TypeId}{a:Option Addr}{len cap D:Nat}{d:DataW H}{r:List MemPlace}(q:P.underlying t=some (.slice e))(b:yA P D e=some VG)(l:P.cellsOf e=9)
 (h:DataW.Trod enc P w 0 (fun _=>true) true t (.slice a len cap) d r) : ∃ g:Nat->Gg,(∀ i,i<len->H6 (g i))/\Fx.ny w a len 9 (Fx.flat 9 fun k=>Gi (g k)):=by
 obtain⟨v,n⟩:=h;obtain⟨s,x,u,f,_,_,X,c,m⟩:=QE q b l (by decide) n;simp[Value.cells]at f;obtain⟨rfl,rfl,rfl⟩:=f;exact⟨fun i=>VH (X i),fun i o=>(Lj (c i o)).1,m.congr (Fx.bJ fun k b j p=>(Lj (c k b)).2 j p)⟩
end
end Go.Proofs.YtahbiajdgealnaaGreatDoor
namespace Go.Proofs.YtahbiajdgealnaaGreatDoor
open Go.RowKit Rt
open Fx (eP eX fK bB gQ gP dD dO gH jo eT jr fV jv iY Lv sN Ln Ws Qv Wl Rp Wc Qs Wr Sb Lk Wk rC rV sR Rs Rn Rd Rk Wb Wx Wo Dy Wt qI Jg Qn FW Bh yD yZ Db Dw qy iw za nu uP uO vX wV yY Dl Ar rv aA aQ bI aN ev cO Stp dJ aW flat dB Mp fu aX gX iK bD down iM jN kF iN ny bJ bH cells_one iP bW xE unseen jH iA bO dM bL bM cB cK gG fZ qc gT)
set_option maxRecDepth 20000
set_option linter.unusedVariables false
theorem aec{B:Nat}{a b c:World}(h:Below a.heap.size a b)(e:Below B b c)(d:a.heap.size<=B):Below a.heap.size a c:=h.trans (e.mono d)
theorem vP.JO{w w':World}{B p:Nat}{m:lD}{e:List TypeId}(h:vP w B p m)(b:Fx.FX e w w')(k:(Kq.all fun T => !e.contains T)=true):vP w' B p m:=by
 have a : ∀ d∈Kq,e.contains d=false:=fun d f=>by
  have:=List.all_eq_true.1 k d f
  simpa using this
 exact { h with
  c:=h.c.JO b (a _ (by decide)),n:=h.n.JO b (a _ (by decide)),g:=h.g.JO b (a _ (by decide)),tc:=h.tc.JO b (a _ (by decide)),t:=h.t.JO b (a _ (by decide)),r:=⟨fun i j=>(h.r.1 i j).JO b (a _ (by decide)),h.r.2⟩ }
section
set_option linter.unusedVariables false
namespace Rt
structure Ab where
 inn:Nat->Bool
 left:Nat->Bool
 own:Nat->Int
 has:Int->Bool
 par:Int->Int
 R:Int->Nat->Int
 gh:Int->Int->Bool
 g:Int->Int->Nat->Int
 ask:Int->Int->Bool
def Ab.up(A:Ab)(x:Int):Nat->Int
 | 0=>x
 | i+1=>A.par (A.up x i)
def Ab.on(A:Ab)(x y:Int):Bool:=A.has y&&(List.range 6).any fun i=>decide (A.up x i=y)
def oU(v:EvM):Int:=iU v.o v.seq
def aV(v:EvM):Nat:=(v.o-1).toNat
def dV(v:EvM):Nat:=(v.dst-1).toNat
def Ab.dl(A:Ab)(v:EvM)(y:Int)(p:Nat):Int :=
 if v.kind=1 then(if y=oU v/\p=aV v then v.aT else 0)
 else if v.kind=2 then(if y=v.node/\p=aV v then v.aT else 0)
 else if v.kind=3 then(if A.on v.node y=true/\p=6+aV v then v.aT else 0)
 else if v.kind=4 then(if A.on (A.g v.o v.of 2) y=true/\p=12+aV v then A.g v.o v.of 3 else 0)
 else if v.kind=5 then(if y=v.node/\p=18+(6*aV v+dV v)then v.aT else 0)
 else 0
def Ab.qz(A:Ab)(v:EvM):Ab where
 inn:=fun j=>A.inn j || (decide (v.kind=6)&&decide (j=dV v))
 left:=fun j=>A.left j || (decide (v.kind=7)&&decide (j=aV v))
 own:=fun j=>A.own j+if v.kind=1/\j=aV v then 1 else 0
 has:=fun y=>A.has y || (decide (v.kind=1)&&decide (y=oU v))
 par:=fun y=>if v.kind=1/\y=oU v then v.node else A.par y
 R:=fun y p=>A.R y p+A.dl v y p
 gh:=fun o r=>A.gh o r || (decide (v.kind=3)&&(decide (o=v.o)&&decide (r=v.req)))
 g:=fun o r j=>if v.kind=3/\o=v.o/\r=v.req then(if j=2 then v.node else if j=3 then v.aT else 0)else if v.kind=4/\o=v.o/\r=v.of/\j=4 then v.req else A.g o r j
 ask:=fun o r=>A.ask o r || ((decide (v.kind=3) || decide (v.kind=4))&&(decide (o=v.o)&&decide (r=v.req)))
structure Ab.Ok(A:Ab):Prop where
 z:A.has 0=false
 p : ∀ y,A.has y=true->A.par y=0\/A.has (A.par y)=true
 p0 : ∀ y,A.has y=false->A.par y=0
 g : ∀ o r,A.gh o r=true->A.has (A.g o r 2)=true
 r0 : ∀ y p,A.has y=false->A.R y p=0
structure Ab.Pre(A:Ab)(v:EvM):Prop where
 n1:v.kind=1->A.has (oU v)=false/\oU v≠0/\(v.node=0\/A.has v.node=true)
 n2:v.kind=2->A.has v.node=true
 n3:v.kind=3->A.has v.node=true/\A.gh v.o v.req=false
 n4:v.kind=4->A.gh v.o v.of=true
 n5:v.kind=5->A.has v.node=true
section
variable {A B:Ab} {u v:EvM} {y:Int}
theorem Ab.H7(h:A.Ok){x:Int}(hx:A.has x=true) : ∀ i,A.up x i=0\/A.has (A.up x i)=true
 | 0 => .inr hx
 | i+1=>by
   show A.par (A.up x i)=0\/A.has (A.par (A.up x i))=true
   rcases Ab.H7 h hx i with e|e
   ·left; rw[e]; exact h.p0 0 h.z
   ·exact h.p _ e
theorem Ab.Bf(hy:A.has y=true):(A.qz v).has y=true:=by show(A.has y || _)=true; rw[hy]; rfl
theorem Ab.O8(c:A.Pre v)(hy:A.has y=true):(A.qz v).par y=A.par y:=by
 show(if v.kind=1/\y=oU v then v.node else A.par y)=A.par y;rw[b_];rintro ⟨a,b⟩;have:=(c.n1 a).1;rw[<- b,hy]at this; cases this
theorem Ab.VI(c:A.Pre v):(A.qz v).par 0=A.par 0:=by
 show(if v.kind=1/\(0:Int)=oU v then v.node else A.par 0)=A.par 0;rw[b_];rintro ⟨a,b⟩;exact(c.n1 a).2.1 b.symm
theorem Ab.VJ(h:A.Ok)(a:A.Pre v){x:Int}(hx:A.has x=true) : ∀ i,(A.qz v).up x i=A.up x i
 | 0=>rfl
 | i+1=>by
   show(A.qz v).par ((A.qz v).up x i)=A.par (A.up x i);rw[Ab.VJ h a hx i]
   rcases Ab.H7 h hx i with e|e
   ·rw[e]; exact Ab.VI a
   ·exact Ab.O8 a e
theorem Ab.VK(h:A.Ok)(b:A.Pre v){x:Int}(hx:A.has x=true)(y:Int):(A.qz v).on x y=A.on x y:=by
 unfold Ab.on;have e:((List.range 6).any fun i=>decide ((A.qz v).up x i=y))=((List.range 6).any fun i=>decide (A.up x i=y)):=by
  congr 1; funext i; rw[Ab.VJ h b hx i]
 rw[e]
 cases hc:(List.range 6).any fun i=>decide (A.up x i=y)
 ·rw[H_,H_]
 rw[Bool.and_true,Bool.and_true];obtain⟨i,_,a⟩:=List.any_eq_true.1 hc;have a:=h_ a;show(A.has y || (decide (v.kind=1)&&decide (y=oU v)))=A.has y
 cases hy:A.has y
 ·rcases Ab.H7 h hx i with e0|e0
  ·rw[a]at e0
   cases c1:decide (v.kind=1)
   ·rfl
   have:=(b.n1 (h_ c1)).2.1;rw[g_ (show ¬ y=oU v by rw[e0]; exact fun q=>this q.symm)]; rfl
  rw[a,hy]at e0; cases e0
 rfl
theorem Ab.Ll(f:A.Pre v){o r:Int}(d:A.gh o r=true)(j:Nat)(e:j≠4):(A.qz v).g o r j=A.g o r j:=by
 show(if v.kind=3/\o=v.o/\r=v.req then(if j=2 then v.node else if j=3 then v.aT else 0)else if v.kind=4/\o=v.o/\r=v.of/\j=4 then v.req else A.g o r j)=A.g o r j;rw[b_,b_]
 ·exact fun q=>e q.2.2.2
 rintro ⟨a,b,c⟩;have:=(f.n3 a).2;rw[<- b,<- c,d]at this; cases this
theorem Ab.aed{o r:Int}(a:A.gh o r=true):(A.qz v).gh o r=true:=by show(A.gh o r || _)=true; rw[a]; rfl
theorem Ab.aee(h:A.Ok)(b:A.Pre v):(A.qz v).Ok where
 z:=by
  show(A.has 0 || (decide (v.kind=1)&&decide ((0:Int)=oU v)))=false;rw[h.z,Bool.false_or]
  cases c1:decide (v.kind=1)
  ·rfl
  ·rw[g_ (fun q=>(b.n1 (h_ c1)).2.1 q.symm)]; rfl
 p:=fun y a=>by
  have a:(A.has y || (decide (v.kind=1)&&decide (y=oU v)))=true:=a;show(if v.kind=1/\y=oU v then v.node else A.par y)=0\/(A.qz v).has (if v.kind=1/\y=oU v then v.node else A.par y)=true;by_cases c:v.kind=1/\y=oU v
  ·rw[d_ c];exact(b.n1 c.1).2.2.imp id Ab.Bf
  ·rw[b_ c];have u:A.has y=true:=by
    rcases Bool.or_eq_true_iff.1 a with q|q
    ·exact q
    ·rw[R_]at q; exact L_ ⟨h_ q.1,h_ q.2⟩ c
   exact(h.p y u).imp id Ab.Bf
 p0:=fun y a=>by
  have a:(A.has y || (decide (v.kind=1)&&decide (y=oU v)))=false:=a;rw[Bool.or_eq_false_iff]at a;show(if v.kind=1/\y=oU v then v.node else A.par y)=0;rw[b_]
  ·exact h.p0 y a.1
  ·rintro ⟨s,t⟩;rw[f_ s,f_ t]at a; cases a.2
 g:=fun o r d=>by
  have d:(A.gh o r || (decide (v.kind=3)&&(decide (o=v.o)&&decide (r=v.req))))=true:=d;by_cases c:v.kind=3/\o=v.o/\r=v.req
  ·have:(A.qz v).g o r 2=v.node:=(by show(if v.kind=3/\o=v.o/\r=v.req then _ else _)=v.node; rw[d_ c]; rfl);rw[this]; exact Ab.Bf (b.n3 c.1).1
  ·have k:A.gh o r=true:=by
    rcases Bool.or_eq_true_iff.1 d with q|q
    ·exact q
    ·rw[R_,R_]at q; exact L_ ⟨h_ q.1,h_ q.2.1,h_ q.2.2⟩ c
   rw[Ab.Ll b k 2 (by decide)];exact Ab.Bf (h.g o r k)
 r0:=fun y p a=>by
  have a:(A.has y || (decide (v.kind=1)&&decide (y=oU v)))=false:=a;rw[Bool.or_eq_false_iff]at a;show A.R y p+A.dl v y p=0;rw[h.r0 y p a.1,Int.zero_add];have l : ∀ x,A.on x y=false:=fun x=>by unfold Ab.on; rw[a.1]; rfl
  unfold Ab.dl;by_cases f:v.kind=1
  ·rw[d_ f,b_];rintro ⟨e,_⟩; rw[f_ f,f_ e]at a; cases a.2
  rw[b_ f];by_cases i:v.kind=2
  ·rw[d_ i,b_];rintro ⟨e,_⟩; rw[e,b.n2 i]at a; cases a.1
  rw[b_ i];by_cases m:v.kind=3
  ·rw[d_ m,b_]; rw[l]; exact fun q=>by cases q.1
  rw[b_ m];by_cases n:v.kind=4
  ·rw[d_ n,b_]; rw[l]; exact fun q=>by cases q.1
  rw[b_ n];by_cases j:v.kind=5
  ·rw[d_ j,b_];rintro ⟨e,_⟩; rw[e,b.n5 j]at a; cases a.1
  rw[b_ j]
theorem Ab.VL(h:A.Ok)(c:A.Pre u)(i:A.Pre v)(y:Int)(p:Nat):(A.qz u).dl v y p=A.dl v y p:=by
 unfold Ab.dl;by_cases d:v.kind=1
 ·rw[d_ d,d_ d]
 rw[b_ d,b_ d];by_cases e:v.kind=2
 ·rw[d_ e,d_ e]
 rw[b_ e,b_ e];by_cases a:v.kind=3
 ·rw[d_ a,d_ a,Ab.VK h c (i.n3 a).1]
 rw[b_ a,b_ a];by_cases b:v.kind=4
 ·have f:=i.n4 b;rw[d_ b,d_ b,Ab.Ll c f 2 (by decide),Ab.Ll c f 3 (by decide),Ab.VK h c (h.g _ _ f)]
 rw[b_ b,b_ b]
theorem Ab.QH(h1:A.inn=B.inn)(a:A.left=B.left)(b:A.own=B.own)(c:A.has=B.has)(d:A.par=B.par)(e:A.R=B.R)(f:A.gh=B.gh)(h:A.g=B.g)(i:A.ask=B.ask):A=B:=by
 cases A; cases B; simp only at h1 a b c d e f h i; subst h1 a b c d e f h i; rfl
theorem Ab.VN(h:A.Ok)(b:A.Pre u)(d:A.Pre v)(k:u.o≠v.o)(i:u.kind=1->v.kind=1->oU u≠oU v):(A.qz u).qz v=(A.qz v).qz u:=by
 apply Ab.QH
 ·funext j; exact Bool.or_right_comm _ _ _
 ·funext j; exact Bool.or_right_comm _ _ _
 ·funext j; exact Int.add_right_comm _ _ _
 ·funext y; exact Bool.or_right_comm _ _ _
 ·funext y
  show(if v.kind=1/\y=oU v then v.node else if u.kind=1/\y=oU u then u.node else A.par y)=(if u.kind=1/\y=oU u then u.node else if v.kind=1/\y=oU v then v.node else A.par y);by_cases c:v.kind=1/\y=oU v
  ·rw[d_ c,d_ c,b_];rintro ⟨e,f⟩;exact i e c.1 (f.symm.trans c.2)
  rw[b_ c,b_ c]
 ·funext y p
  show A.R y p+A.dl u y p+(A.qz u).dl v y p=A.R y p+A.dl v y p+(A.qz v).dl u y p;rw[Ab.VL h b d,Ab.VL h d b,Int.add_right_comm]
 ·funext o r; exact Bool.or_right_comm _ _ _
 ·funext o r j
  show(if v.kind=3/\o=v.o/\r=v.req then _ else if v.kind=4/\o=v.o/\r=v.of/\j=4 then v.req else if u.kind=3/\o=u.o/\r=u.req then _ else if u.kind=4/\o=u.o/\r=u.of/\j=4 then u.req else A.g o r j) =
   (if u.kind=3/\o=u.o/\r=u.req then _ else if u.kind=4/\o=u.o/\r=u.of/\j=4 then u.req else if v.kind=3/\o=v.o/\r=v.req then _ else if v.kind=4/\o=v.o/\r=v.of/\j=4 then v.req else A.g o r j)
  by_cases c:o=v.o
  ·have a : ¬ o=u.o:=fun q=>k (q.symm.trans c);rw[b_ (show ¬ (u.kind=3/\o=u.o/\r=u.req)from fun q=>a q.2.1),b_ (show ¬ (u.kind=4/\o=u.o/\r=u.of/\j=4)from fun q=>a q.2.1),b_ (show ¬ (u.kind=3/\o=u.o/\r=u.req)from fun q=>a q.2.1),b_ (show ¬ (u.kind=4/\o=u.o/\r=u.of/\j=4)from fun q=>a q.2.1)]
  rw[b_ (show ¬ (v.kind=3/\o=v.o/\r=v.req)from fun q=>c q.2.1),b_ (show ¬ (v.kind=4/\o=v.o/\r=v.of/\j=4)from fun q=>c q.2.1),b_ (show ¬ (v.kind=3/\o=v.o/\r=v.req)from fun q=>c q.2.1),b_ (show ¬ (v.kind=4/\o=v.o/\r=v.of/\j=4)from fun q=>c q.2.1)]
 funext o r; exact Bool.or_right_comm _ _ _
end
end Rt
end
section
set_option linter.unusedVariables false
namespace Rt
def Cm(x:Nat->Int)(a:Nat):Int:=x a-x (6+a)+x (12+a)+(x (18+(6*0+a))+x (18+(6*1+a))+x (18+(6*2+a))+x (18+(6*3+a))+x (18+(6*4+a))+x (18+(6*5+a)))-(x (18+(6*a+0))+x (18+(6*a+1))+x (18+(6*a+2))+x (18+(6*a+3))+x (18+(6*a+4))+x (18+(6*a+5)))
structure Ab.QI(A:Ab)(v:EvM):Prop where
 inn:A.inn (aV v)=true
 left:A.left (aV v)=false
 pre:A.Pre v
 k1:v.kind=1->A.own (aV v)<5/\v.aT<=140737488355328 /\ ¬ ∀ i,i<4->A.has (A.up v.node i)=true
 k2:v.kind=2->A.R v.node (aV v)+v.aT<=140737488355328
 k3:v.kind=3->A.ask v.o v.req=false /\ ∀ y,A.on v.node y=true->v.aT<=Cm (A.R y) (aV v)
 k4:v.kind=4->A.ask v.o v.req=false/\A.g v.o v.of 4=0 /\ ∀ y,A.on (A.g v.o v.of 2) y=true->A.g v.o v.of 3<=A.R y (6+aV v)-A.R y (12+aV v)
 k5:v.kind=5->A.inn (dV v)=true/\v.aT<=Cm (A.R v.node) (aV v)
def ais(a p:Nat):Prop:=p=a\/p=6+a\/p=12+a \/ ∃ k,k<6/\p=18+(6*a+k)
structure Ab.Le(A B:Ab)(a:Nat):Prop where
 inn : ∀ j,A.inn j=true->B.inn j=true
 left:B.left a=A.left a
 own:B.own a=A.own a
 has : ∀ y,A.has y=true->B.has y=true
 hid : ∀ s,1<=s/\s<1099511627776->B.has (iU ((a:Int)+1) s)=A.has (iU ((a:Int)+1) s)
 par : ∀ y,A.has y=true->B.par y=A.par y
 R1 : ∀ y p,A.has y=true->ais a p->B.R y p=A.R y p
 R2 : ∀ y k,A.has y=true->k<6->A.R y (18+(6*k+a))<=B.R y (18+(6*k+a))
 gh : ∀ o r,A.gh o r=true->B.gh o r=true /\ ∀ j,j≠4->B.g o r j=A.g o r j
 gho : ∀ r,B.gh ((a:Int)+1) r=A.gh ((a:Int)+1) r
 go : ∀ r,B.g ((a:Int)+1) r 4=A.g ((a:Int)+1) r 4
 ask : ∀ r,B.ask ((a:Int)+1) r=A.ask ((a:Int)+1) r
structure H8(v:EvM):Prop where
 o:1<=v.o/\v.o<=6
 seq:1<=v.seq/\v.seq<1099511627776
 aT:0<=v.aT
 dst:v.kind=5->1<=v.dst/\v.dst<=6
section
variable {A B:Ab} {u v:EvM} {a:Nat} {x y:Int}
theorem H8.reg(h:H8 v):v.o=(aV v:Int)+1/\aV v<6:=by have:=h.o; unfold aV; omega
theorem H8.id(h:H8 v):oU v=1099511627776*v.o+v.seq:=by
 unfold oU iU; rw[d_ ⟨h.o.1,h.o.2,h.seq.1,h.seq.2⟩]
theorem H8.ne(a:H8 u)(b:H8 v)(h:u.o≠v.o):oU u≠oU v:=by
 rw[a.id,b.id]; have:=a.seq; have:=b.seq; have:=a.o; have:=b.o; omega
theorem Ab.Le.refl(A:Ab)(a:Nat):A.Le A a:=⟨fun _ h=>h,rfl,rfl,fun _ h=>h,fun _ _=>rfl,fun _ _=>rfl,fun _ _ _ _=>rfl,fun _ _ _ _=>M_ _,fun _ _ h=>⟨h,fun _ _=>rfl⟩,fun _=>rfl,fun _=>rfl,fun _=>rfl⟩
theorem Ab.Le.up(h:A.Le B a)(b:A.Ok)(c:B.Ok)(hx:A.has x=true) : ∀ i,B.up x i=A.up x i
 | 0=>rfl
 | i+1=>by
   show B.par (B.up x i)=A.par (A.up x i);rw[h.up b c hx i]
   rcases Ab.H7 b hx i with e|e
   ·rw[e,b.p0 0 b.z,c.p0 0 c.z]
   ·exact h.par _ e
theorem Ab.Le.on(h:A.Le B a)(c:A.Ok)(d:B.Ok)(hx:A.has x=true)(y:Int):B.on x y=A.on x y:=by
 unfold Ab.on;have e:((List.range 6).any fun i=>decide (B.up x i=y))=((List.range 6).any fun i=>decide (A.up x i=y)):=by
  congr 1; funext i; rw[h.up c d hx i]
 rw[e]
 cases hc:(List.range 6).any fun i=>decide (A.up x i=y)
 ·rw[H_,H_]
 rw[Bool.and_true,Bool.and_true];obtain⟨i,_,b⟩:=List.any_eq_true.1 hc;have b:=h_ b
 rcases Ab.H7 c hx i with e0|e0
 ·rw[b]at e0; rw[e0,c.z,d.z]
 rw[b]at e0; rw[e0,h.has _ e0]
theorem Ab.Nw(h:A.on x y=true):A.has y=true:=by unfold Ab.on at h; rw[R_]at h; exact h.1
theorem Ab.Le.loc(h:A.Le B a)(ha:a<6)(hy:A.has y=true):Cm (A.R y) a<=Cm (B.R y) a:=by
 have o : ∀ k,k<6->B.R y (18+(6*a+k))=A.R y (18+(6*a+k)):=fun k b=>h.R1 y _ hy (.inr (.inr (.inr ⟨k,b,rfl⟩)));unfold Cm;rw[h.R1 y a hy (.inl rfl),h.R1 y (6+a) hy (.inr (.inl rfl)),h.R1 y (12+a) hy (.inr (.inr (.inl rfl))),o 0 (by omega),o 1 (by omega),o 2 (by omega),o 3 (by omega),o 4 (by omega),o 5 (by omega)];have:=h.R2 y 0 hy (by omega); have:=h.R2 y 1 hy (by omega); have:=h.R2 y 2 hy (by omega); have:=h.R2 y 3 hy (by omega); have:=h.R2 y 4 hy (by omega); have:=h.R2 y 5 hy (by omega);omega
theorem Ab.Le.okE(h:A.Le B (aV v))(l:A.Ok)(m:B.Ok)(t:H8 v)(a:A.QI v):B.QI v:=by
 obtain⟨c,p⟩:=t.reg;have P:=a.pre;have w : ∀ r,B.gh v.o r=A.gh v.o r:=fun r=>by rw[c]; exact h.gho r
 have s : ∀ r,B.ask v.o r=A.ask v.o r:=fun r=>by rw[c]; exact h.ask r
 refine⟨h.inn _ a.inn,h.left.trans a.left,⟨fun k => ?_,fun k=>h.has _ (P.n2 k),fun k=>⟨h.has _ (P.n3 k).1,(w _).trans (P.n3 k).2⟩,fun k=>(w _).trans (P.n4 k),fun k=>h.has _ (P.n5 k)⟩,fun k => ?_,fun k => ?_,fun k => ?_,fun k => ?_,fun k=>⟨h.inn _ (a.k5 k).1,Q_ (a.k5 k).2 (h.loc p (P.n5 k))⟩⟩
 ·obtain⟨d,f,j⟩:=P.n1 k;refine⟨?_,f,j.imp (fun q=>q) (h.has _)⟩;have:=h.hid v.seq t.seq;rw[<- c]at this;exact this.trans d
 ·obtain⟨d,f,j⟩:=a.k1 k;refine⟨by rw[h.own]; exact d,f,fun q=>j fun i x => ?_⟩;have n:=q i x
  rcases(P.n1 k).2.2 with e|e
  ·exfalso;have:B.up v.node 0=0:=e;have:=q 0 (by omega);rw[‹B.up v.node 0=0›,m.z]at this; cases this
  rw[h.up l m e i]at n
  rcases Ab.H7 l e i with e0|e0
  ·rw[e0,m.z]at n; cases n
  exact e0
 ·rw[h.R1 _ _ (P.n2 k) (.inl rfl)]; exact a.k2 k
 ·refine⟨(s _).trans (a.k3 k).1,fun y b => ?_⟩;rw[h.on l m (P.n3 k).1]at b;exact Q_ ((a.k3 k).2 y b) (h.loc p (Ab.Nw b))
 obtain⟨d,f,j⟩:=a.k4 k;have u:=(h.gh _ _ (P.n4 k)).2;refine⟨(s _).trans d,by rw[c,h.go,<- c]; exact f,fun y b => ?_⟩;rw[u 2 (by decide),h.on l m (l.g _ _ (P.n4 k))]at b;rw[u 3 (by decide),h.R1 _ _ (Ab.Nw b) (.inr (.inl rfl)),h.R1 _ _ (Ab.Nw b) (.inr (.inr (.inl rfl)))];exact j y b
end
end Rt
end
section
set_option linter.unusedVariables false
namespace Rt
section
variable {A B:Ab} {u v:EvM} {a:Nat} {x y:Int}
theorem Ab.Le.dl(h:A.Le B a)(f:A.Ok)(j:B.Ok)(i:A.Pre u)(y:Int)(p:Nat):B.dl u y p=A.dl u y p:=by
 unfold Ab.dl;by_cases d:u.kind=1
 ·rw[d_ d,d_ d]
 rw[b_ d,b_ d];by_cases e:u.kind=2
 ·rw[d_ e,d_ e]
 rw[b_ e,b_ e];by_cases c:u.kind=3
 ·rw[d_ c,d_ c,h.on f j (i.n3 c).1]
 rw[b_ c,b_ c];by_cases b:u.kind=4
 ·have k:=h.gh _ _ (i.n4 b);rw[d_ b,d_ b,k.2 2 (by decide),k.2 3 (by decide),h.on f j (f.g _ _ (i.n4 b))]
 rw[b_ b,b_ b]
theorem or_mono{p q c:Bool}(h:p=true->q=true)(a:(p || c)=true):(q || c)=true:=by
 cases c
 ·rw[G_]at a ⊢; exact h a
 rw[Bool.or_true]
theorem Ab.Le.both(h:A.Le B a)(f:A.Ok)(i:B.Ok)(n:A.Pre u)(w:B.Pre u):(A.qz u).Le (B.qz u) a:=by
 have m : ∀ y,(A.qz u).has y=true->A.has y=true\/(A.has y=false/\B.has y=false/\u.kind=1/\y=oU u):=fun y b=>by
  have b:(A.has y || (decide (u.kind=1)&&decide (y=oU u)))=true:=b
  cases hc:A.has y
  ·right;rw[hc,Bool.false_or,R_]at b;have k:=h_ b.1; have e:=h_ b.2;exact⟨rfl,e ▸ (w.n1 k).1,k,e⟩
  ·exact .inl rfl
 refine⟨fun j d=>or_mono (h.inn j) d,?_,?_,fun y b=>or_mono (h.has y) b,fun s x => ?_,fun y b => ?_,fun y p b v => ?_,fun y k b t => ?_,fun o r l=>⟨or_mono (fun q=>(h.gh o r q).1) l,fun j d => ?_⟩,fun r => ?_,fun r => ?_,fun r => ?_⟩
 ·show(B.left a || _)=(A.left a || _); rw[h.left]
 ·show B.own a+_=A.own a+_; rw[h.own]
 ·show(B.has _ || _)=(A.has _ || _); rw[h.hid s x]
 ·show(if u.kind=1/\y=oU u then u.node else B.par y)=(if u.kind=1/\y=oU u then u.node else A.par y)
  rcases m y b with q|⟨_,_,k,e⟩
  ·rw[h.par y q]
  rw[d_ ⟨k,e⟩,d_ ⟨k,e⟩]
 ·show B.R y p+B.dl u y p=A.R y p+A.dl u y p;rw[h.dl f i n]
  rcases m y b with q|⟨q1,q2,_,_⟩
  ·rw[h.R1 y p q v]
  rw[f.r0 y p q1,i.r0 y p q2]
 ·show A.R y _+A.dl u y _<=B.R y _+B.dl u y _;rw[h.dl f i n]
  rcases m y b with q|⟨q1,q2,_,_⟩
  ·have:=h.R2 y k q t; omega
  rw[f.r0 y _ q1,i.r0 y _ q2]; exact M_ _
 ·show(if u.kind=3/\o=u.o/\r=u.req then(if j=2 then u.node else if j=3 then u.aT else 0)else if u.kind=4/\o=u.o/\r=u.of/\j=4 then u.req else B.g o r j)=(if u.kind=3/\o=u.o/\r=u.req then(if j=2 then u.node else if j=3 then u.aT else 0)else if u.kind=4/\o=u.o/\r=u.of/\j=4 then u.req else A.g o r j);by_cases c:u.kind=3/\o=u.o/\r=u.req
  ·rw[d_ c,d_ c]
  rw[b_ c,b_ c,b_ (show ¬ (u.kind=4/\o=u.o/\r=u.of/\j=4)from fun q=>d q.2.2.2),b_ (show ¬ (u.kind=4/\o=u.o/\r=u.of/\j=4)from fun q=>d q.2.2.2)];have l:(A.gh o r || (decide (u.kind=3)&&(decide (o=u.o)&&decide (r=u.req))))=true:=l
  rcases Bool.or_eq_true_iff.1 l with q|q
  ·exact(h.gh o r q).2 j d
  rw[R_,R_]at q; exact L_ ⟨h_ q.1,h_ q.2.1,h_ q.2.2⟩ c
 ·show(B.gh _ r || _)=(A.gh _ r || _); rw[h.gho r]
 ·show(if u.kind=3/\(a:Int)+1=u.o/\r=u.req then(if 4=2 then u.node else if 4=3 then u.aT else 0)else if u.kind=4/\(a:Int)+1=u.o/\r=u.of/\4=4 then u.req else B.g _ r 4)=(if u.kind=3/\(a:Int)+1=u.o/\r=u.req then(if 4=2 then u.node else if 4=3 then u.aT else 0)else if u.kind=4/\(a:Int)+1=u.o/\r=u.of/\4=4 then u.req else A.g _ r 4);rw[h.go r]
 show(B.ask _ r || _)=(A.ask _ r || _); rw[h.ask r]
theorem Ab.aef(d:H8 u)(r:aV u≠a)(ha:a<6){p:Nat}(b:ais a p)(y:Int):A.dl u y p=0:=by
 obtain⟨n,s⟩:=d.reg;have j:p≠aV u:=by rcases b with e|e|e|⟨k,hk,e⟩ <;> omega
 have l:p≠6+aV u:=by rcases b with e|e|e|⟨k,hk,e⟩ <;> omega
 have m:p≠12+aV u:=by rcases b with e|e|e|⟨k,hk,e⟩ <;> omega
 unfold Ab.dl;by_cases f:u.kind=1
 ·rw[d_ f,b_ fun q=>j q.2]
 rw[b_ f];by_cases g:u.kind=2
 ·rw[d_ g,b_ fun q=>j q.2]
 rw[b_ g];by_cases h:u.kind=3
 ·rw[d_ h,b_ fun q=>l q.2]
 rw[b_ h];by_cases i:u.kind=4
 ·rw[d_ i,b_ fun q=>m q.2]
 rw[b_ i];by_cases c:u.kind=5
 ·have o:=d.dst c;rw[d_ c,b_];rintro ⟨_,q⟩;unfold dV at q
  rcases b with e|e|e|⟨k,hk,e⟩ <;> omega
 rw[b_ c]
theorem Ab.ait(a:H8 u){p:Nat}(d:18<=p)(y:Int):0<=A.dl u y p:=by
 obtain⟨b,e⟩:=a.reg;have c:=a.aT;unfold Ab.dl;split
 ·split <;> omega
 split
 ·split <;> omega
 split
 ·split <;> omega
 split
 ·rw[b_ fun q=>by omega]; omega
 split
 ·split <;> omega
 omega
theorem Ab.Le.step(h:A.Le B a)(x:B.Ok)(c:H8 u)(m:B.Pre u)(e:aV u≠a)(ha:a<6):A.Le (B.qz u) a:=by
 obtain⟨w,z⟩:=c.reg;have no : ¬ (a:Int)+1=u.o:=by omega
 refine⟨fun j d => ?_,?_,?_,fun y b=>Ab.Bf (h.has y b),fun s f => ?_,fun y b=>(Ab.O8 m (h.has y b)).trans (h.par y b),fun y p b l => ?_,fun y k b v => ?_,fun o r t => ?_,fun r => ?_,fun r => ?_,fun r => ?_⟩
 ·show(B.inn j || _)=true; rw[h.inn j d]; rfl
 ·show(B.left a || (decide (u.kind=7)&&decide (a=aV u)))=A.left a;rw[g_ (show ¬ a=aV u from fun q=>e q.symm),H_,G_]; exact h.left
 ·show B.own a+(if u.kind=1/\a=aV u then 1 else 0)=A.own a;rw[b_ fun q=>e q.2.symm,C_]; exact h.own
 ·show(B.has _ || (decide (u.kind=1)&&decide (iU ((a:Int)+1) s=oU u)))=_;rw[g_ (show ¬ iU ((a:Int)+1) s=oU u from fun q=>by
   rw[c.id]at q; unfold iU at q; rw[d_ ⟨by omega,by omega,f.1,f.2⟩]at q; have:=c.seq; omega),H_,G_]
  exact h.hid s f
 ·show B.R y p+B.dl u y p=A.R y p;rw[Ab.aef c e ha l,C_]; exact h.R1 y p b l
 ·show A.R y _<=B.R y _+B.dl u y _;have:=h.R2 y k b v;have:=Ab.ait (A:=B) c (p:=18+(6*k+a)) (by omega) y;omega
 ·obtain⟨i,n⟩:=h.gh o r t;exact⟨Ab.aed i,fun j d=>(Ab.Ll m i j d).trans (n j d)⟩
 ·show(B.gh _ r || (decide (u.kind=3)&&(decide ((a:Int)+1=u.o)&&decide (r=u.req))))=_;rw[g_ no,Bool.false_and,H_,G_]; exact h.gho r
 ·show(if u.kind=3/\(a:Int)+1=u.o/\r=u.req then(if 4=2 then u.node else if 4=3 then u.aT else 0)else if u.kind=4/\(a:Int)+1=u.o/\r=u.of/\4=4 then u.req else B.g _ r 4)=_;rw[b_ fun q=>no q.2.1,b_ fun q=>no q.2.1]; exact h.go r
 show(B.ask _ r || ((decide (u.kind=3) || decide (u.kind=4))&&(decide ((a:Int)+1=u.o)&&decide (r=u.req))))=_;rw[g_ no,Bool.false_and,H_,G_]; exact h.ask r
end
end Rt
end
section
set_option linter.unusedVariables false
namespace Rt
def sU(K:Nat->Int)(v:EvM):Bool:=decide (v.seq<=K (aL v))
def fJ(ev:Nat->EvM)(K:Nat->Int)(A0:Ab):Nat->Ab
 | 0=>A0
 | n+1=>if sU K (ev n)=true then(fJ ev K A0 n).qz (ev n)else fJ ev K A0 n
structure Evs(A0:Ab)(ev:Nat->EvM)(an:Nat):Prop where
 ok0:A0.Ok
 rd : ∀ k,k<an->dH (fO ev k) (ev k)=true
 g : ∀ k,k<an->H8 (ev k)
 dc : ∀ k,k<an->KL ev an (ev k).deps
 tk : ∀ k,k<an->(fJ ev (ev k).deps A0 k).QI (ev k)
section
variable {A0:Ab} {ev:Nat->EvM} {an n m i j k:Nat} {K K1 K2:Nat->Int}
theorem kg{v:EvM}:sU K v=true<->v.seq<=K (aL v):=by unfold sU; exact O_
theorem Evs.seq(h:Evs A0 ev an)(a:k<an):(ev k).seq=fO ev k (aL (ev k))+1:=(Fj (h.rd k a)).2.1
theorem Evs.mono(h:Evs A0 ev an)(a:j<an)(c:k<an)(e:aL (ev j)=aL (ev k))(b:j<k):(ev j).seq<(ev k).seq:=by
 rw[h.seq a,h.seq c];have:=DZ (ev:=ev) b;rw[e]at this ⊢; omega
theorem Evs.uniq(h:Evs A0 ev an)(b:j<an)(c:k<an)(a:aL (ev j)=aL (ev k))(d:(ev j).seq=(ev k).seq):j=k:=by
 rcases Nat.lt_trichotomy j k with q|q|q
 ·have:=h.mono b c a q; omega
 ·exact q
 have:=h.mono c b a.symm q; omega
theorem Evs.ahead(h:Evs A0 ev an)(a:j<an)(b:k<an)(e:sU (ev k).deps (ev j)=true):j<k:=by
 have e:=kg.1 e;have d:=(Fj (h.rd k b)).2.2 (aL (ev j)) (h.g j a).reg.2;rw[h.seq a]at e;by_cases c:j<k
 ·exact c
 have:=cnt_mono (ev:=ev) (i:=aL (ev j)) (show k<=j by omega); omega
theorem mI(e:sU K (ev n)=true):fJ ev K A0 (n+1)=(fJ ev K A0 n).qz (ev n):=by show(if _ then _ else _)=_; rw[d_ e]
theorem mM(e:sU K (ev n)=false):fJ ev K A0 (n+1)=fJ ev K A0 n:=by show(if _ then _ else _)=_; rw[b_ (by rw[e]; decide)]
theorem Jk(h:Evs A0 ev an)(a:Nat)(ha:a<6)(f : ∀ i,i<6->K1 i<=K2 i) : ∀ m,m<=an->(∀ i,i<=m->(fJ ev K1 A0 i).Ok)->(∀ i,i<=m->(fJ ev K2 A0 i).Ok)->(∀ i,i<m->sU K1 (ev i)=true->(fJ ev K1 A0 i).QI (ev i))->(∀ i,i<m->sU K2 (ev i)=true->(fJ ev K2 A0 i).QI (ev i)) ->
 (∀ i,i<m->aL (ev i)=a->sU K2 (ev i)=true->sU K1 (ev i)=true)->(fJ ev K1 A0 m).Le (fJ ev K2 A0 m) a
 | 0,_,_,_,_,_,_=>Ab.Le.refl _ _
 | m+1,hm,o1,o2,v1,v2,ho=>by
   have d:=Jk h a ha f m (by omega) (fun i c=>o1 i (by omega)) (fun i c=>o2 i (by omega)) (fun i c=>v1 i (by omega)) (fun i c=>v2 i (by omega)) (fun i c=>ho i (by omega))
   cases c1:sU K1 (ev m)with
   | true =>
     have b:sU K2 (ev m)=true:=kg.2 (Q_ (kg.1 c1) (f _ (h.g m (by omega)).reg.2));rw[mI c1,mI b];exact d.both (o1 m (by omega)) (o2 m (by omega)) (v1 m (by omega) c1).pre (v2 m (by omega) b).pre
   | false =>
     rw[mM c1]
     cases b:sU K2 (ev m)with
     | true =>
       rw[mI b];exact d.step (o2 m (by omega)) (h.g m (by omega)) (v2 m (by omega) b).pre (fun e=>by have:=ho m (by omega) e b; rw[c1]at this; cases this) ha
     | false=>rw[mM b]; exact d
theorem vO(h:Evs A0 ev an) : ∀ n,n<=an -> ∀ K,KL ev an K->(∀ i,i<=n->(fJ ev K A0 i).Ok) /\ ∀ i,i<n->sU K (ev i)=true->(fJ ev K A0 i).QI (ev i)
 | 0,_,K,_=>⟨fun i a=>(show i=0 by omega) ▸ h.ok0,fun i a=>L_ a (u_ _)⟩
 | n+1,hn,K,hc=>by
   obtain⟨o,v⟩:=vO h n (by omega) K hc;have f:sU K (ev n)=true->(fJ ev K A0 n).QI (ev n):=fun c=>by
    obtain⟨l,r⟩:=vO h n (by omega) (ev n).deps (h.dc n (by omega));have d:=h.g n (by omega);have p:=Jk h (aV (ev n)) d.reg.2 (hc.cl n (by omega) (kg.1 c)) n (by omega) l o r v (fun i a e t=>by
     have u:=h.mono (j:=i) (k:=n) (by omega) (by omega) e a;have b:=(Fj (h.rd n (by omega))).1;refine kg.2 ?_;have m:(ev n).deps (aL (ev n))=(ev n).seq-1:=by
      unfold bR at b; simp only[R_,decide_eq_true_eq]at b; exact b.1.1.1.2
     rw[show aL (ev i)=aL (ev n)from e,m]; omega)
    exact p.okE (l n (z_ _)) (o n (z_ _)) d (h.tk n (by omega))
   have s : ∀ i,i<n+1->sU K (ev i)=true->(fJ ev K A0 i).QI (ev i):=fun i a e=>by
    by_cases q:i=n
    ·subst q; exact f e
    ·exact v i (by omega) e
   refine⟨fun i a => ?_,s⟩;by_cases q:i=n+1
   ·subst q
    cases c:sU K (ev n)with
    | true=>rw[mI c]; exact Ab.aee (o n (z_ _)) (f c).pre
    | false=>rw[mM c]; exact o n (z_ _)
   ·exact o i (by omega)
end
end Rt
end
section
set_option linter.unusedVariables false
namespace Rt
section
variable {A0:Ab} {ev:Nat->EvM} {an n m i j k:Nat} {K:Nat->Int}
theorem Cn(h:Evs A0 ev an)(a:j<an) : ∀ m,j<=m->m<=an->fJ ev (ev j).deps A0 m=fJ ev (ev j).deps A0 j
 | 0,h1,_=>by obtain rfl:j=0:=(by omega); rfl
 | m+1,h1,h2=>by
   by_cases e:j=m+1
   ·rw[e]
   ·have c:sU (ev j).deps (ev m)=false:=by
     cases q:sU (ev j).deps (ev m)with
     | true=>have:=h.ahead (show m<an by omega) a q; omega
     | false=>rfl
    rw[mM c];exact Cn h a m (by omega) (by omega)
theorem VO{v:EvM}(h:bR v=true):v.deps (aL v)=v.seq-1:=by
 unfold bR at h; simp only[R_,decide_eq_true_eq]at h; exact h.1.1.1.2
theorem H9(h:Evs A0 ev an)(l:KL ev an K)(b:j<an)(hr:dH K (ev j)=true)(h1:j<=m)(a:m<=an):(fJ ev K A0 m).QI (ev j):=by
 obtain⟨f,q⟩:=vO h m a (ev j).deps (h.dc j b);obtain⟨o,v⟩:=vO h m a K l;obtain⟨n,s,p⟩:=Fj hr;have c:=h.g j b;have d:=Jk h (aV (ev j)) c.reg.2 p m a f o q v (fun i r e k=>by
  refine kg.2 ?_;have:=kg.1 k;rw[show aL (ev i)=aL (ev j)from e]at this ⊢;rw[VO n]; omega)
 rw[Cn h b m h1 a]at d;exact d.okE (by rw[<- Cn h b m h1 a]; exact f m (z_ _)) (o m (z_ _)) c (h.tk j b)
def Jl(K:Nat->Int)(v:EvM):Nat->Int:=aH K (aL v) (K (aL v)+1)
theorem VP(h:Evs A0 ev an)(a:j<an)(hr:dH K (ev j)=true)(hi:i<an)(b:i≠j):sU (Jl K (ev j)) (ev i)=sU K (ev i):=by
 have d:=(Fj hr).2.1;have:sU (Jl K (ev j)) (ev i)=true<->sU K (ev i)=true:=by
  rw[kg,kg];unfold Jl aH;split
  ·rename_i e;rw[e];constructor
   ·intro q;by_cases c:(ev i).seq<=K (aL (ev j))
    ·exact c
    ·exact L_ (h.uniq hi a e (by omega)) b
   ·intro q; omega
  ·exact Iff.rfl
 cases c1:sU (Jl K (ev j)) (ev i) <;> cases c2:sU K (ev i) <;> simp_all
theorem FM(h:Evs A0 ev an)(a:j<an)(hr:dH K (ev j)=true) : ∀ m,m<=j->fJ ev (Jl K (ev j)) A0 m=fJ ev K A0 m
 | 0,_=>rfl
 | m+1,hm=>by
   have e:=VP h a hr (show m<an by omega) (show m≠j by omega)
   cases c:sU K (ev m)with
   | true=>rw[mI (e.trans c),mI c,FM h a hr m (by omega)]
   | false=>rw[mM (e.trans c),mM c,FM h a hr m (by omega)]
theorem Ia(h:Evs A0 ev an)(b:KL ev an K)(a:j<an)(hr:dH K (ev j)=true) : ∀ m,j<m->m<=an->fJ ev (Jl K (ev j)) A0 m=(fJ ev K A0 m).qz (ev j)
 | 0,h1,_=>L_ h1 (u_ _)
 | m+1,h1,h2=>by
   have r:=(Fj hr).2.1;by_cases e:m=j
   ·subst e;have l:sU (Jl K (ev m)) (ev m)=true:=kg.2 (by unfold Jl aH; rw[d_ rfl]; omega);have n:sU K (ev m)=false:=by
     cases q:sU K (ev m)with
     | true=>have:=kg.1 q; omega
     | false=>rfl
    rw[mI l,mM n,FM h a hr m (z_ _)]
   ·have k:=Ia h b a hr m (by omega) (by omega);have f:=VP h a hr (show m<an by omega) e
    cases c:sU K (ev m)with
    | true =>
      obtain⟨o,v⟩:=vO h (m+1) h2 K b;rw[mI (f.trans c),mI c,k];have i:(ev j).o≠(ev m).o:=fun q=>by
       have d:aL (ev j)=aL (ev m):=(by unfold aL; rw[q]);have s:=h.mono a (show m<an by omega) d (by omega);have p:=kg.1 c;rw[<- d]at p; omega
      exact Ab.VN (o m (by omega)) (H9 h b a hr (by omega) (by omega)).pre (v m (by omega) c).pre i (fun _ _=>H8.ne (h.g j a) (h.g m (by omega)) i)
    | false=>rw[mM (f.trans c),mM c,k]
theorem Y5(h:Evs A0 ev an)(b:KL ev an K)(a:j<an)(hr:dH K (ev j)=true):fJ ev (Jl K (ev j)) A0 an=(fJ ev K A0 an).qz (ev j):=Ia h b a hr an a (z_ _)
end
end Rt
end
section
set_option linter.unusedVariables false
namespace Rt
def eB(m:dQ):Ab where
 inn:=m.inn
 left:=m.left
 own:=m.own
 has:=m.T.has
 par:=m.T.par
 R:=aY m
 gh:=iD m
 g:=fun o r j=>if iD m o r=true/\2<=j/\j<=4 then m.g (eY m o r) j else 0
 ask:=gN m
section
variable {m:dQ} {T:dL} {x y:Int} {v:EvM}
theorem Ib{x p:Nat->Int} : ∀ {n:Nat} {k:Int},dP x n k=false->gZ x p n k=0
 | 0,k,_=>rfl
 | n+1,k,h=>by
   have h:(dP x n k || decide (x n=k))=false:=h;rw[Bool.or_eq_false_iff]at h;show(if x n=k then p n else gZ x p n k)=0;rw[b_ (j_ h.2)];exact Ib h.1
def Lm(T:dL)(x:Int):Nat->Int
 | 0=>x
 | i+1=>T.par (Lm T x i)
theorem FN(T:dL)(x:Int) : ∀ i,Lm T x (i+1)=Lm T (T.par x) i
 | 0=>rfl
 | i+1=>by show T.par (Lm T x (i+1))=T.par (Lm T (T.par x) i); rw[FN T x i]
theorem QJ(h:T.has x=false):T.path x = []:=by
 have : ¬ T.has x=true:=by rw[h]; decide
 cases e:T.path x with
 | nil=>rfl
 | cons a l=>exact L_ (show ji T.x T.p T.n 4 x = []from kJ h) (by rw[show ji T.x T.p T.n 4 x=T.path x from rfl,e]; exact fun q=>by cases q)
theorem Ea(g:T.ok) : ∀ n x,(T.path x).length<=n->(∀ i,i<(T.path x).length->(T.path x).getD i 0=Lm T x i/\T.has (Lm T x i)=true)/\T.has (Lm T x (T.path x).length)=false
 | 0,x,hn=>by
   have e:T.path x = []:=List.length_eq_zero_iff.1 (by omega);rw[e];refine⟨fun i d=>L_ d (u_ _),?_⟩
   cases c:T.has (Lm T x [].length)with
   | false=>rfl
   | true=>rw[dL.step g (show T.has x=true from c)]at e; cases e
 | n+1,x,hn=>by
   cases c:T.has x with
   | false =>
     rw[QJ c];exact⟨fun i d=>L_ d (u_ _),c⟩
   | true =>
     have f:=dL.step g c;have k:(T.path x).length=(T.path (T.par x)).length+1:=(by rw[f]; rfl);obtain⟨h,j⟩:=Ea g n (T.par x) (by omega);refine⟨fun i d => ?_,by rw[k,FN]; exact j⟩
     cases i with
     | zero=>rw[f]; exact⟨rfl,c⟩
     | succ i =>
       rw[FN];obtain⟨a,b⟩:=h i (by omega);refine⟨?_,b⟩;rw[f];exact a
theorem FP(m:dQ)(x:Int) : ∀ i,(eB m).up x i=Lm m.T x i
 | 0=>rfl
 | i+1=>by show m.T.par ((eB m).up x i)=m.T.par (Lm m.T x i); rw[FP m x i]
theorem Lp(a:T.ok){k:Nat}(h:T.has (Lm T x k)=false) : ∀ i,k<=i->T.has (Lm T x i)=false
 | 0,hi=>by obtain rfl:k=0:=(by omega); exact h
 | i+1,hi=>by
   by_cases e:k=i+1
   ·rw[<- e]; exact h
   ·have:=Lp a h i (by omega);have b:T.par (Lm T x i)=0:=Ib this;show T.has (T.par (Lm T x i))=false;rw[b]; exact Bj.Xe a
theorem Co(j:m.T.ok)(x y:Int):(eB m).on x y=true<->y∈m.T.path x:=by
 obtain⟨h,n⟩:=Ea j _ x (z_ _);have o:=dL.yQ (T:=m.T) (k:=x);unfold Ab.on;rw[R_,List.any_eq_true,List.mem_iff_getElem];constructor
 ·rintro ⟨l,i,d,e⟩;have e:=h_ e;rw[FP]at e;have f:i<(m.T.path x).length:=by
   by_cases c:i<(m.T.path x).length
   ·exact c
   ·have:=Lp j n i (by omega);rw[e]at this;rw[show(eB m).has y=m.T.has y from rfl,this]at l; cases l
  refine⟨i,f,?_⟩;have:=(h i f).1;rw[r_,o_ f]at this;exact this.trans e
 rintro ⟨i,d,e⟩;obtain⟨a,b⟩:=h i d;rw[r_,o_ d]at a;have g:Lm m.T x i=y:=a.symm.trans e;refine⟨by rw[<- g]; exact b,i,N_.2 (by omega),f_ (by rw[FP]; exact g)⟩
end
end Rt
end
section
set_option linter.unusedVariables false
namespace Rt
theorem yU{x:Nat->Int}{n:Int}{b:Bool}{a:Int}{off:Nat}(h:(bT x n b a off).2=0):may x=true/\1<=n/\n<=1125899906842624/\b=true/\a=0/\x off+n<=1125899906842624/\(bT x n b a off).1=upd x off (x off+n):=by
 rcases nR x n b a off with ⟨_,c,_⟩|⟨⟨hm,h1,c,hr,he,hx⟩,heq⟩
 ·exact L_ h c
 exact⟨hm,h1,c,hr,he,hx,by rw[heq]⟩
section
variable {m:dQ} {x y:Int} {v:EvM}
theorem FQ(b:m.T.ok){k:Int}(d:m.T.has k=true)(r:Nat->Int)(y:Int):aY (BU m k r) y=if y=k then r else aY m y:=by
 unfold aY;show(if m.T.has y=true then aN m.R (m.idx k) r (m.idx y)else FE)=_;by_cases e:y=k
 ·subst e; rw[d_ d,d_ rfl]; unfold aN; rw[d_ rfl]
 rw[b_ e];by_cases c:m.T.has y=true
 ·rw[d_ c,d_ c];unfold aN;rw[b_]
  ·rfl
  intro q;have a:=(dQ.CY b c).2;rw[q,(dQ.CY b d).2]at a;exact e a.symm
 rw[b_ c,b_ c]
open Classical in
theorem Jm(a:m.T.ok)(f:(Nat->Int)->(Nat->Int) × Int)(x y:Int):aY (oJ m f (m.T.path x)) y=if y∈m.T.path x then(f (aY m y)).1 else aY m y:=by
 unfold aY;show(if m.T.has y=true then(if m.T.x (m.idx y)∈m.T.path x then(f (m.R (m.idx y))).1 else m.R (m.idx y))else FE)=_;by_cases c:m.T.has y=true
 ·rw[d_ c,d_ c,(dQ.CY a c).2]; rfl
 rw[b_ c,b_ c,b_ fun q=>c (dL.nU a rfl y q)]
theorem yV(b:m.T.ok){f:(Nat->Int)->(Nat->Int) × Int}(h:dA m f (m.T.path x)=0)(hy:y∈m.T.path x):(f (aY m y)).2=0:=by
 obtain⟨i,a,e⟩:=List.getElem_of_mem hy;have:=FB h i a;rw[r_,o_ a]at this;rw[<- e];unfold aY;rw[d_ (dL.nU b rfl _ (P_ a))];exact this
theorem FT(h:bR v=true):v.o=(aV v:Int)+1/\aV v<6/\v.o.toNat-1=aV v:=by
 have:=nS h; unfold aV; omega
theorem Jo{x:Nat->Int}{off:Nat}{n:Int}(p:Nat):upd x off (x off+n) p=x p+if p=off then n else 0:=by
 unfold upd;by_cases e:p=off
 ·subst e; rw[d_ rfl,d_ rfl]
 rw[b_ e,b_ e,C_]
theorem aeg(f:m.T.ok)(k:bR v=true)(j:v.kind=1)(a:iT m v=0)(y:Int)(p:Nat):aY (CU m v) y p=aY m y p+(eB m).dl v y p:=by
 have d:m.T.has (nk v)=false:=by
  unfold iT at a;split at a
  ·cases a
  ·exact(Er a).2.1
 have h:oU v=nk v:=qU k;unfold Ab.dl;rw[d_ j,h];unfold aY;show(if(m.T.put (nk v) v.node).has y=true then aN m.R m.T.n (upd (fun _=>0) (aL v) v.aT) (zq (aN m.T.x m.T.n (nk v)) (m.T.n+1) y)else FE) p=_;rw[dL.jl];by_cases e:nk v=y
 ·subst e;rw[f_ rfl,Bool.or_true,d_ rfl,d,b_ (by decide),K7 _ _ _ (fun i g e=>by have:=dL.zK g; rw[e,d]at this; cases this)]
  unfold aN;rw[d_ rfl];show upd (fun _=>0) (aL v) v.aT p=0+_;unfold upd;rw[Int.zero_add];by_cases c:p=aL v
  ·rw[d_ c,d_ ⟨rfl,c⟩]
  rw[b_ c,b_ (fun q=>c q.2)]
 rw[g_ e,G_,b_ (show ¬ (y=nk v/\p=aV v)from fun q=>e q.1.symm),C_];by_cases c:m.T.has y=true
 ·rw[d_ c,d_ c,K8 _ _ e];have b:=(dQ.CY f c).1;have b:zq m.T.x m.T.n y<m.T.n:=b;unfold aN;rw[b_ (by omega)];rfl
 rw[b_ c,b_ c]
theorem Y6(f:m.T.ok)(g:bR v=true)(d:v.kind=2)(a:jm m v=0)(y:Int)(p:Nat):aY (uH m v) y p=aY m y p+(eB m).dl v y p:=by
 have b:m.T.has v.node=true:=by
  unfold jm at a
  cases c:m.T.has v.node with
  | true=>rfl
  | false=>rw[d_ c]at a; cases a
 unfold Ab.dl;rw[b_ (by rw[d]; decide),d_ d];unfold uH;rw[FQ f b];by_cases e:y=v.node
 ·subst e;rw[d_ rfl,Jo];unfold aY;rw[d_ b];show m.R (m.idx v.node) p+(if p=aL v then v.aT else 0)=m.R (m.idx v.node) p+_;by_cases c:p=aL v
  ·rw[d_ c,d_ ⟨rfl,c⟩]
  rw[b_ c,b_ (fun q=>c q.2)]
 rw[b_ e,b_ (fun q=>e q.1),C_]
theorem aeh(j:m.T.ok)(z:bR v=true)(f:v.kind=5)(d:jX m v=0)(y:Int)(p:Nat):aY (CP m v) y p=aY m y p+(eB m).dl v y p:=by
 have g:m.T.has v.node=true/\(rZ m v).2=0:=by
  unfold jX at d
  cases c:m.T.has v.node with
  | true =>
    rw[b_ (by rw[c]; decide)]at d;split at d
    ·cases d
    ·exact⟨rfl,d⟩
  | false=>rw[d_ c]at d; cases d
 obtain⟨a,b,s,t,w,x,u,l,n,o,r,k⟩:=AP g.2;have h:aV v=a:=by unfold aV; omega
 have i:dV v=b:=by unfold dV; omega
 unfold Ab.dl;rw[b_ (by rw[f]; decide),b_ (by rw[f]; decide),b_ (by rw[f]; decide),b_ (by rw[f]; decide),d_ f,h,i];unfold CP;rw[FQ j g.1];by_cases e:y=v.node
 ·subst e;rw[d_ rfl];unfold rZ;rw[k,Jo];unfold aY;rw[d_ g.1];show m.R (m.idx v.node) p+(if p=18+a*6+b then v.aT else 0)=m.R (m.idx v.node) p+_;by_cases c:p=18+a*6+b
  ·rw[d_ c,d_ ⟨rfl,by omega⟩]
  rw[b_ c,b_ (fun q=>c (by omega))]
 rw[b_ e,b_ (fun q=>e q.1),C_]
theorem VQ(a:m.T.ok){f:(Nat->Int)->(Nat->Int) × Int}{x:Int}{n:Int}{off:Nat}(b : ∀ y,y∈m.T.path x->(f (aY m y)).1=upd (aY m y) off (aY m y off+n))(y:Int)(p:Nat):aY (oJ m f (m.T.path x)) y p=aY m y p+if(eB m).on x y=true/\p=off then n else 0:=by
 rw[Jm a];by_cases c:y∈m.T.path x
 ·rw[d_ c,b y c,Jo];by_cases e:p=off
  ·rw[d_ e,d_ ⟨(Co a x y).2 c,e⟩]
  rw[b_ e,b_ (fun q=>e q.2)]
 rw[b_ c,b_ (fun q=>c ((Co a x y).1 q.1)),C_]
theorem aei(d:m.T.ok)(g:bR v=true)(b:v.kind=3)(a:jL m v=0)(y:Int)(p:Nat):aY (jY m v) y p=aY m y p+(eB m).dl v y p:=by
 have e:dA m (fun x=>bC x v.o v.aT) (m.T.path v.node)=0:=by
  unfold jL at a;split at a
  ·cases a
  split at a
  ·cases a
  exact a
 unfold Ab.dl;rw[b_ (by rw[b]; decide),b_ (by rw[b]; decide),d_ b];refine VQ d (f:=fun x=>bC x v.o v.aT) (x:=v.node) (fun y h => ?_) y p;have c:(bC (aY m y) v.o v.aT).2=0:=yV d e h;unfold bC at c;show(bC (aY m y) v.o v.aT).1=_;unfold bC;rw[(yU c).2.2.2.2.2.2,(FT g).2.2]
theorem aej(i:m.T.ok)(l:bR v=true)(b:v.kind=4)(a:jc m v=0)(y:Int)(p:Nat):aY (iq m v) y p=aY m y p+(eB m).dl v y p:=by
 have d:iD m v.o v.of=true/\dA m (fun x=>bF x v.o (m.g (eY m v.o v.of) 3)) (m.T.path (m.g (eY m v.o v.of) 2))=0:=by
  unfold jc at a;split at a
  ·cases a
  split at a
  ·cases a
  rename_i c;refine⟨?_,a⟩
  cases e:iD m v.o v.of with
  | true=>rfl
  | false=>exact L_ (.inl e) c
 have j:(eB m).g v.o v.of 2=m.g (eY m v.o v.of) 2:=d_ ⟨d.1,by decide,by decide⟩;have k:(eB m).g v.o v.of 3=m.g (eY m v.o v.of) 3:=d_ ⟨d.1,by decide,by decide⟩;unfold Ab.dl;rw[b_ (by rw[b]; decide),b_ (by rw[b]; decide),b_ (by rw[b]; decide),d_ b,j,k];refine VQ i (f:=fun x=>bF x v.o (m.g (eY m v.o v.of) 3)) (x:=m.g (eY m v.o v.of) 2) (fun y n => ?_) y p;have h:(bF (aY m y) v.o (m.g (eY m v.o v.of) 3)).2=0:=yV i d.2 n;unfold bF at h;show(bF (aY m y) v.o (m.g (eY m v.o v.of) 3)).1=_;unfold bF;rw[(yU h).2.2.2.2.2.2,(FT l).2.2]
theorem Lr{m':dQ}(a:m'.an=m.an+1)(b:m'.ao=aN m.ao m.an v.o)(c:m'.ar=aN m.ar m.an v.req)(o r:Int):gN m' o r=(gN m o r || (decide (o=v.o)&&decide (r=v.req))):=by
 have:gN m' o r=true<->(gN m o r=true\/(v.o=o/\v.req=r)):=by unfold gN; rw[a,b,c]; exact FI
 rw[Bool.eq_iff_iff,this,Bool.or_eq_true,R_,O_,O_];exact⟨fun h=>h.imp id fun q=>⟨q.1.symm,q.2.symm⟩,fun h=>h.imp id fun q=>⟨q.1.symm,q.2.symm⟩⟩
theorem VR{k1 k2:Nat->Int}{n:Nat}{a b o r:Int}(h : ¬ (a=o/\b=r)):wR (aN k1 n a) (aN k2 n b) (n+1) o r=wR k1 k2 n o r:=by
 have d : ∀ k,k<=n->wR (aN k1 n a) (aN k2 n b) k o r=wR k1 k2 k o r:=fun k=>by
  induction k with
  | zero=>intro _; rfl
  | succ k ih =>
    intro e;show(if aN k1 n a k=o/\aN k2 n b k=r then k else _)=(if k1 k=o/\k2 k=r then k else _);rw[ih (by omega)];have c : ¬ k=n:=(by omega);rw[show aN k1 n a k=k1 k from b_ c,show aN k2 n b k=k2 k from b_ c]
 show(if aN k1 n a n=o/\aN k2 n b n=r then n else wR (aN k1 n a) (aN k2 n b) n o r)=_;rw[d n (z_ _)];rw[show aN k1 n a n=a from d_ rfl,show aN k2 n b n=b from d_ rfl,b_ h]
theorem VT{k1 k2:Nat->Int}{n:Nat}{a b:Int}:wR (aN k1 n a) (aN k2 n b) (n+1) a b=n:=by
 show(if aN k1 n a n=a/\aN k2 n b n=b then n else _)=_;unfold aN;rw[d_ ⟨d_ rfl,d_ rfl⟩]
theorem yX(g:Nat->Nat->Int)(n:Nat)(r:Nat->Int)(j:Nat):(fun i=>aN g n r i j)=aN (fun i=>g i j) n (r j):=by
 funext i; unfold aN; split <;> rfl
end
end Rt
end
section
set_option linter.unusedVariables false
namespace Rt
section
variable {m:dQ} {x y:Int} {v:EvM}
theorem jd{b c:Bool}(h:c=false):b=(b || c):=by rw[h,G_]
theorem JC{k:Int}(h:v.kind≠k){c:Bool}:(decide (v.kind=k)&&c)=false:=by rw[g_ h]; rfl
theorem VU(i:m.T.ok)(e:bR v=true)(a:v.kind=1)(h:iT m v=0):eB (CU m v)=(eB m).qz v:=by
 have d:oU v=nk v:=qU e;have b:v.kind≠3:=by rw[a]; decide
 have f:v.kind≠4:=by rw[a]; decide
 have k:v.kind≠6:=by rw[a]; decide
 have l:v.kind≠7:=by rw[a]; decide
 apply Ab.QH
 ·funext j; exact jd (JC k)
 ·funext j; exact jd (JC l)
 ·funext j
  show aH m.own (aL v) (m.own (aL v)+1) j=m.own j+if v.kind=1/\j=aV v then 1 else 0;unfold aH;by_cases c:j=aL v
  ·rw[d_ c,d_ ⟨a,c⟩,c]
  rw[b_ c,b_ (fun q=>c q.2),C_]
 ·funext y
  show(m.T.put (nk v) v.node).has y=(m.T.has y || (decide (v.kind=1)&&decide (y=oU v)));rw[dL.jl,d,f_ a,Bool.true_and]
  congr 1
  exact decide_eq_decide.2 ⟨Eq.symm,Eq.symm⟩
 ·funext y
  show(m.T.put (nk v) v.node).par y=if v.kind=1/\y=oU v then v.node else m.T.par y;rw[dL.tC,d];by_cases c:nk v=y
  ·rw[d_ c,d_ ⟨a,c.symm⟩]
  rw[b_ c,b_ (fun q=>c q.2.symm)]
 ·funext y p; exact aeg i e a h y p
 ·funext o r; exact jd (JC b)
 ·funext o r j
  show(eB m).g o r j=if v.kind=3/\_ then _ else if v.kind=4/\_ then _ else _;rw[b_ (fun q=>b q.1),b_ (fun q=>f q.1)]
 funext o r
 show gN m o r=(gN m o r || ((decide (v.kind=3) || decide (v.kind=4))&&_));rw[g_ b,g_ f];exact jd rfl
theorem Ls{m':dQ}(e:m'.inn=m.inn)(f:m'.left=m.left)(h:m'.own=m.own)(c:m'.T=m.T)(i : ∀ o r,iD m' o r=iD m o r)(k:(eB m').g=(eB m).g)(l : ∀ o r,gN m' o r=gN m o r)(a:v.kind≠1)(b:v.kind≠3)(d:v.kind≠4)(s:v.kind≠6)(t:v.kind≠7)
 (n : ∀ y p,aY m' y p=aY m y p+(eB m).dl v y p):eB m'=(eB m).qz v:=by
 apply Ab.QH
 ·funext j; rw[show(eB m').inn j=m.inn j from congrFun e j]; exact jd (JC s)
 ·funext j; rw[show(eB m').left j=m.left j from congrFun f j]; exact jd (JC t)
 ·funext j
  rw[show(eB m').own j=m.own j from congrFun h j];show m.own j=m.own j+if v.kind=1/\j=aV v then 1 else 0;rw[b_ (fun q=>a q.1),C_]
 ·funext y; rw[show(eB m').has y=m.T.has y from by rw[<- c]; rfl]; exact jd (JC a)
 ·funext y
  rw[show(eB m').par y=m.T.par y from by rw[<- c]; rfl];show _=if v.kind=1/\y=oU v then v.node else m.T.par y;rw[b_ (fun q=>a q.1)]
 ·funext y p; exact n y p
 ·funext o r; rw[show(eB m').gh o r=iD m o r from i o r]; exact jd (JC b)
 ·funext o r j
  rw[k];show(eB m).g o r j=if v.kind=3/\_ then _ else if v.kind=4/\_ then _ else _;rw[b_ (fun q=>b q.1),b_ (fun q=>d q.1)]
 funext o r
 rw[show(eB m').ask o r=gN m o r from l o r];show gN m o r=(gN m o r || ((decide (v.kind=3) || decide (v.kind=4))&&_));rw[g_ b,g_ d];exact jd rfl
theorem QK(c:m.T.ok)(d:bR v=true)(a:v.kind=2)(b:jm m v=0):eB (uH m v)=(eB m).qz v :=
 Ls rfl rfl rfl rfl (fun _ _=>rfl) rfl (fun _ _=>rfl) (by rw[a]; decide) (by rw[a]; decide) (by rw[a]; decide) (by rw[a]; decide) (by rw[a]; decide) (Y6 c d a b)
theorem VW(c:m.T.ok)(d:bR v=true)(a:v.kind=5)(b:jX m v=0):eB (CP m v)=(eB m).qz v :=
 Ls rfl rfl rfl rfl (fun _ _=>rfl) rfl (fun _ _=>rfl) (by rw[a]; decide) (by rw[a]; decide) (by rw[a]; decide) (by rw[a]; decide) (by rw[a]; decide) (aeh c d a b)
theorem Jp{k1 k2:Nat->Int}{a b:Int} : ∀ {n:Nat},Bc k1 k2 n a b=true->wR k1 k2 n a b<n
 | 0,h=>by cases h
 | n+1,h=>by
   unfold wR;by_cases c:k1 n=a/\k2 n=b
   ·rw[d_ c]; omega
   ·rw[b_ c];obtain⟨j,g,d,f⟩:=kV.1 h;by_cases e:j=n
    ·subst e; exact L_ ⟨d,f⟩ c
    ·have:=Jp (su (show j<n by omega) d f); omega
theorem Y7(h1:v.kind≠1)(a:v.kind≠2)(b:v.kind≠3)(c:v.kind≠4)(d:v.kind≠5)(A:Ab)(y:Int)(p:Nat):A.dl v y p=0:=by
 unfold Ab.dl;rw[b_ h1,b_ a,b_ b,b_ c,b_ d]
theorem Ic{A B:Ab}(h1:v.kind≠1)(n:v.kind≠2)(a:v.kind≠3)(b:v.kind≠4)(s:v.kind≠5)(c : ∀ j,B.inn j=(A.inn j || (decide (v.kind=6)&&decide (j=dV v))))(d : ∀ j,B.left j=(A.left j || (decide (v.kind=7)&&decide (j=aV v))))(e:B.own=A.own)(f:B.has=A.has)(h:B.par=A.par)(i:B.R=A.R)(k:B.gh=A.gh)(l:B.g=A.g)(m:B.ask=A.ask):B=A.qz v:=by
 apply Ab.QH
 ·funext j; exact c j
 ·funext j; exact d j
 ·funext j; rw[e]; show A.own j=A.own j+if v.kind=1/\j=aV v then 1 else 0; rw[b_ (fun q=>h1 q.1),C_]
 ·funext y; rw[f]; exact jd (JC h1)
 ·funext y; rw[h]; show _=if v.kind=1/\y=oU v then v.node else A.par y; rw[b_ (fun q=>h1 q.1)]
 ·funext y p; rw[i]; show _=A.R y p+A.dl v y p; rw[Y7 h1 n a b s,C_]
 ·funext o r; rw[k]; exact jd (JC a)
 ·funext o r j
  rw[l];show A.g o r j=if v.kind=3/\_ then _ else if v.kind=4/\_ then _ else _;rw[b_ (fun q=>a q.1),b_ (fun q=>b q.1)]
 funext o r
 rw[m];show A.ask o r=(A.ask o r || ((decide (v.kind=3) || decide (v.kind=4))&&_));rw[g_ a,g_ b];exact jd rfl
theorem Lu{f:Nat->Bool}{k j:Nat}{c:Bool}(a:c=true):aH f k true j=(f j || (c&&decide (j=k))):=by
 rw[a,Bool.true_and];unfold aH;by_cases e:j=k
 ·rw[d_ e,f_ e,Bool.or_true]
 rw[b_ e,g_ e,G_]
theorem VX(a:v.kind=6):eB (Hg m v)=(eB m).qz v :=
 Ic (by rw[a]; decide) (by rw[a]; decide) (by rw[a]; decide) (by rw[a]; decide) (by rw[a]; decide) (fun j=>Lu (f_ a)) (fun j=>jd (JC (by rw[a]; decide))) rfl rfl rfl rfl rfl rfl rfl
theorem QL(a:v.kind=7):eB (BX m v)=(eB m).qz v :=
 Ic (by rw[a]; decide) (by rw[a]; decide) (by rw[a]; decide) (by rw[a]; decide) (by rw[a]; decide) (fun j=>jd (JC (by rw[a]; decide))) (fun j=>Lu (k:=aL v) (f_ a)) rfl rfl rfl rfl rfl rfl rfl
theorem VY(z:m.T.ok)(A:Qy m)(u:bR v=true)(b:v.kind=3)(k:jL m v=0):eB (jY m v)=(eB m).qz v:=by
 have G:oU v=nk v:=qU u;have n:v.kind≠1:=by rw[b]; decide
 have C:v.kind≠4:=by rw[b]; decide
 have D:v.kind≠6:=by rw[b]; decide
 have E:v.kind≠7:=by rw[b]; decide
 have B:gN m v.o v.req=false:=by
  unfold jL at k
  cases c:gN m v.o v.req with
  | false=>rfl
  | true=>rw[d_ c]at k; cases k
 have F:iD m v.o v.req=false:=oQ fun i t e=>by
  have:=A i t;rw[e.1,e.2,B]at this; cases this
 have s : ∀ o r,iD (jY m v) o r=(iD m o r || (decide (o=v.o)&&decide (r=v.req))):=fun o r=>by
  have d:=yX m.g m.gn (qb v) 0;have f:=yX m.g m.gn (qb v) 1;have:iD (jY m v) o r=true<->(iD m o r=true\/(v.o=o/\v.req=r)):=by
   show Bc (fun i=>aN m.g m.gn (qb v) i 0) (fun i=>aN m.g m.gn (qb v) i 1) (m.gn+1) o r=true<->_;rw[d,f]; exact FI
  rw[Bool.eq_iff_iff,this,Bool.or_eq_true,R_,O_,O_];exact⟨fun h=>h.imp id fun q=>⟨q.1.symm,q.2.symm⟩,fun h=>h.imp id fun q=>⟨q.1.symm,q.2.symm⟩⟩
 have x : ∀ o r,eY (jY m v) o r=wR (aN (fun i=>m.g i 0) m.gn v.o) (aN (fun i=>m.g i 1) m.gn v.req) (m.gn+1) o r:=fun o r=>by
  have d:=yX m.g m.gn (qb v) 0;have f:=yX m.g m.gn (qb v) 1;show wR (fun i=>aN m.g m.gn (qb v) i 0) (fun i=>aN m.g m.gn (qb v) i 1) (m.gn+1) o r=_;rw[d,f]; rfl
 apply Ab.QH
 ·funext j; exact jd (JC D)
 ·funext j; exact jd (JC E)
 ·funext j
  show m.own j=m.own j+if v.kind=1/\j=aV v then 1 else 0;rw[b_ (fun q=>n q.1),C_]
 ·funext y; exact jd (JC n)
 ·funext y
  show m.T.par y=if v.kind=1/\y=oU v then v.node else m.T.par y;rw[b_ (fun q=>n q.1)]
 ·funext y p; exact aei z u b k y p
 ·funext o r
  show iD (jY m v) o r=(iD m o r || (decide (v.kind=3)&&(decide (o=v.o)&&decide (r=v.req))));rw[s,f_ b,Bool.true_and]
 ·funext o r j
  show(if iD (jY m v) o r=true/\2<=j/\j<=4 then(jY m v).g (eY (jY m v) o r) j else 0)=if v.kind=3/\o=v.o/\r=v.req then(if j=2 then v.node else if j=3 then v.aT else 0)else if v.kind=4/\_ then _ else(if iD m o r=true/\2<=j/\j<=4 then m.g (eY m o r) j else 0);rw[s,x];by_cases c:o=v.o/\r=v.req
  ·rw[d_ (show v.kind=3/\o=v.o/\r=v.req from⟨b,c⟩),c.1,c.2,VT,f_ (rfl:v.o=v.o),f_ (rfl:v.req=v.req),Bool.and_self,Bool.or_true];show(if true=true/\2<=j/\j<=4 then aN m.g m.gn (qb v) m.gn j else 0)=_;rw[show aN m.g m.gn (qb v) m.gn=qb v from d_ rfl];by_cases a:j=2
   ·rw[d_ a,a,d_ ⟨rfl,by decide,by decide⟩]; rfl
   rw[b_ a];by_cases l:j=3
   ·rw[d_ l,l,d_ ⟨rfl,by decide,by decide⟩]; rfl
   rw[b_ l];by_cases w:j=4
   ·rw[w,d_ ⟨rfl,by decide,by decide⟩]; rfl
   rw[b_ (by omega)]
  rw[b_ (show ¬ (v.kind=3/\o=v.o/\r=v.req)from fun q=>c q.2),b_ (show ¬ (v.kind=4/\o=v.o/\r=v.of/\j=4)from fun q=>C q.1),VR (fun q=>c ⟨q.1.symm,q.2.symm⟩)];have:(decide (o=v.o)&&decide (r=v.req))=false:=by
   cases e:(decide (o=v.o)&&decide (r=v.req))with
   | false=>rfl
   | true=>rw[R_,O_,O_]at e; exact L_ e c
  rw[this,G_];by_cases a:iD m o r=true/\2<=j/\j<=4
  ·rw[d_ a,d_ a];obtain⟨i,t,d,f⟩:=kV.1 a.1;have:wR (fun i=>m.g i 0) (fun i=>m.g i 1) m.gn o r<m.gn:=Jp a.1;show aN m.g m.gn (qb v) _ j=_;unfold aN;rw[b_ (by omega)];rfl
  rw[b_ a,b_ a]
 funext o r
 show gN (jY m v) o r=(gN m o r || ((decide (v.kind=3) || decide (v.kind=4))&&(decide (o=v.o)&&decide (r=v.req))));rw[f_ b,Bool.true_or,Bool.true_and];exact Lr rfl rfl rfl o r
theorem FU{k1 k2:Nat->Int}{a b:Int} : ∀ {n:Nat},Bc k1 k2 n a b=true->k1 (wR k1 k2 n a b)=a/\k2 (wR k1 k2 n a b)=b
 | 0,h=>by cases h
 | n+1,h=>by
   unfold wR;by_cases c:k1 n=a/\k2 n=b
   ·rw[d_ c]; exact c
   ·rw[b_ c];obtain⟨j,g,d,f⟩:=kV.1 h;by_cases e:j=n
    ·subst e; exact L_ ⟨d,f⟩ c
    ·exact FU (su (show j<n by omega) d f)
theorem VZ(G:m.T.ok)(J:bR v=true)(a:v.kind=4)(b:jc m v=0):eB (iq m v)=(eB m).qz v:=by
 have k:v.kind≠1:=by rw[a]; decide
 have x:v.kind≠3:=by rw[a]; decide
 have K:v.kind≠6:=by rw[a]; decide
 have L:v.kind≠7:=by rw[a]; decide
 have f:iD m v.o v.of=true:=by
  unfold jc at b;split at b
  ·cases b
  split at b
  ·cases b
  rename_i c
  cases e:iD m v.o v.of with
  | true=>rfl
  | false=>exact L_ (.inl e) c
 have M:eY m v.o v.of<m.gn:=Jp f;have h : ∀ i j,j≠4->aN m.g (eY m v.o v.of) (upd (m.g (eY m v.o v.of)) 4 v.req) i j=m.g i j:=fun i j H=>by
  unfold aN;by_cases c:i=eY m v.o v.of
  ·rw[d_ c,c]; unfold upd; rw[b_ H]
  ·rw[b_ c]
 have n:(fun i=>(iq m v).g i 0)=fun i=>m.g i 0:=by funext i; exact h i 0 (by decide)
 have s:(fun i=>(iq m v).g i 1)=fun i=>m.g i 1:=by funext i; exact h i 1 (by decide)
 have w : ∀ o r,iD (iq m v) o r=iD m o r:=fun o r=>by
  show Bc (fun i=>(iq m v).g i 0) (fun i=>(iq m v).g i 1) m.gn o r=_;rw[n,s]; rfl
 have F : ∀ o r,eY (iq m v) o r=eY m o r:=fun o r=>by
  show wR (fun i=>(iq m v).g i 0) (fun i=>(iq m v).g i 1) m.gn o r=_;rw[n,s]; rfl
 apply Ab.QH
 ·funext j; exact jd (JC K)
 ·funext j; exact jd (JC L)
 ·funext j
  show m.own j=m.own j+if v.kind=1/\j=aV v then 1 else 0;rw[b_ (fun q=>k q.1),C_]
 ·funext y; exact jd (JC k)
 ·funext y
  show m.T.par y=if v.kind=1/\y=oU v then v.node else m.T.par y;rw[b_ (fun q=>k q.1)]
 ·funext y p; exact aej G J a b y p
 ·funext o r
  show iD (iq m v) o r=(iD m o r || (decide (v.kind=3)&&_));rw[w]; exact jd (JC x)
 ·funext o r j
  show(if iD (iq m v) o r=true/\2<=j/\j<=4 then(iq m v).g (eY (iq m v) o r) j else 0)=if v.kind=3/\o=v.o/\r=v.req then _ else if v.kind=4/\o=v.o/\r=v.of/\j=4 then v.req else(if iD m o r=true/\2<=j/\j<=4 then m.g (eY m o r) j else 0);rw[w,F,b_ (show ¬ (v.kind=3/\o=v.o/\r=v.req)from fun q=>x q.1)];show(if iD m o r=true/\2<=j/\j<=4 then aN m.g (eY m v.o v.of) (upd (m.g (eY m v.o v.of)) 4 v.req) (eY m o r) j else 0)=_;by_cases c:v.kind=4/\o=v.o/\r=v.of/\j=4
  ·rw[d_ c,c.2.1,c.2.2.1,c.2.2.2,d_ ⟨f,by decide,by decide⟩];unfold aN upd; rw[d_ rfl,d_ rfl]
  rw[b_ c];by_cases d:iD m o r=true/\2<=j/\j<=4
  ·rw[d_ d,d_ d];by_cases l:j=4
   ·have I:eY m o r≠eY m v.o v.of:=fun e=>c ⟨a,by
     obtain⟨z,A⟩:=FU d.1;obtain⟨B,C⟩:=FU f;have t:m.g (eY m o r) 0=o:=z;have D:m.g (eY m v.o v.of) 0=v.o:=B;have u:m.g (eY m o r) 1=r:=A;have E:m.g (eY m v.o v.of) 1=v.of:=C;rw[e]at t u;exact⟨t.symm.trans D,u.symm.trans E,l⟩⟩
    unfold aN; rw[b_ I]
   exact h _ j l
  rw[b_ d,b_ d]
 funext o r
 show gN (iq m v) o r=(gN m o r || ((decide (v.kind=3) || decide (v.kind=4))&&(decide (o=v.o)&&decide (r=v.req))));rw[f_ a,Bool.or_true,Bool.true_and];exact Lr rfl rfl rfl o r
theorem V4(c:m.T.ok)(j:Qy m)(b:bR v=true)(a:fD m v=0):eB (iH m v)=(eB m).qz v:=by
 have k:=iW b;unfold fD at a;unfold iH;by_cases d:v.kind=1
 ·rw[d_ d]at a ⊢; exact VU c b d a
 rw[b_ d]at a ⊢;by_cases e:v.kind=2
 ·rw[d_ e]at a ⊢; exact QK c b e a
 rw[b_ e]at a ⊢;by_cases f:v.kind=3
 ·rw[d_ f]at a ⊢; exact VY c j b f a
 rw[b_ f]at a ⊢;by_cases g:v.kind=4
 ·rw[d_ g]at a ⊢; exact VZ c b g a
 rw[b_ g]at a ⊢;by_cases h:v.kind=5
 ·rw[d_ h]at a ⊢; exact VW c b h a
 rw[b_ h]at a ⊢;by_cases i:v.kind=6
 ·rw[d_ i]; exact VX i
 rw[b_ i]; exact QL (by omega)
theorem QM(c:m.T.ok)(d:Qy m)(a:cu m v=0):eB (jB m v)=(eB m).qz v:=by
 have b:=V4 c d (pQ a) (pR a).2.1;unfold jB;rw[d_ a];exact b
end
end Rt
end
section
set_option linter.unusedVariables false
namespace Rt
structure Ab.Sm(A:Ab)(N:Nat):Prop where
 r : ∀ y p,A.R y p<=65536*N
 g : ∀ o r,A.gh o r=true->1<=A.g o r 3/\A.g o r 3<=65536
structure Q9(m:dQ):Prop where
 n:(m.T.n:Int)=m.own 0+m.own 1+m.own 2+m.own 3+m.own 4+m.own 5
 o : ∀ a,a<6->m.own a<=5
section
variable {A:Ab} {m:dQ} {L:fQ} {N S:Nat} {x y:Int} {v:EvM}
theorem Ab.Sm.dl(m:A.Sm S)(l:A.Pre v)(k:mG v)(y:Int)(p:Nat):A.dl v y p<=65536:=by
 have b:=k.aT;have a : ∀ {c:Prop} [Decidable c] {n:Int},n<=65536->(if c then n else 0)<=65536:=fun {c} _ {n} h=>by split <;> omega
 unfold Ab.dl;by_cases e:v.kind=1
 ·rw[d_ e]; exact a b
 rw[b_ e];by_cases f:v.kind=2
 ·rw[d_ f]; exact a b
 rw[b_ f];by_cases i:v.kind=3
 ·rw[d_ i]; exact a b
 rw[b_ i];by_cases d:v.kind=4
 ·rw[d_ d]; exact a (m.g _ _ (l.n4 d)).2
 rw[b_ d];by_cases j:v.kind=5
 ·rw[d_ j]; exact a b
 rw[b_ j]; decide
theorem Ab.Sm.qz(b:A.Sm S)(f:A.Pre v)(h:bR v=true)(d:mG v):(A.qz v).Sm (S+1) where
 r:=fun y p=>by
  have i:=b.r y p;have j:=b.dl f d y p;show A.R y p+A.dl v y p<=_;omega
 g:=fun o r a=>by
  have a:(A.gh o r || (decide (v.kind=3)&&(decide (o=v.o)&&decide (r=v.req))))=true:=a;by_cases c:v.kind=3/\o=v.o/\r=v.req
  ·have:(A.qz v).g o r 3=v.aT:=(by show(if v.kind=3/\o=v.o/\r=v.req then _ else _)=v.aT; rw[d_ c]; rfl);rw[this]; exact⟨(kQ h (.inr (.inl c.1))).1,d.aT⟩
  ·have e:A.gh o r=true:=by
    rcases Bool.or_eq_true_iff.1 a with q|q
    ·exact q
    ·rw[R_,R_]at q; exact L_ ⟨h_ q.1,h_ q.2.1,h_ q.2.2⟩ c
   rw[Ab.Ll f e 3 (by decide)];exact b.g o r e
theorem Q9.row{m':dQ}(h:Q9 m)(a:m'.T=m.T)(b:m'.own=m.own):Q9 m':=by
 cases m'; cases m; cases a; cases b; exact⟨h.n,h.o⟩
theorem Q9.does(h:Q9 m)(l:bR v=true)(b:fD m v=0):Q9 (iH m v):=by
 unfold fD at b;unfold iH;by_cases c:v.kind=1
 ·rw[d_ c]at b ⊢;have q:m.own (aL v)<5:=by
   unfold iT at b;split at b
   ·cases b
   ·omega
  have r:=lH l;have p:=h.n;refine⟨?_,fun a k => ?_⟩
  ·show((m.T.n+1:Nat):Int)=aH m.own (aL v) (m.own (aL v)+1) 0+aH m.own (aL v) (m.own (aL v)+1) 1+aH m.own (aL v) (m.own (aL v)+1) 2+aH m.own (aL v) (m.own (aL v)+1) 3+aH m.own (aL v) (m.own (aL v)+1) 4+aH m.own (aL v) (m.own (aL v)+1) 5;unfold aH
   rcases(show aL v=0\/aL v=1\/aL v=2\/aL v=3\/aL v=4\/aL v=5 by omega)with e|e|e|e|e|e <;> rw[e] <;> simp <;> omega
  show aH m.own (aL v) (m.own (aL v)+1) a<=5;have:=h.o a k;unfold aH; split <;> omega
 rw[b_ c];by_cases d:v.kind=2
 ·rw[d_ d]; exact h.row rfl rfl
 rw[b_ d];by_cases f:v.kind=3
 ·rw[d_ f]; exact h.row rfl rfl
 rw[b_ f];by_cases g:v.kind=4
 ·rw[d_ g]; exact h.row rfl rfl
 rw[b_ g];by_cases i:v.kind=5
 ·rw[d_ i]; exact h.row rfl rfl
 rw[b_ i];by_cases j:v.kind=6
 ·rw[d_ j]; exact h.row rfl rfl
 rw[b_ j]; exact h.row rfl rfl
theorem Q9.apply(h:Q9 m):Q9 (jB m v):=by
 unfold jB;by_cases c:cu m v=0
 ·rw[d_ c]; exact(h.does (pQ c) (pR c).2.1).row rfl rfl
 rw[b_ c]; exact h
theorem aah(x:Nat->Int)(a:Nat):Rt.L x a=Cm x a:=by
 have e : ∀ i,R x a i=x (18+(6*a+i)):=fun i=>by unfold R; congr 1; omega
 have b:R x 0 a=x (18+(6*0+a)):=by unfold R; congr 1; omega
 have c:R x 1 a=x (18+(6*1+a)):=by unfold R; congr 1; omega
 have d:R x 2 a=x (18+(6*2+a)):=by unfold R; congr 1; omega
 have f:R x 3 a=x (18+(6*3+a)):=by unfold R; congr 1; omega
 have g:R x 4 a=x (18+(6*4+a)):=by unfold R; congr 1; omega
 have h:R x 5 a=x (18+(6*5+a)):=by unfold R; congr 1; omega
 unfold Rt.L Cm;rw[e,e,e,e,e,e,b,c,d,f,g,h];unfold G C F;omega
theorem Cq{x:Nat->Int}(h:may x=true)(b:bR v=true):fC x v.o=Cm x (aV v):=by
 obtain⟨e,a,_⟩:=FT b;rw[e,mo h _ a,aah]
theorem yB{x:Nat->Int}{n:Int}{b:Bool}{a:Int}{off:Nat}(h1:may x=true)(c:1<=n)(d:n<=1125899906842624)(e:b=true)(f:a=0)(g:x off+n<=1125899906842624):(bT x n b a off).2=0:=by
 rcases nR x n b a off with ⟨_,_,h⟩|⟨_,h⟩
 ·exact L_ ⟨h1,c,d,e,f,g⟩ h
 rw[h]
theorem Da{f:(Nat->Int)->(Nat->Int) × Int}{r:Nat->Nat->Int} : ∀ {n:Nat},(∀ i,i<n->(f (r i)).2=0)->jA f r n=0
 | 0,_=>rfl
 | n+1,h=>Cc (Da fun i a=>h i (by omega)) (h n (by omega))
theorem FV(c:m.T.ok){f:(Nat->Int)->(Nat->Int) × Int}{x:Int}(h : ∀ y,y∈m.T.path x->(f (aY m y)).2=0):dA m f (m.T.path x)=0 :=
 Da fun i a=>by
  have b:(m.T.path x).getD i 0∈m.T.path x:=by
   rw[r_,o_ a]; exact P_ a
  have:=h _ b;unfold aY at this;rw[d_ (dL.nU c rfl _ b)]at this;exact this
theorem Ag(h:bR v=true)(b:v.kind=5):1<=v.dst/\v.dst<=6/\v.dst≠v.o:=by
 unfold bR at h;simp only[R_]at h;have a:=h.2;unfold dK at a;rw[b_ (by omega),b_ (by omega),b_ (by omega),b_ (by omega),d_ b,R_]at a;have:=a.2;unfold lQ pG at this;simp at this;omega
theorem Y8(a:bR v=true):gK v.o=true:=by have:=nS a; unfold gK; simp; omega
end
structure Tw(m:dQ)(L:fQ)(N S:Nat):Prop where
 t:Ak m L N
 w:Q9 m
 s:(eB m).Sm S
 b:S<=1000000
section
variable {m:dQ} {L:fQ} {N S:Nat} {x y:Int} {v:EvM}
theorem Ak.may(h:Ak m L N)(hy:m.T.has y=true):may (aY m y)=true:=by
 obtain⟨i,a,e⟩:=(h.s.T.has y).1 hy;unfold aY;rw[d_ hy,<- e,h.s.row i a];exact h.i.may i a
theorem Tw.cell(h:Tw m L N S)(y:Int)(p:Nat):aY m y p<=65536000000:=by
 have:=h.s.r y p;have a:=h.b;show(eB m).R y p<=_;omega
theorem Tw.make(h:Tw m L N S)(s:bR v=true)(k:v.kind=1)(j:(eB m).QI v):iT m v=0:=by
 obtain⟨a,b,c⟩:=j.pre.n1 k;obtain⟨d,e,f⟩:=j.k1 k;have r:oU v=nk v:=qU s;rw[r]at a b;unfold iT;have d:m.own (aL v)<5:=d;rw[b_ (show ¬ (5<=m.own (aL v)\/140737488355328<v.aT) by omega)];show qM m.T.x m.T.p m.T.n (nk v) v.node=0;unfold qM;have a:dP m.T.x m.T.n (nk v)=false:=a;rw[b_ b,b_ (by rw[a]; decide)];rw[b_ (show ¬ (¬ v.node=0/\dP m.T.x m.T.n v.node=false)from fun q=>by
  rcases c with c|c
  ·exact q.1 c
  ·have c:dP m.T.x m.T.n v.node=true:=c;rw[q.2]at c; cases c)]
 rw[b_];rintro (q|q)
 ·have y:=h.w.n;have g:=h.w.o;have:=g 0 (by decide); have:=g 1 (by decide); have:=g 2 (by decide); have:=g 3 (by decide); have:=g 4 (by decide); have:=g 5 (by decide);omega
 obtain⟨u,_⟩:=Ea h.t.t _ v.node (z_ _);exact f fun i l=>by
  rw[FP];exact(u i (n_ l q)).2
theorem Tw.make'(h:Tw m L N S)(k:bR v=true)(o:v.kind=1)(a:iT m v=0):(oU v≠0/\(eB m).has (oU v)=false/\(v.node=0\/(eB m).has v.node=true))/\(eB m).own (aV v)<5/\v.aT<=140737488355328 /\ ¬ ∀ i,i<4->(eB m).has ((eB m).up v.node i)=true:=by
 have j:oU v=nk v:=qU k;unfold iT at a;by_cases c:5<=m.own (aL v)\/140737488355328<v.aT
 ·rw[d_ c]at a; cases a
 rw[b_ c]at a;obtain⟨d,e,f,n,g⟩:=Er a;rw[j];refine⟨⟨d,e,f⟩,?_,by omega,fun q => ?_⟩
 ·show m.own (aL v)<5;omega
 obtain⟨_,l⟩:=Ea h.t.t _ v.node (z_ _);have:=q _ (show(m.T.path v.node).length<4 from g);rw[FP]at this;have b:m.T.has (Lm m.T v.node (m.T.path v.node).length)=true:=this;rw[l]at b; cases b
theorem Tw.does(h:Tw m L N S)(c:bR v=true)(I:mG v)(j:(eB m).QI v):fD m v=0:=by
 have k:=h.t.t;have P:=j.pre;have D:=Y8 c;have G : ∀ y p n,n<=65536->aY m y p+n<=1125899906842624:=fun y p n U=>by have:=h.cell y p; omega
 unfold fD;by_cases E:v.kind=1
 ·rw[d_ E]; exact h.make c E j
 rw[b_ E];by_cases A:v.kind=2
 ·rw[d_ A];have a:m.T.has v.node=true:=P.n2 A;have:=j.k2 A;have e:(eB m).R v.node (aV v)=m.R (m.idx v.node) (aL v):=by
   show aY m v.node (aV v)=_;unfold aY; rw[d_ a]; rfl
  rw[e]at this;unfold jm;rw[b_ (by rw[a]; decide),b_ (by omega)]
 rw[b_ A];by_cases w:v.kind=3
 ·rw[d_ w];have a:m.T.has v.node=true:=(P.n3 w).1;obtain⟨b,i⟩:=j.k3 w;have b:gN m v.o v.req=false:=b;have r:=kQ c (.inr (.inl w));unfold jL;rw[b_ (by rw[b]; decide),b_ (by rw[a]; decide)];refine FV (f:=fun x=>bC x v.o v.aT) k fun y u => ?_;have d:=h.t.may (dL.nU k rfl y u);have:=i y ((Co k _ y).2 u);have this:v.aT<=Cm (aY m y) (aV v):=this;refine yB d r.1 r.2 D ?_ (G y _ _ I.aT);unfold qC;rw[Cq d c,g_ (by omega)]; rfl
 rw[b_ w];by_cases z:v.kind=4
 ·rw[d_ z];have a:iD m v.o v.of=true:=P.n4 z;obtain⟨b,i,J⟩:=j.k4 z;have b:gN m v.o v.req=false:=b;have K:(eB m).g v.o v.of 2=m.g (eY m v.o v.of) 2:=d_ ⟨a,by decide,by decide⟩;have H:(eB m).g v.o v.of 3=m.g (eY m v.o v.of) 3:=d_ ⟨a,by decide,by decide⟩;have M:(eB m).g v.o v.of 4=m.g (eY m v.o v.of) 4:=d_ ⟨a,by decide,by decide⟩;have B:=h.s.g _ _ (P.n4 z);rw[K,H]at J;rw[H]at B;rw[M]at i;unfold jc;rw[b_ (by rw[b]; decide),b_ (show ¬ (iD m v.o v.of=false\/m.g (eY m v.o v.of) 4≠0)from fun q=>q.elim (fun q=>by rw[a]at q; cases q) (fun q=>q i))]
  refine FV (f:=fun x=>bF x v.o (m.g (eY m v.o v.of) 3)) k fun y u => ?_;have d:=h.t.may (dL.nU k rfl y u);have:=J y ((Co k _ y).2 u);have this:m.g (eY m v.o v.of) 3<=aY m y (6+aV v)-aY m y (12+aV v):=this;refine yB d B.1 (by omega) D ?_ (G y _ _ B.2);unfold qD C F;rw[(FT c).2.2,g_ (by omega)]; rfl
 rw[b_ z];by_cases l:v.kind=5
 ·rw[d_ l];have a:m.T.has v.node=true:=P.n5 l;obtain⟨b,i⟩:=j.k5 l;have b:m.inn (v.dst-1).toNat=true:=b;have i:v.aT<=Cm (aY m v.node) (aV v):=i;have r:=kQ c (.inr (.inr l));have d:=h.t.may a;have O:aY m v.node=m.R (m.idx v.node):=by unfold aY; rw[d_ a]; rfl
  have Q:=Ag c l;unfold jX;rw[b_ (by rw[a]; decide),b_ (by rw[b]; decide)];show(dw (m.R (m.idx v.node)) v.o v.dst v.aT).2=0;rw[<- O];refine yB d r.1 r.2 (by rw[D,show gK v.dst=true by unfold gK; simp; omega]; rfl) ?_ (G _ _ _ I.aT);unfold nN;rw[b_ (fun e=>Q.2.2 e.symm),Cq d c,g_ (by omega)]; rfl
 rw[b_ l];split <;> rfl
theorem Tw.okE(h:Tw m L N S)(D:bR v=true)(h1:m.inn (aL v)=true)(p:m.left (aL v)=false)(d:fD m v=0):(eB m).QI v:=by
 have B:=h.t.t;unfold fD at d;have no : ∀ {k:Int} {P:Prop},v.kind≠k->v.kind=k->P:=fun a b=>L_ b a;by_cases r:v.kind=1
 ·rw[d_ r]at d;obtain⟨⟨H,I,J⟩,b⟩:=h.make' D r d;have n : ∀ {k:Int} {P:Prop},k≠1->v.kind=k->P:=fun a b=>L_ (b.symm.trans r) a;exact⟨h1,p,⟨fun _=>⟨I,H,J⟩,n (by decide),n (by decide),n (by decide),n (by decide)⟩,fun _=>b,n (by decide),n (by decide),n (by decide),n (by decide)⟩
 rw[b_ r]at d;by_cases w:v.kind=2
 ·rw[d_ w]at d;have n : ∀ {k:Int} {P:Prop},k≠2->v.kind=k->P:=fun a b=>L_ (b.symm.trans w) a;unfold jm at d
  cases f:m.T.has v.node with
  | false=>rw[d_ f]at d; cases d
  | true =>
    rw[b_ (by rw[f]; decide)]at d;have e:(eB m).R v.node (aV v)=m.R (m.idx v.node) (aL v):=by
     show aY m v.node (aV v)=_;unfold aY; rw[d_ f]; rfl
    refine⟨h1,p,⟨n (by decide),fun _=>f,n (by decide),n (by decide),n (by decide)⟩,n (by decide),fun _ => ?_,n (by decide),n (by decide),n (by decide)⟩;rw[e];by_cases c:140737488355328<m.R (m.idx v.node) (aL v)+v.aT
    ·rw[d_ c]at d; cases d
    ·omega
 rw[b_ w]at d;by_cases x:v.kind=3
 ·rw[d_ x]at d;have n : ∀ {k:Int} {P:Prop},k≠3->v.kind=k->P:=fun a b=>L_ (b.symm.trans x) a;unfold jL at d
  cases c1:gN m v.o v.req with
  | true=>rw[d_ c1]at d; cases d
  | false =>
    rw[b_ (by rw[c1]; decide)]at d
    cases f:m.T.has v.node with
    | false=>rw[d_ f]at d; cases d
    | true =>
      rw[b_ (by rw[f]; decide)]at d;have W:iD m v.o v.req=false:=oQ fun i u e=>by
       have:=h.t.s.ga i u;rw[e.1,e.2,c1]at this; cases this
      refine⟨h1,p,⟨n (by decide),n (by decide),fun _=>⟨f,W⟩,n (by decide),n (by decide)⟩,n (by decide),n (by decide),fun _=>⟨c1,fun y l => ?_⟩,n (by decide),n (by decide)⟩;have l:=(Co B _ y).1 l;have q:(bC (aY m y) v.o v.aT).2=0:=yV B d l;unfold bC at q;have G:=yU q;have j:=G.2.2.2.2.1;unfold qC at j;rw[Cq G.1 D]at j;show v.aT<=Cm (aY m y) (aV v);by_cases c:Cm (aY m y) (aV v)<v.aT
      ·rw[f_ c]at j; cases j
      ·omega
 rw[b_ x]at d;by_cases z:v.kind=4
 ·rw[d_ z]at d;have n : ∀ {k:Int} {P:Prop},k≠4->v.kind=k->P:=fun a b=>L_ (b.symm.trans z) a;unfold jc at d
  cases c1:gN m v.o v.req with
  | true=>rw[d_ c1]at d; cases d
  | false =>
    rw[b_ (by rw[c1]; decide)]at d;by_cases A:iD m v.o v.of=false\/m.g (eY m v.o v.of) 4≠0
    ·rw[d_ A]at d; cases d
    ·rw[b_ A]at d;have f:iD m v.o v.of=true:=by
      cases e:iD m v.o v.of with
      | true=>rfl
      | false=>exact L_ (.inl e) A
     have U:m.g (eY m v.o v.of) 4=0:=Classical.byContradiction fun q=>A (.inr q);have K:(eB m).g v.o v.of 2=m.g (eY m v.o v.of) 2:=d_ ⟨f,by decide,by decide⟩;have M:(eB m).g v.o v.of 3=m.g (eY m v.o v.of) 3:=d_ ⟨f,by decide,by decide⟩;have O:(eB m).g v.o v.of 4=m.g (eY m v.o v.of) 4:=d_ ⟨f,by decide,by decide⟩;refine⟨h1,p,⟨n (by decide),n (by decide),n (by decide),fun _=>f,n (by decide)⟩,n (by decide),n (by decide),n (by decide),fun _=>⟨c1,O.trans U,fun y l => ?_⟩,n (by decide)⟩;rw[K]at l;rw[M];have l:=(Co B _ y).1 l;have q:(bF (aY m y) v.o (m.g (eY m v.o v.of) 3)).2=0:=yV B d l;unfold bF at q;have G:=yU q;have j:=G.2.2.2.2.1;unfold qD C F at j;rw[(FT D).2.2]at j;show m.g (eY m v.o v.of) 3<=aY m y (6+aV v)-aY m y (12+aV v);by_cases c:aY m y (6+aV v)-aY m y (12+aV v)<m.g (eY m v.o v.of) 3
     ·rw[f_ c]at j; cases j
     ·omega
 rw[b_ z]at d;by_cases E:v.kind=5
 ·rw[d_ E]at d;have n : ∀ {k:Int} {P:Prop},k≠5->v.kind=k->P:=fun a b=>L_ (b.symm.trans E) a;unfold jX at d
  cases f:m.T.has v.node with
  | false=>rw[d_ f]at d; cases d
  | true =>
    rw[b_ (by rw[f]; decide)]at d
    cases u:m.inn (v.dst-1).toNat with
    | false=>rw[d_ u]at d; cases d
    | true =>
      rw[b_ (by rw[u]; decide)]at d;have hm:=h.t.may f;have Q:aY m v.node=m.R (m.idx v.node):=(by unfold aY; rw[d_ f]; rfl);obtain⟨a,b,ha,hb,hne,ho,hd,X,Y,V,hM,heq⟩:=AP d;refine⟨h1,p,⟨n (by decide),n (by decide),n (by decide),n (by decide),fun _=>f⟩,n (by decide),n (by decide),n (by decide),n (by decide),fun _=>⟨u,?_⟩⟩;show v.aT<=Cm (aY m v.node) (aV v);rw[Q,<- aah,show aV v=a by unfold aV; omega];exact V
 have Z:=iW D;exact⟨h1,p,⟨no r,no w,no x,no z,no E⟩,no r,no w,no x,no z,no E⟩
theorem Y9{K:Nat->Int}(h:dH K v=true):mh K v=false:=by
 obtain⟨a,b,c⟩:=Fj h;unfold mh;rw[g_ (show ¬ v.seq<=K (v.o-1).toNat by have b:v.seq=K (v.o-1).toNat+1:=b; omega),H_]
theorem Tw.check(h:Tw m L N S)(i:mG v)(hr:dH m.known v=true):cu m v=0<->(eB m).QI v:=by
 have f:=(Fj hr).1;constructor
 ·intro g;obtain⟨a,b,c,d⟩:=pR g;exact h.okE f c d b
 intro e;unfold cu;rw[b_ (by rw[f]; decide),b_ (by rw[Y9 hr]; decide),b_ (by rw[hr]; decide),b_,h.does f i e];rintro (q|q)
 ·have:=e.inn; rw[show(eB m).inn (aV v)=m.inn (aL v)from rfl,q]at this; cases this
 have:=e.left; rw[show(eB m).left (aV v)=m.left (aL v)from rfl,q]at this; cases this
end
end Rt
end
section
set_option linter.unusedVariables false
namespace Rt
def V6(k:Nat):Ab:=eB (yx k 0 0 0 0 0 0)
structure Ws(k:Nat)(ev:Nat->EvM)(an:Nat):Prop extends Evs (V6 k) ev an where
 sm : ∀ i,i<an->mG (ev i)
 an:an<=1000
structure uf(k:Nat)(ev:Nat->EvM)(an:Nat)(L:fQ):Prop where
 ex : ∃ m N,Ak m L N/\Q9 m/\eB m=fJ ev L.known (V6 k) an
 kc:KL ev an L.known
section
variable {ev ev':Nat->EvM} {an n k i j:Nat} {K:Nat->Int} {L L':fQ} {v:EvM} {m:dQ} {N S:Nat} {A:Ab}
theorem aek(h:bR v=true):H8 v:=by
 have a:=nS h;refine⟨⟨a.1,a.2.1⟩,a.2.2,?_,fun d=>⟨(Ag h d).1,(Ag h d).2.1⟩⟩;have i:=iW h;by_cases g:v.kind=2\/v.kind=3\/v.kind=5
 ·have:=(kQ h g).1; omega
 have c:rQ v=true:=by unfold bR at h; simp only[R_]at h; exact h.1.2
 have b:dK v=true:=by unfold bR at h; simp only[R_]at h; exact h.2
 by_cases f:v.kind=1
 ·unfold dK at b;rw[d_ f]at b;simp at b;omega
 have e:v.aT=(kK v).aT:=by unfold rQ at c; simp only[R_,decide_eq_true_eq]at c; exact c.1.1.2
 rw[e];unfold kK;rw[b_ f,b_ (by omega),b_ (by omega)];split
 ·exact M_ _
 rw[b_ (by omega)];split <;> exact M_ _
theorem ael(k:Nat):(V6 k).Ok:=⟨rfl,fun _ h=>(nomatch h),fun _ _=>rfl,fun _ _ h=>(nomatch h),fun _ _ _=>rfl⟩
theorem aem(k:Nat):(V6 k).Sm 0:=⟨fun _ _=>M_ _,fun _ _ h=>(nomatch h)⟩
theorem ow0(k:Nat):Q9 (yx k 0 0 0 0 0 0):=⟨rfl,fun _ _=>by show(0:Int)<=5; decide⟩
theorem Ab.Sm.mono{S':Nat}(h:A.Sm S)(a:S<=S'):A.Sm S':=⟨fun y p=>by have:=h.r y p; omega,h.g⟩
theorem Evs.cz(h:Evs A ev an):Cz 6 an ev (fun _=>fO ev an) where
 rd:=h.rd
 reg:=fun k a=>(h.g k a).reg.2
 own:=fun _ _=>rfl
 kc:=fun _ _=>⟨fun _ _=>M_ _,fun k a _ i b=>Q_ ((Fj (h.rd k a)).2.2 i b) (cnt_mono (by omega))⟩
theorem Ws.fsm(W:Ws k ev an)(a:KL ev an K) : ∀ n,n<=an->(fJ ev K (V6 k) n).Sm n
 | 0,_=>aem k
 | n+1,hn=>by
   have b:=W.fsm a n (by omega)
   cases c:sU K (ev n)with
   | true =>
     rw[mI c];exact b.qz ((vO W.toEvs (n+1) hn K a).2 n (by omega) c).pre (Fj (W.rd n (by omega))).1 (W.sm n (by omega))
   | false=>rw[mM c]; exact b.mono (by omega)
theorem uf.tw(h:uf k ev an L)(W:Ws k ev an) : ∃ m N,Tw m L N an/\eB m=fJ ev L.known (V6 k) an:=by
 obtain⟨m,N,b,c,a⟩:=h.ex;exact⟨m,N,⟨b,c,by rw[a]; exact W.fsm h.kc an (z_ _),by have:=W.an; omega⟩,a⟩
theorem uf.ready(h:uf k ev an L)(W:Ws k ev an)(c:j<an)(hr:dH L.known (ev j)=true):bS L (ev j)=0:=by
 obtain⟨m,N,a,d⟩:=h.tw W;have b:=H9 W.toEvs h.kc c hr (show j<=an by omega) (z_ _);rw[<- d]at b;rw[<- (a.t.s.apply a.t.t a.t.i (ev j)).1];exact(a.check (W.sm j c) (by rw[a.t.s.known]; exact hr)).2 b
theorem uf.apply(h:uf k ev an L)(W:Ws k ev an)(b:j<an):uf k ev an (bU L (ev j)):=by
 rcases qV L (ev j)with ⟨c,e⟩|⟨c,e⟩
 ·have d:=jG c;obtain⟨m,N,a,f,g⟩:=h.ex;have l:cu m (ev j)=0:=(a.s.apply a.t a.i (ev j)).1.trans c;refine⟨⟨jB m (ev j),N+1,a.apply (ev j),f.apply,?_⟩,by rw[e]; exact W.toEvs.cz.step h.kc b d⟩;rw[QM a.t a.s.ga l,g,e];exact(Y5 W.toEvs h.kc b d).symm
 rw[e]; exact h
theorem uf.pass(W:Ws k ev an){a:Nat->Int}(h:uf k ev an L) : ∀ j,j<=an->uf k ev an (ou ev a L j)
 | 0,_=>h
 | j+1,hj=>by
   unfold ou;split
   ·exact(h.pass W j (by omega)).apply W (by omega)
   ·exact h.pass W j (by omega)
theorem uf.iR(W:Ws k ev an){a:Nat->Int} : ∀ f L,uf k ev an L->uf k ev an (iR ev an a f L)
 | 0,L,hL=>by unfold Rt.iR; exact hL
 | f+1,L,hL=>by
   unfold Rt.iR;split
   ·exact hL.pass W an (z_ _)
   ·exact uf.iR W f _ (hL.pass W an (z_ _))
theorem uf.new(k:Nat)(ev:Nat->EvM)(an:Nat)(a : ∀ i,i<an->1<=(ev i).seq)(f:Nat):uf k ev an (jU k f).core:=by
 have d : ∀ n,n<=an->fJ ev (fun _=>0) (V6 k) n=V6 k:=fun n=>by
  induction n with
  | zero=>intro _; rfl
  | succ n ih =>
    intro h;have c:sU (fun _=>0) (ev n)=false:=g_ (show ¬ (ev n).seq<=0 by have:=a n (by omega); omega);rw[mM c]; exact ih (by omega)
 exact⟨⟨yx k 0 0 0 0 0 0,0,Ak.new k,ow0 k,(d an (z_ _)).symm⟩,fun i b=>Fh an i,fun i b e j g=>L_ (show(ev i).seq<=0 from e) (by have:=a i b; omega)⟩
theorem Cr(h : ∀ i,i<n->ev' i=ev i):fJ ev' K A n=fJ ev K A n:=by
 induction n with
 | zero=>rfl
 | succ n ih =>
   show(if sU K (ev' n)=true then(fJ ev' K A n).qz (ev' n)else fJ ev' K A n)=_;rw[ih fun i a=>h i (by omega),h n (by omega)]; rfl
theorem wS{v:EvM} : ∀ i,i<an->aH ev an v i=ev i:=fun i a=>b_ (by omega)
theorem wT{v:EvM}:aH ev an v an=v:=d_ rfl
theorem KL.more(h:KL ev an K)(g:bR v=true)(l:v.seq=fO ev an (aL v)+1):KL (aH ev an v) (an+1) K/\sU K v=false:=by
 have c : ¬ v.seq<=K (aL v):=by have:=h.le _ (lH g); omega
 refine⟨⟨fun i b => ?_,fun i b a j f => ?_⟩,g_ c⟩
 ·have:=h.le i b;have d:=cnt_mono (ev:=aH ev an v) (j:=an) (k:=an+1) (i:=i) (by omega);rw[AZ an (z_ _)]at d;omega
 by_cases e:i=an
 ·rw[e,wT]at a; exact L_ a c
 rw[wS i (by omega)]at a ⊢;exact h.cl i (by omega) a j f
theorem uf.more(h:uf k ev an L)(g:bR v=true)(f:v.seq=fO ev an (aL v)+1):uf k (aH ev an v) (an+1) L:=by
 obtain⟨m,N,c,d,e⟩:=h.ex;obtain⟨a,b⟩:=h.kc.more g f;refine⟨⟨m,N,c,d,?_⟩,a⟩;rw[mM (by rw[wT]; exact b),Cr wS];exact e
theorem Ws.more(W:Ws k ev an)(h:uf k ev an L)(u:an<1000)(p:mG v)(n:bS L v=0)(d:v.deps=L.known)(f:v.seq=fO ev an (aL v)+1):Ws k (aH ev an v) (an+1):=by
 have o:=jG n;have c:=(Fj o).1;have q : ∀ j,j<=an -> ∀ i,fO (aH ev an v) j i=fO ev j i:=fun j a i=>AZ j a i;have l : ∀ j,j<=an->fO (aH ev an v) j=fO ev j:=fun j a=>funext (q j a);refine { ok0:=W.ok0,rd:=fun j a => ?_,g:=fun j a => ?_,dc:=fun j a => ?_,tk:=fun j a => ?_,sm:=fun j a => ?_,an:=by omega }
 ·by_cases e:j=an
  ·rw[e,wT,l an (z_ _)];exact Ja c f (by rw[d]; exact h.kc.le)
  rw[wS j (by omega),l j (by omega)]; exact W.rd j (by omega)
 ·by_cases e:j=an
  ·rw[e,wT]; exact aek c
  rw[wS j (by omega)]; exact W.g j (by omega)
 ·by_cases e:j=an
  ·rw[e,wT,d]; exact(h.kc.more c f).1
  rw[wS j (by omega)]; exact((W.dc j (by omega)).more c f).1
 ·by_cases e:j=an
  ·rw[e,wT,d,Cr wS];obtain⟨m,N,b,r⟩:=h.tw W;rw[<- r];exact(b.check p (by rw[b.t.s.known]; exact o)).1 ((b.t.s.apply b.t.t b.t.i v).1.trans n)
  rw[wS j (by omega),Cr fun i w=>wS i (by omega)]; exact W.tk j (by omega)
 by_cases e:j=an
 ·rw[e,wT]; exact p
 rw[wS j (by omega)]; exact W.sm j (by omega)
theorem Ws.zero(k:Nat)(ev:Nat->EvM):Ws k ev 0 where
 ok0:=ael k
 rd:=fun _ h=>L_ h (u_ _)
 g:=fun _ h=>L_ h (u_ _)
 dc:=fun _ h=>L_ h (u_ _)
 tk:=fun _ h=>L_ h (u_ _)
 sm:=fun _ h=>L_ h (u_ _)
 an:=by decide
end
structure WC(M:WM):Prop where
 w:Ws M.n M.ev M.an
 f : ∀ o,o<M.n->uf M.n M.ev M.an (M.ml o).core
theorem WC.new{M:WM}(a:M.an=0)(h : ∀ i,(M.ml i).core=(jU M.n 0).core):WC M:=by
 refine⟨by rw[a]; exact .zero _ _,fun o c=>by rw[h,a]; exact .new _ _ _ (fun i b=>L_ b (u_ _)) 0⟩
theorem WC.do{w':World}{M k:WM}{B p T o:Nat}{x:Gg}{v:EvM}(h:WC M)(y:om w' B p k T)(j:o<M.n)(a:DoR o x M k v)(z:M.an<1000)(A:(M.ml o).s.known o=fO M.ev M.an o):WC k:=by
 rcases a.c with ⟨u,g,d,b⟩|⟨u,g,d,b,h5,h6,h7,h8⟩
 ·refine⟨by rw[a.n,g,d]; exact h.w,fun q i => ?_⟩;rw[a.n]at i;rw[a.n,g,d];by_cases e:q=o
  ·rw[e]
   rcases b with b|⟨_,b⟩
   ·rw[b]; exact h.f o j
   rw[b]; exact uf.iR h.w _ _ (h.f o j)
  rw[a.oth q e]; exact h.f q i
 have C:=jG b;have r:=(Fj C).1;have t:aL v=o:=by unfold aL; omega
 have l:v.seq=fO M.ev M.an (aL v)+1:=by rw[t,<- A]; exact h7
 have D:mG v:=by
  have:=y.sm M.an (by omega);rw[d,wT]at this; exact this
 have m:Ws M.n (aH M.ev M.an v) (M.an+1):=h.w.more (h.f o j) z D b h8 l;refine⟨by rw[a.n,g,d]; exact m,fun q i => ?_⟩;rw[a.n]at i;rw[a.n,g,d];by_cases e:q=o
 ·rw[e,h5];have:=((h.f o j).more r l).apply m (show M.an<M.an+1 by omega);rw[wT]at this;exact this
 rw[a.oth q e]; exact(h.f q i).more r l
end Rt
end
section
set_option linter.unusedVariables false
namespace Rt
structure Lx(L L':fQ):Prop where
 inn:L'.inn=L.inn
 left:L'.left=L.left
 kn : ∀ i,i<6->L'.known i=L.known i
 nn:L'.nn=L.nn
 gn:L'.gn=L.gn
 n : ∀ k,k<L.nn->L'.id k=L.id k/\L'.par k=L.par k/\L'.R k=L.R k
 g : ∀ k,k<L.gn -> ∀ p,p<5->L'.g k p=L.g k p
section
variable {ev:Nat->EvM} {an k:Nat} {L L':fQ} {m m':dQ} {N N':Nat}
theorem fU.Za(h:fU m L){q:Nat}(i:q<L.gn):iD m (L.g q 0) (L.g q 1)=true /\ ∀ p,2<=p->p<=4->(eB m).g (L.g q 0) (L.g q 1) p=L.g q p:=by
 obtain⟨j,d,e⟩:=h.g1 q i;have c:iD m (L.g q 0) (L.g q 1)=true:=su d (by rw[<- e]) (by rw[<- e]);have f:eY m (L.g q 0) (L.g q 1)=j:=yS h.gi d (by rw[<- e]) (by rw[<- e]);refine⟨c,fun p a b => ?_⟩;rw[show(eB m).g (L.g q 0) (L.g q 1) p=m.g (eY m (L.g q 0) (L.g q 1)) p from d_ ⟨c,a,b⟩,f,e]
theorem Ie{f:Nat->Int}{n i:Nat}(hi:i<n):((List.range n).map f).getD i 0=f i:=by
 rw[r_,o_ (by rw[List.length_map,List.length_range]; exact hi)]; simp
theorem Ig{f g:Nat->Int}{n n':Nat}(m : ∀ i j,i<j->j<n->f i<f j)(o : ∀ i j,i<j->j<n'->g i<g j)(h1 : ∀ i,i<n -> ∃ j,j<n'/\g j=f i)(l : ∀ j,j<n' -> ∃ i,i<n/\f i=g j):n'=n /\ ∀ i,i<n->g i=f i:=by
 have e:(List.range n).map f=(List.range n').map g:=uT (by
  rw[List.pairwise_map];exact(List.pairwise_lt_range (n:=n)).imp_of_mem fun {a b} _ hb hab=>m a b hab (N_.1 hb)) (by
  rw[List.pairwise_map];exact(List.pairwise_lt_range (n:=n')).imp_of_mem fun {a b} _ hb hab=>o a b hab (N_.1 hb)) fun x=>by
  rw[List.mem_map,List.mem_map];constructor
  ·rintro ⟨i,c,rfl⟩;obtain⟨j,d,k⟩:=h1 i (N_.1 c);exact⟨j,N_.2 d,k⟩
  ·rintro ⟨j,d,rfl⟩;obtain⟨i,c,h⟩:=l j (N_.1 d);exact⟨i,N_.2 c,h⟩
 have p:n'=n:=by have:=K_ List.length e; rw[List.length_map,List.length_map,List.length_range,List.length_range]at this; exact this.symm
 refine⟨p,fun i c => ?_⟩;have:=K_ (fun z:List Int=>z.getD i 0) e;have:((List.range n).map f).getD i 0=((List.range n').map g).getD i 0:=this;rw[Ie c,Ie (by omega)]at this;exact this.symm
theorem Ak.same(h:Ak m L N)(d:Ak m' L' N')(C:zu L)(D:zu L')(e:eB m'=eB m)(I : ∀ i,i<6->L'.known i=L.known i):Lx L L':=by
 have B : ∀ y,m'.T.has y=m.T.has y:=fun y=>congrFun (K_ Ab.has e) y;have J : ∀ y,m'.T.par y=m.T.par y:=fun y=>congrFun (K_ Ab.par e) y;have H : ∀ y,aY m' y=aY m y:=fun y=>congrFun (K_ Ab.R e) y;have u : ∀ o r,iD m' o r=iD m o r:=fun o r=>congrFun (congrFun (K_ Ab.gh e) o) r;have w : ∀ {m:dQ} {L:fQ} {N:Nat},Ak m L N -> ∀ i,i<L.nn->m.T.has (L.id i)=true/\aY m (L.id i)=L.R i:=fun {m L N} h i k=>by
  have a:m.T.has (L.id i)=true:=(h.s.T.has _).2 ⟨i,k,rfl⟩;refine⟨a,?_⟩;unfold aY;rw[d_ a,h.s.row i k]
 obtain⟨Q,z⟩:=Ig (f:=L.id) (g:=L'.id) (n:=L.nn) (n':=L'.nn) h.i.rise d.i.rise (fun i k=>(d.s.T.has _).1 (by rw[B]; exact(w h i k).1)) (fun i k=>(h.s.T.has _).1 (by rw[<- B]; exact(w d i k).1));have F : ∀ {m m':dQ} {L L':fQ} {N N':Nat},Ak m L N->Ak m' L' N'->(∀ o r,iD m' o r=iD m o r) -> ∀ q,q<L.gn -> ∃ j,j<L'.gn/\nV (L'.g j)=nV (L.g q):=fun {m m' L L' N N'} h d u q t=>by
  have a:=(h.s.Za t).1;rw[<- u]at a;obtain⟨j,O,l,x⟩:=kV.1 a;obtain⟨S,v,G⟩:=d.s.g2 j O;have l:m'.g j 0=L.g q 0:=l;have x:m'.g j 1=L.g q 1:=x;exact⟨S,v,by unfold nV; rw[G,l,x]⟩
 obtain⟨K,M⟩:=Ig (f:=fun q=>nV (L.g q)) (g:=fun q=>nV (L'.g q)) (n:=L.gn) (n':=L'.gn) C.up D.up (F h d u) (F d h fun o r=>(u o r).symm);refine⟨by rw[<- h.s.inn,<- d.s.inn]; exact K_ Ab.inn e,by rw[<- h.s.left,<- d.s.left]; exact K_ Ab.left e,I,Q,K,fun i k => ?_,fun q t p W => ?_⟩
 ·have E:i<L'.nn:=by omega
  refine⟨z i k,?_,?_⟩
  ·rw[<- h.s.T.par i k,<- d.s.T.par i E,J,z i k]
  rw[<- (w h i k).2,<- (w d i E).2,H,z i k]
 have v:q<L'.gn:=by omega
 have P:nV (L'.g q)=nV (L.g q):=M q t;have U:=(C.wf q t).1;have V:=(D.wf q v).1;unfold nV at P;unfold ku at U V;have A:L'.g q 0=L.g q 0:=by omega
 have l:L'.g q 1=L.g q 1:=by omega
 by_cases c:2<=p
 ·have a:=(h.s.Za t).2 p c (by omega);have b:=(d.s.Za v).2 p c (by omega);rw[<- a,<- b,A,l,K_ Ab.g e]
 rcases(show p=0\/p=1 by omega)with rfl|rfl
 ·exact A
 exact l
theorem O9{K K':Nat->Int}{A:Ab}(h : ∀ i,i<6->K' i=K i)(a : ∀ i,i<an->aL (ev i)<6) : ∀ n,n<=an->fJ ev K' A n=fJ ev K A n
 | 0,_=>rfl
 | n+1,hn=>by
   have c:sU K' (ev n)=sU K (ev n):=(by unfold sU; rw[h _ (a n (by omega))]);show(if sU K' (ev n)=true then(fJ ev K' A n).qz (ev n)else fJ ev K' A n)=_;rw[O9 h a n (by omega),c]; rfl
theorem uf.same(h:uf k ev an L)(f:uf k ev an L')(W:Ws k ev an)(j:zu L)(l:zu L')(a : ∀ i,i<6->L'.known i=L.known i):Lx L L':=by
 obtain⟨m,N,b,o,c⟩:=h.ex;obtain⟨m',N',d,p,e⟩:=f.ex;refine b.same d j l ?_ a;rw[c,e];exact O9 a (fun i n=>(W.g i n).reg.2) an (z_ _)
theorem uf.next(h:uf k ev an L)(W:Ws k ev an){i:Nat}(hi:i<an)(b:L.known=fO ev i):bS L (ev i)=0/\(bU L (ev i)).known=fO ev (i+1):=by
 have a:=h.ready W hi (by rw[b]; exact W.rd i hi);refine⟨a,?_⟩;rw[yT a,b]
 funext q
 unfold aH;show _=fO ev i q+if aL (ev i)=q then 1 else 0;by_cases e:q=aL (ev i)
 ·rw[d_ e,d_ e.symm,e]
 rw[b_ e,b_ (fun q=>e q.symm),C_]
theorem Zb(W:Ws k ev an) : ∀ i,i<an->1<=(ev i).seq:=fun i a=>(W.g i a).seq.1
theorem uf.some(h:uf k ev an L)(W:Ws k ev an){i:Nat}(hi:i<an):bS L (ev i)=0\/bS L (ev i)=14\/bS L (ev i)=13:=by
 by_cases c:dH L.known (ev i)=true
 ·exact .inl (h.ready W hi c)
 right;have b:=(Fj (W.rd i hi)).1;unfold bS;rw[b_ (by rw[b]; decide)];by_cases a:mh L.known (ev i)=true
 ·rw[d_ a]; exact .inl rfl
 rw[b_ a,d_ (by simpa using c)]; exact .inr rfl
end
end Rt
end
section
set_option linter.unusedVariables false
namespace Rt
def Ah(K c:Nat->Int):Nat->Int:=fun q=>if K q<=c q then K q else c q
section
variable {ev:Nat->EvM} {an k i r:Nat} {K K':Nat->Int} {L:fQ} {v:EvM}
theorem Bg(ev:Nat->EvM)(i q:Nat):fO ev (i+1) q=fO ev i q+if aL (ev i)=q then 1 else 0:=rfl
theorem uf.nextK(h:uf k ev an L)(W:Ws k ev an)(hi:i<an)(m:KL ev an K)(f : ∀ q,q<6->L.known q=Ah K (fO ev i) q)(n:(ev i).seq<=K (aL (ev i))) :
 bS L (ev i)=0 /\ ∀ q,q<6->(bU L (ev i)).known q=Ah K (fO ev (i+1)) q:=by
 obtain⟨a,b,c⟩:=Fj (W.rd i hi);have l:=lH a;have g:L.known (aL (ev i))=fO ev i (aL (ev i)):=by rw[f _ l]; unfold Ah; rw[b_ (by omega)]
 have o:dH L.known (ev i)=true:=Ja a (by rw[g]; exact b) fun q d=>by
  rw[f q d]; unfold Ah;split
  ·exact m.cl i hi n q d
  ·exact c q d
 have j:=h.ready W hi o;refine⟨j,fun q d => ?_⟩;rw[yT j];unfold aH;by_cases e:q=aL (ev i)
 ·rw[d_ e,g,e];unfold Ah;rw[Bg,d_ rfl,QN (by omega)]
 rw[b_ e,f q d];unfold Ah;rw[Bg,b_ (show ¬ aL (ev i)=q from fun z=>e z.symm),C_]
where QN {a b:Int} (h:b<=a):(if a<=b then a else b)=b:=by split <;> omega
theorem aiu(W:Ws k ev an)(hi:i<an)(c : ∀ q,q<6->L.known q=Ah K (fO ev i) q)(a : ¬ (ev i).seq<=K (aL (ev i))) : ∀ q,q<6->L.known q=Ah K (fO ev (i+1)) q:=fun q d=>by
 have b:=(Fj (W.rd i hi)).2.1;rw[c q d];unfold Ah;rw[Bg];by_cases e:aL (ev i)=q
 ·rw[d_ e]; rw[e]at b a;rw[d_ (by omega),d_ (by omega)]
 ·rw[b_ e,C_]
theorem aiv(c:KL ev an K)(a : ∀ q,q<6->0<=K q) : ∀ q,q<6->(0:Int)=Ah K (fO ev 0) q:=fun q b=>by
 unfold Ah; show(0:Int)=if K q<=0 then K q else 0;have:=a q b;split <;> omega
theorem aqG(a:KL ev an K) : ∀ q,q<6->Ah K (fO ev an) q=K q:=fun q b=>by unfold Ah; rw[d_ (a.le q b)]
theorem V7(L:fQ)(v:EvM)(q:Nat):L.known q<=(bU L v).known q:=by
 rcases qV L v with ⟨_,e⟩|⟨_,e⟩
 ·rw[e]; unfold aH; split
  ·subst_vars; omega
  exact M_ _
 rw[e]; exact M_ _
theorem uf.reach(h:uf k ev an L)(W:Ws k ev an)(hr:r<an)(d : ∀ q,q<6->fO ev r q<=L.known q) : ∀ q,q<6->fO ev (r+1) q<=(bU L (ev r)).known q:=fun q l=>by
 obtain⟨a,b,c⟩:=Fj (W.rd r hr);have i:=lH a;have o:=d q l;have s:=V7 L (ev r) q;rw[Bg];by_cases e:aL (ev r)=q
 ·rw[d_ e];by_cases n:(ev r).seq<=L.known q
  ·rw[e]at b; omega
  ·have j:=d _ i;have m:(ev r).seq=L.known (aL (ev r))+1:=(by rw[e]at b j ⊢; omega);have g:=h.ready W hr (Ja a m fun p f=>Q_ (c p f) (d p f));rw[yT g,e];unfold aH; rw[d_ rfl,e]at *; omega
 ·rw[b_ e]; omega
theorem uf.full(h:uf k ev an L)(b : ∀ q,q<6->fO ev an q<=L.known q) : ∀ q,q<6->L.known q=fO ev an q:=fun q a=>by
 have:=h.kc.le q a; have:=b q a; omega
end
end Rt
end
set_option maxRecDepth 20000
set_option linter.unusedVariables false
theorem LA(n:Nat)(m:Int)(w:World)(h:m=(n:Int))(j:1<=n)(k:n<=6) :
 Calls Tryz.prog 12 #[au m] w fun e w' => ∃ p M,e = .returned (pt p)/\M.n=n/\M.an=0/\WC M/\om w' w.heap.size p M 0/\Below w.heap.size w w':=by
 subst h; exact(Nr n w j k).mono fun _ _ ⟨p,M,c,a,b,g,d,f⟩=>⟨p,M,c,a,b,.new b fun i=>by rw[g i,a],d,f⟩
namespace Rt
theorem V9(v:EvM)(j:Nat):(bQ v j).oneCell'=true:=by unfold bQ; repeat (first|rfl|split)
theorem Lx.st{L L':fQ}(h:Lx L L')(d:Option Addr)(e:Nat)(a:Option Addr)(b:Nat) : ∀ p,p<20->pI (OY L' d e a b) p=pI (OY L d e a b) p:=fun p f=>by
 unfold pI OY;simp only[h.inn,h.left,h.nn,h.gn];by_cases c:12<=p/\p<18
 ·rw[h.kn (p-12) (by omega)]
 ·repeat' split
  all_goals first|rfl|omega
end Rt
theorem OZ.same{w:World}{s:DN}{L L':fQ}(h:OZ w s L')(d:Lx L L'):OZ w (OY L s.na s.nc s.ga s.gc) L:=by
 refine⟨rfl,?_,?_⟩
 ·have e:=h.n;rw[d.nn]at e;exact e.congr fun j k=>by
   unfold flat ndL;obtain⟨a,b,c⟩:=d.n (j / 56) (by omega);rw[a,b,c]
 have e:=h.g;rw[d.gn]at e;exact e.congr fun j k=>by
  unfold flat grL iZ;have g:=d.g (j / 5) (by omega) (j % 5) (I_ _ (by decide));have f:=d.g (j / 5) (by omega) 0 (by decide);have i:=d.g (j / 5) (by omega) 3 (by decide);rw[g,f,i]
set_option maxRecDepth 20000
set_option linter.unusedVariables false
namespace Rt
theorem LB(L:fQ)(x i:Int):0<=gL L x i:=by
 unfold gL fC;split
 ·exact M_ 0
 split
 ·rename_i c;rw[R_]at c;obtain⟨a,b,e,d⟩:=oP c.1;rw[d,vk (kZ c.2) a b];exact(((jK _).1 c.2).2.1 a b).1
 exact M_ 0
end Rt
section
set_option linter.unusedVariables false
namespace Rt
def Ab.gs(A:Ab)(y:Int):Int:=A.R y 0+A.R y 1+A.R y 2+A.R y 3+A.R y 4+A.R y 5
def qX(v:EvM)(y:Int):Int:=if v.kind=1/\oU v=y\/v.kind=2/\v.node=y then v.aT else 0
def jD(gv:Nat->EvM)(y:Int):Nat->Int
 | 0=>0
 | j+1=>jD gv y j+qX (gv j) y
def xI(ev:Nat->EvM)(K:Nat->Int)(y:Int):Nat->Int
 | 0=>0
 | j+1=>xI ev K y j+if sU K (ev j)=true then qX (ev j) y else 0
def F4(t:Nat->Nat->Int)(tn:Nat)(x y:Int):Nat->Bool
 | 0=>false
 | q+1=>F4 t tn x y q || decide (bf t tn q x=y)
def Gl(L:fQ)(y:Int)(g:Nat->Int):Int:=if F4 L.t L.tn (g 2) y (bV L.t L.tn (g 2))=true/\g 4=0 then g 3 else 0
def qY(L:fQ)(y:Int):Nat->Int
 | 0=>0
 | j+1=>qY L y j+Gl L y (L.g j)
def qG(L:fQ)(y:Int):Nat->Int
 | 0=>0
 | r+1=>qG L y r+gL L y ((r:Int)+1)
section
variable {A:Ab} {ev gv:Nat->EvM} {an n k i j:Nat} {K:Nat->Int} {L:fQ} {v:EvM} {y x:Int} {m:dQ} {N:Nat}
theorem Ab.aen(l:H8 v):(A.qz v).gs y=A.gs y+qX v y:=by
 have o:=l.reg.2;have e : ∀ p,(A.qz v).R y p=A.R y p+A.dl v y p:=fun _=>rfl;unfold Ab.gs;rw[e,e,e,e,e,e];have s:A.dl v y 0+A.dl v y 1+A.dl v y 2+A.dl v y 3+A.dl v y 4+A.dl v y 5=qX v y:=by
  have n:(∀ p,p<6->A.dl v y p=0)->qX v y=0->A.dl v y 0+A.dl v y 1+A.dl v y 2+A.dl v y 3+A.dl v y 4+A.dl v y 5=qX v y:=fun h d=>by
   rw[d,h 0 (by decide),h 1 (by decide),h 2 (by decide),h 3 (by decide),h 4 (by decide),h 5 (by decide)]; rfl
  have k : ∀ {z:Int},(∀ p,A.dl v y p=if y=z/\p=aV v then v.aT else 0)->qX v y=(if z=y then v.aT else 0)->A.dl v y 0+A.dl v y 1+A.dl v y 2+A.dl v y 3+A.dl v y 4+A.dl v y 5=qX v y:=fun {z} h d=>by
   by_cases c:y=z
   ·rw[d,h,h,h,h,h,h,d_ c.symm]
    rcases(show aV v=0\/aV v=1\/aV v=2\/aV v=3\/aV v=4\/aV v=5 by omega)with q|q|q|q|q|q <;> rw[q] <;> simp[c]
   ·have a : ∀ p,A.dl v y p=0:=fun p=>by rw[h,b_ fun q=>c q.1]
    rw[d,a,a,a,a,a,a,b_ (show ¬ z=y from fun q=>c q.symm)]; rfl
  unfold Ab.dl at *;by_cases b:v.kind=1
  ·refine k (z:=oU v) (fun p=>by rw[d_ b]) ?_;unfold qX;by_cases c:oU v=y
   ·rw[d_ (.inl ⟨b,c⟩),d_ c]
   ·rw[b_ (fun q=>q.elim (fun q=>c q.2) (fun q=>by omega)),b_ c]
  by_cases f:v.kind=2
  ·refine k (z:=v.node) (fun p=>by rw[b_ b,d_ f]) ?_;unfold qX;by_cases c:v.node=y
   ·rw[d_ (.inr ⟨f,c⟩),d_ c]
   ·rw[b_ (fun q=>q.elim (fun q=>b q.1) (fun q=>c q.2)),b_ c]
  have m:qX v y=0:=b_ (fun q=>q.elim (fun q=>b q.1) (fun q=>f q.1));refine n (fun p r => ?_) m;rw[b_ b,b_ f];by_cases g:v.kind=3
  ·rw[d_ g,b_ (fun q=>by omega)]
  rw[b_ g];by_cases i:v.kind=4
  ·rw[d_ i,b_ (fun q=>by omega)]
  rw[b_ i];by_cases j:v.kind=5
  ·rw[d_ j,b_ (fun q=>by omega)]
  rw[b_ j]
 omega
theorem Zc(b : ∀ i,i<n->H8 (ev i)):(fJ ev K (V6 k) n).gs y=xI ev K y n:=by
 induction n with
 | zero=>rfl
 | succ n a =>
   have a:=a fun i c=>b i (by omega);show(if sU K (ev n)=true then(fJ ev K (V6 k) n).qz (ev n)else fJ ev K (V6 k) n).gs y=xI ev K y n+_;split
   ·rw[Ab.aen (b n (by omega)),a]
   ·rw[a,C_]
theorem Ak.row(h:Ak m L N)(hi:i<L.nn):aY m (L.id i)=L.R i:=by
 unfold aY;rw[d_ ((h.s.T.has _).2 ⟨i,hi,rfl⟩),h.s.row i hi]
theorem uf.gs(h:uf k ev an L)(W:Ws k ev an)(hi:i<L.nn):qo (L.R i)=xI ev L.known (L.id i) an:=by
 obtain⟨m,N,a,c,b⟩:=h.ex;rw[<- Zc (k:=k) (K:=L.known) (y:=L.id i) W.g,<- b,<- a.row hi];rfl
theorem Pb{K':Nat->Int}(h : ∀ q,q<6->K' q=K q)(a : ∀ i,i<an->aL (ev i)<6) : ∀ n,n<=an->xI ev K' y n=xI ev K y n
 | 0,_=>rfl
 | n+1,hn=>by
   have c:sU K' (ev n)=sU K (ev n):=(by unfold sU; rw[h _ (a n (by omega))]);show xI ev K' y n+_=xI ev K y n+_;rw[Pb h a n (by omega),c]
theorem aeo(b:mG v)(a:H8 v):0<=qX v y/\qX v y<=65536:=by
 have:=a.aT; have:=b.aT;unfold qX; split <;> omega
theorem Zd(h : ∀ i,i<n->mG (gv i)/\H8 (gv i)):0<=jD gv y n/\jD gv y n<=65536*n:=by
 induction n with
 | zero=>exact⟨M_ _,M_ _⟩
 | succ n ih =>
   have a:=ih fun i c=>h i (by omega);have b:=aeo (y:=y) (h n (by omega)).1 (h n (by omega)).2;show 0<=jD gv y n+_/\jD gv y n+_<=_;omega
theorem Wd(h:Ak m L N){p q:Nat}(a:p<bV L.t L.tn x)(b:q<bV L.t L.tn x)(e:bf L.t L.tn p x=bf L.t L.tn q x):p=q:=by
 obtain⟨d,c⟩:=h.s.T.path h.t h.i x;rw[<- d]at a b;refine yR (dL.wQ h.t x) a b ?_;rw[c p a,c q b,e]
theorem Wh(h:Ak m L N) : ∀ q,q<=bV L.t L.tn x->Fb L.t L.tn x y q=if F4 L.t L.tn x y q=true then 1 else 0
 | 0,_=>rfl
 | q+1,hq=>by
   have d:=Wh h q (by omega);show Fb L.t L.tn x y q+_=if(F4 L.t L.tn x y q || decide (bf L.t L.tn q x=y))=true then 1 else 0;rw[d];by_cases c:bf L.t L.tn q x=y
   ·rw[d_ c,f_ c,Bool.or_true,d_ rfl,b_,Int.zero_add];intro o;have : ∀ r,r<=q->F4 L.t L.tn x y r=true -> ∃ p,p<r/\bf L.t L.tn p x=y:=fun r=>by
     induction r with
     | zero=>intro _ h; cases h
     | succ r ihr =>
       intro f a;have a:(F4 L.t L.tn x y r || decide (bf L.t L.tn r x=y))=true:=a
       rcases Bool.or_eq_true_iff.1 a with o1|o1
       ·obtain⟨p,b,e⟩:=ihr (by omega) o1; exact⟨p,by omega,e⟩
       ·exact⟨r,by omega,h_ o1⟩
    obtain⟨p,b,e⟩:=this q (z_ _) o;have:=Wd h (show p<bV L.t L.tn x by omega) (show q<bV L.t L.tn x by omega) (e.trans c.symm);omega
   ·rw[b_ c,g_ c,G_,C_]
theorem LC(h:Ak m L N) : ∀ n,qY L y n=mF L.t L.tn L.g y n
 | 0=>rfl
 | n+1=>by
   show qY L y n+Gl L y (L.g n)=mF L.t L.tn L.g y n+nT L.t L.tn (L.g n) y;rw[LC h n];refine K_ (fun z=>mF L.t L.tn L.g y n+z) ?_;unfold Gl nT AV;rw[Wh h _ (z_ _)];by_cases a:L.g n 4=0
   ·rw[d_ a];by_cases c:F4 L.t L.tn (L.g n 2) y (bV L.t L.tn (L.g n 2))=true
    ·rw[d_ ⟨c,a⟩,d_ c,Int.mul_one]
    ·rw[b_ fun q=>c q.1,b_ c,Int.mul_zero]
   ·rw[b_ a,b_ fun q=>a q.2]
theorem aep(a:Inv0 L N)(hi:i<L.nn) : ∀ r:Nat,r<6->gL L (L.id i) ((r:Int)+1)=Rt.L (L.R i) r:=fun r b=>by
 unfold gL;rw[a.at hi,b_ (by omega)];show fC (L.R i) _=_;exact mo (a.may i hi) r b
theorem whole(h:Ak m L N)(a:yh L)(hi:i<L.nn):qG L (L.id i) 6+qY L (L.id i) L.gn=qo (L.R i):=by
 rw[LC h,<- a.us i hi];have e:=aep h.i hi;show 0+gL L (L.id i) ((0:Nat)+1)+gL L (L.id i) ((1:Nat)+1)+gL L (L.id i) ((2:Nat)+1)+gL L (L.id i) ((3:Nat)+1)+gL L (L.id i) ((4:Nat)+1)+gL L (L.id i) ((5:Nat)+1)+_=_;rw[e 0 (by decide),e 1 (by decide),e 2 (by decide),e 3 (by decide),e 4 (by decide),e 5 (by decide)];simp only[Rt.L,ni,qo]; omega
theorem uf.small(h:uf k ev an L)(W:Ws k ev an){q:Nat}(d:q<L.gn):1<=L.g q 3/\L.g q 3<=65536:=by
 obtain⟨m,N,c,e⟩:=h.tw W;obtain⟨a,b⟩:=c.t.s.Za d;have:=c.s.g _ _ a;rw[b 3 (by decide) (by decide)]at this;exact this
theorem Wi(c : ∀ q,q<n->1<=L.g q 3/\L.g q 3<=65536):0<=qY L y n/\qY L y n<=65536*n:=by
 induction n with
 | zero=>exact⟨M_ _,M_ _⟩
 | succ n ih =>
   have a:=ih fun i d=>c i (by omega);have b:=c n (by omega);show 0<=qY L y n+Gl L y (L.g n)/\qY L y n+Gl L y (L.g n)<=_;unfold Gl; split <;> omega
theorem Eb(L:fQ)(y:Int) : ∀ r,0<=qG L y r/\qG L y r<=9007199254740992*(r:Int)
 | 0=>⟨M_ _,M_ _⟩
 | r+1=>by
   have a:=Eb L y r;have b:0<=gL L y ((r:Int)+1)/\gL L y ((r:Int)+1)<=9007199254740992:=by
    refine⟨LB ..,?_⟩;unfold gL; split
    ·decide
    ·have:=BG (L.R (L.node y).toNat) ((r:Int)+1); omega
   show 0<=qG L y r+_/\qG L y r+_<=_;omega
theorem aer{q:Nat}(h1:(gv q).kind=1)(a:oU (gv q)=y):jD gv y (q+1)=jD gv y q+(gv q).aT:=by
 show jD gv y q+qX (gv q) y=_; unfold qX; rw[d_ (.inl ⟨h1,a⟩)]
theorem Wj{q:Nat}(h1:(gv q).kind=2)(a:(gv q).node=y):jD gv y (q+1)=jD gv y q+(gv q).aT:=by
 show jD gv y q+qX (gv q) y=_; unfold qX; rw[d_ (.inr ⟨h1,a⟩)]
theorem Jq{q:Nat}(h1 : ¬ ((gv q).kind=1/\oU (gv q)=y))(a : ¬ ((gv q).kind=2/\(gv q).node=y)):jD gv y (q+1)=jD gv y q:=by
 show jD gv y q+qX (gv q) y=_; unfold qX; rw[b_ (fun q=>q.elim h1 a),C_]
theorem Ze{ev:Nat->EvM}{K:Nat->Int}{a b:Nat}(h : ∀ y,jD gv y b=xI ev K y a)(c:(ev a).seq<=K (aL (ev a))) : ∀ y,jD (aH gv b (ev a)) y (b+1)=xI ev K y (a+1):=fun y=>by
 have e : ∀ n,n<=b->jD (aH gv b (ev a)) y n=jD gv y n:=fun n=>by
  induction n with
  | zero=>intro _; rfl
  | succ n ih =>
    intro d;show jD (aH gv b (ev a)) y n+qX (aH gv b (ev a) n) y=jD gv y n+_;rw[ih (by omega),show aH gv b (ev a) n=gv n from b_ (by omega)]
 show jD (aH gv b (ev a)) y b+qX (aH gv b (ev a) b) y=xI ev K y a+(if sU K (ev a)=true then qX (ev a) y else 0);rw[e b (z_ _),h,show aH gv b (ev a) b=ev a from d_ rfl,d_ (kg.2 c)]
theorem Wm{ev:Nat->EvM}{K:Nat->Int}{a b:Nat}(h : ∀ y,jD gv y b=xI ev K y a)(c : ¬ (ev a).seq<=K (aL (ev a))) : ∀ y,jD gv y b=xI ev K y (a+1):=fun y=>by
 show _=xI ev K y a+(if sU K (ev a)=true then qX (ev a) y else 0);rw[h,b_ (fun q=>c (kg.1 q)),C_]
theorem aiw{q:Nat}(h1:F4 L.t L.tn (L.g q 2) y (bV L.t L.tn (L.g q 2))=true)(a:L.g q 4=0):qY L y (q+1)=qY L y q+L.g q 3:=by
 show qY L y q+Gl L y (L.g q)=_; unfold Gl; rw[d_ ⟨h1,a⟩]
theorem aai{q:Nat}(h : ¬ (F4 L.t L.tn (L.g q 2) y (bV L.t L.tn (L.g q 2))=true/\L.g q 4=0)):qY L y (q+1)=qY L y q:=by
 show qY L y q+Gl L y (L.g q)=_; unfold Gl; rw[b_ h,C_]
theorem aqI{t:Nat->Nat->Int}{tn q:Nat}(h:F4 t tn x y q=true):true=F4 t tn x y (q+1):=by show _=(F4 t tn x y q || _); rw[h]; rfl
theorem aqJ{t:Nat->Nat->Int}{tn q:Nat}(h:bf t tn q x=y):true=F4 t tn x y (q+1):=by show _=(F4 t tn x y q || decide (bf t tn q x=y)); rw[f_ h,Bool.or_true]
theorem aqK{t:Nat->Nat->Int}{tn q:Nat}(h:F4 t tn x y q=false)(a : ¬ bf t tn q x=y):false=F4 t tn x y (q+1):=by show _=(F4 t tn x y q || decide (bf t tn q x=y)); rw[h,g_ a]; rfl
theorem aqL(t:Nat->Nat->Int)(tn:Nat)(x y:Int):false=F4 t tn x y 0:=rfl
theorem aix(gv:Nat->EvM)(y:Int):jD gv y 0=0:=rfl
theorem aiy(L:fQ)(y:Int):qY L y 0=0:=rfl
theorem aes(L:fQ)(y:Int):qG L y 0=0:=rfl
theorem Wn(L:fQ)(y:Int)(r:Nat):qG L y (r+1)=qG L y r+gL L y ((r:Int)+1):=rfl
theorem uf.aeu(h:uf k ev an L)(W:Ws k ev an)(c:yh L)(hi:i<L.nn)(d : ∀ q,q<6->L.known q=K q){a:Nat}(e : ∀ y,jD gv y a=xI ev K y an):qG L (L.id i) 6+qY L (L.id i) L.gn=jD gv (L.id i) a:=by
 obtain⟨m,N,b,_,_⟩:=h.ex;rw[whole b c hi,h.gs W hi,e];exact Pb d (fun i hi=>(W.g i hi).reg.2) an (z_ _)
end
end Rt
end
end Go.Proofs.YtahbiajdgealnaaGreatDoor
