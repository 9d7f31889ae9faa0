/-
  What the proof of the law rests on, part 7: walks of functions, and plain laws; each says its conditions itself.
-/
import Derived.Deep.Slices
import Derived.Lib.SmallJoins
import Derived.ChangeArms
import Derived.Test.YtahbiajdgealnaaGreatDoorZD6
set_option maxHeartbeats 1600000
set_option linter.unusedVariables false
set_option linter.unusedSimpArgs false
namespace Go.Proofs.YtahbiajdgealnaaGreatDoor
open Go.RowKit Go
set_option linter.unusedVariables false
set_option maxRecDepth 20000
namespace Rt
def nP(x:Nat->Int):Int:=x 0*18446744073709551616+x 1
structure yX(L:fJ):Prop where
 up : ∀ i j,i<j->j<L.gn->nP (L.g i)<nP (L.g j)
 wf : ∀ q,q<L.gn->je (L.g q 1)/\je (L.g q 4)
 ga : ∀ q,q<L.gn->1<=L.g q 0/\L.g q 0<=6 /\ ∃ j,j<L.rn (L.g q 0-1).toNat/\L.rq (L.g q 0-1).toNat j=L.g q 1
section
variable {L:fJ} {N:Nat} {v:EvM}
theorem Vp(a:je v.req){x:Nat->Int}(hx:je (x 1)):EO v x=true<->nP (pV v)<nP x:=by
 unfold EO nP je at *;rw[Bool.or_eq_true,R_,O_,O_,O_];show v.o<x 0\/x 0=v.o/\v.req<x 1<->v.o*18446744073709551616+v.req<x 0*18446744073709551616+x 1;omega
theorem K8{a:Nat}{r:Int}(L':fJ)(d:L'.rn=aH L.rn a (L.rn a+1))(f:L'.rq=aH L.rq a (aH (L.rq a) (L.rn a) r)):(∀ b y,(∃ j,j<L.rn b/\L.rq b j=y) -> ∃ j,j<L'.rn b/\L'.rq b j=y) /\ ∃ j,j<L'.rn a/\L'.rq a j=r:=by
 rw[d,f];unfold aH;refine⟨fun b y ⟨j,g,e⟩ => ?_,L.rn a,by rw[d_ rfl]; omega,by rw[d_ rfl,d_ rfl]⟩;by_cases c:b=a
 ·subst c;exact⟨j,by rw[d_ rfl]; omega,by rw[d_ rfl,b_ (by omega)]; exact e⟩
 exact⟨j,by rw[b_ c]; exact g,by rw[b_ c]; exact e⟩
attribute [local irreducible] fu dz in
theorem Nl(h:yX L)(J:bS v=true)(M:fZ v)(t:iR L v=0):yX (lQ L v):=by
 have z:=nN J;have m:je v.req:=M.req;unfold iR at t;split at t
 ·cases t
 rename_i c1;obtain⟨w,x⟩:=K8 (L:=L) (a:=aL v) (r:=v.req) (lQ L v) rfl rfl;have K : ∀ j,j<L.gn -> ¬ (L.g j 0=v.o/\L.g j 1=v.req):=fun j f e=>c1 (by
  obtain⟨_,_,q,b,y⟩:=h.ga j f;rw[e.1,e.2]at y;rw[e.1]at b;unfold fJ.kM;rw[Ca];exact⟨q,b,f_ y⟩)
 obtain⟨k,u⟩ : ∃ k,k=Fx.down (fun i=>EO v (L.g i)) L.gn:=⟨_,rfl⟩;have l:k<=L.gn:=by rw[u]; exact Fx.yh _ _
 have I : ∀ q,k<=q->q<L.gn->nP (pV v)<nP (L.g q):=fun q D d=>(Vp m (h.wf q d).1).1 (Fx.Ir (P:=fun i=>EO v (L.g i)) (n:=L.gn) (i:=q) (by omega) d);have H : ∀ q,q<k->nP (L.g q)<nP (pV v):=fun q D=>by
  obtain⟨j,rfl⟩ : ∃ j,k=j+1:=⟨k-1,by omega⟩;have d:=Fx.Iu (P:=fun i=>EO v (L.g i)) (n:=L.gn) (j:=j) u.symm;have E : ¬ nP (pV v)<nP (L.g j):=fun e=>by
   have:=(Vp m (h.wf j (by omega)).1).2 e;rw[this]at d; cases d
  have F:nP (L.g j)<nP (pV v):=by
   rcases Int.lt_trichotomy (nP (L.g j)) (nP (pV v))with c|c|c
   ·exact c
   ·exfalso;have G:=(h.wf j (by omega)).1;refine K j (by omega) ?_;unfold nP at c;have c:L.g j 0*18446744073709551616+L.g j 1=v.o*18446744073709551616+v.req:=c;unfold je at G m;omega
   ·exact L_ c E
  by_cases e:q=j
  ·rw[e]; exact F
  ·have:=h.up q j (by omega) (by omega); omega
 have p:(lQ L v).g=Fx.cB L.g k (pV v):=by rw[u]; rfl
 have s:(lQ L v).gn=L.gn+1:=rfl;refine⟨fun i j N f => ?_,fun q b => ?_,fun q b => ?_⟩
 ·rw[s]at f;rw[p]
  rcases dU l (show i<L.gn+1 by omega)with rfl|⟨q,b,eq,q1,q2⟩
  ·rcases dU l f with rfl|⟨r,hr,er,w,x⟩
   ·omega
   rw[dG,er]; exact I r (by omega) hr
  rcases dU l f with rfl|⟨r,hr,er,w,x⟩
  ·rw[dG,eq]; exact H q (by omega)
  rw[eq,er]; exact h.up q r (by omega) hr
 ·rw[s]at b;rw[p]
  rcases dU l b with rfl|⟨r,hr,er,_,_⟩
  ·rw[dG]; exact⟨m,by show je 0; unfold je; omega⟩
  rw[er]; exact h.wf r hr
 rw[s]at b;rw[p]
 rcases dU l b with rfl|⟨r,hr,er,_,_⟩
 ·rw[dG]; exact⟨z.1,z.2.1,x⟩
 rw[er];obtain⟨A,B,C⟩:=h.ga r hr;exact⟨A,B,w _ _ C⟩
attribute [local irreducible] fu dz in
theorem Nn(h:yX L)(w:bS v=true)(s:fZ v)(u:iH L v=0):yX (jZ L v):=by
 obtain⟨t,x⟩:=K8 (L:=L) (a:=aL v) (r:=v.req) (jZ L v) rfl rfl;have e : ∀ q,(jZ L v).g q=if q=zm L v then aH (L.g (zm L v)) 4 v.req else L.g q:=fun q=>rfl;have b : ∀ j p,(p=0\/p=1)->(jZ L v).g j p=L.g j p:=fun j p o=>by
  rw[e];by_cases c:j=zm L v
  ·subst c; rw[d_ rfl]; rcases o with rfl|rfl <;> rfl
  ·rw[b_ c]
 refine⟨fun i j m n => ?_,fun q d => ?_,fun q d => ?_⟩
 ·unfold nP;rw[b i 0 (.inl rfl),b i 1 (.inr rfl),b j 0 (.inl rfl),b j 1 (.inr rfl)];exact h.up i j m n
 ·rw[b q 1 (.inr rfl)];refine⟨(h.wf q d).1,?_⟩;rw[e];by_cases c:q=zm L v
  ·rw[d_ c]; exact s.req
  rw[b_ c]; exact(h.wf q d).2
 rw[b q 0 (.inl rfl),b q 1 (.inr rfl)];obtain⟨f,k,l⟩:=h.ga q d;exact⟨f,k,t _ _ l⟩
theorem Np(h:yX L)(e:fZ v):yX (bP L v):=by
 unfold bP;by_cases c:bJ L v=0
 ·rw[d_ c];have b:=(FW (jI c)).1;have a:dR L v=0:=by
   unfold bJ at c;rw[b_ (by rw[b]; decide)]at c;split at c; · cases c
   split at c; · cases c
   split at c; · cases c
   exact c
  have d:yX (iI L v):=by
   unfold dR at a;unfold iI;by_cases f:v.kind=1
   ·rw[d_ f]; exact⟨h.up,h.wf,h.ga⟩
   rw[b_ f]at a ⊢;by_cases g:v.kind=2
   ·rw[d_ g]; exact⟨h.up,h.wf,h.ga⟩
   rw[b_ g]at a ⊢;by_cases i:v.kind=3
   ·rw[d_ i]at a ⊢; exact Nl h b e a
   rw[b_ i]at a ⊢;by_cases j:v.kind=4
   ·rw[d_ j]at a ⊢; exact Nn h b e a
   rw[b_ j]at a ⊢;by_cases k:v.kind=5
   ·rw[d_ k]; exact⟨h.up,h.wf,h.ga⟩
   rw[b_ k];by_cases l:v.kind=6
   ·rw[d_ l]; exact⟨h.up,h.wf,h.ga⟩
   ·rw[b_ l]; exact⟨h.up,h.wf,h.ga⟩
  exact⟨d.up,d.wf,d.ga⟩
 rw[b_ c]; exact h
theorem Vq(k a:Nat):yX (jS k a).core:=⟨fun i j _ h=>L_ h (u_ _),fun q h=>L_ h (u_ _),fun q h=>L_ h (u_ _)⟩
theorem fT.new(k l d e f c b g:Nat):fT (xW k l d e f c b) (jS k g).core where
 T:=⟨fun q=>⟨fun h=>(nomatch h),fun⟨i,h,_⟩=>L_ h (u_ _)⟩,rfl,fun i h=>L_ h (u_ _)⟩
 inn:=rfl
 left:=rfl
 known:=rfl
 row:=fun i h=>L_ h (u_ _)
 own:=fun a _=>rfl
 gi:=fun i j h=>L_ h (u_ _)
 gn:=rfl
 g1:=fun q h=>L_ h (u_ _)
 g2:=fun q h=>L_ h (u_ _)
 ask:=fun a r _=>⟨fun h=>(nomatch h),fun⟨j,h,_⟩=>L_ h (u_ _)⟩
 ga:=fun i h=>L_ h (u_ _)
 li:=fun i j h=>L_ h (u_ _)
structure StC(L:fJ)(m:dK)(l:List Int)(gl:List Jh):Prop where
 nn:l.length=L.nn
 gn:gl.length=L.gn
 n : ∀ k,k<L.nn->l.getD k 0=L.id k/\m.T.par (l.getD k 0)=L.par k/\CW m (l.getD k 0)=L.R k
 g : ∀ k,k<L.gn->(gl.getD k g0).x=L.g k
theorem StC.of{m:dK}{l:List Int}{c:List Jh}(h:fT m L)(F:Inv0 L N)(u:yX L)(B:l.Pairwise (· < ·) /\ ∀ k,k∈l<->m.T.has k=true)(s:GrS m c):StC L m l c:=by
 have w:l=(List.range L.nn).map L.id:=uq B.1 (by
  rw[List.pairwise_map];exact(List.pairwise_lt_range (n:=L.nn)).imp_of_mem fun {a b} _ hb hab=>F.rise a b hab (N_.1 hb)) fun k=>by
  rw[B.2,h.T.has,List.mem_map];exact⟨fun⟨i,d,e⟩=>⟨i,N_.2 d,e⟩,fun⟨i,d,e⟩=>⟨i,N_.1 d,e⟩⟩
 have y:c.map KZ=(List.range L.gn).map fun q=>nP (L.g q):=uq (by rw[List.pairwise_map]; exact s.up) (by
  rw[List.pairwise_map];exact(List.pairwise_lt_range (n:=L.gn)).imp_of_mem fun {a b} _ hb hab=>u.up a b hab (N_.1 hb)) fun k=>by
  rw[List.mem_map,List.mem_map];constructor
  ·rintro ⟨x,v,e⟩;obtain⟨i,d,p⟩:=s.mem x v;obtain⟨q,o,r⟩:=h.g2 i d;refine⟨q,N_.2 o,?_⟩;rw[r,<- p]; exact e
  ·rintro ⟨q,o,e⟩;obtain⟨j,G,C⟩:=h.g1 q (N_.1 o);obtain⟨x,v,E⟩:=s.all j G;refine⟨x,v,?_⟩;rw[<- e,<- C,<- E]; rfl
 have I:c.length=L.gn:=by have:=K_ List.length y; rwa [List.length_map,List.length_map,List.length_range]at this
 refine⟨by rw[w,List.length_map,List.length_range],I,fun k f => ?_,fun k f => ?_⟩
 ·have:l.getD k 0=L.id k:=by
   rw[w,r_,o_ (by rw[List.length_map,List.length_range]; exact f)];simp
  rw[this];exact⟨rfl,h.T.par k f,h.row k f⟩
 have t:k<c.length:=by omega
 have H:c.getD k g0∈c:=by rw[r_,o_ t]; exact P_ t
 have D:KZ (c.getD k g0)=nP (L.g k):=by
  have A:=K_ (fun z=>z.getD k 0) y;simp only[r_,List.getElem?_map,o_ t,List.getElem?_range f]at A;rw[r_,o_ t]; exact A
 obtain⟨i,d,p⟩:=s.mem _ H;obtain⟨q,o,r⟩:=h.g2 i d;have J:nP (L.g q)=nP (L.g k):=by rw[r,<- p,<- D]; rfl
 have:q=k:=by
  rcases Nat.lt_trichotomy q k with h5|h5|h5
  ·have:=u.up q k h5 f; omega
  ·exact h5
  ·have:=u.up k q h5 o; omega
 rw[p,<- r,this]
end
end Rt
end Go.Proofs.YtahbiajdgealnaaGreatDoor
namespace Go.Proofs.YtahbiajdgealnaaGreatDoor
open Go.RowKit Go.WideShapes Go.ChangeShapes Go.Deep
theorem QE{w:World}{x:Addr}{v:Value}(h:w.cell? x=some v) : ∃ b a,x=⟨b,a,none⟩:=by
 obtain⟨b,a,c⟩:=x
 cases c with
 | none=>exact⟨b,a,rfl⟩
 | some q =>
   unfold World.cell? at h;simp at h;split at h <;> cases h
def At4(a k1 k2 c:IntKind)(w:World)(b off:Nat)(x0 x1 x2 d:Int):Prop :=
 w.cell? ⟨b,off,none⟩=some (.int a x0)/\w.cell? ⟨b,off+1,none⟩=some (.int k1 x1)/\w.cell? ⟨b,off+2,none⟩=some (.int k2 x2)/\w.cell? ⟨b,off+3,none⟩=some (.int c d)
def Wf4(a k1 k2 b:IntKind)(x0 x1 x2 c:Int):Prop:=(Lit.int a x0).wf=true/\(Lit.int k1 x1).wf=true/\(Lit.int k2 x2).wf=true/\(Lit.int b c).wf=true
def Sl4(g k1 k2 h:IntKind)(w:World)(a:Option Addr)(len:Nat)(c d e f:Nat->Int):Prop :=
 ∀ i,i<len->(∃ b j,a=some ⟨b,j,none⟩/\At4 g k1 k2 h w b (j+i*4) (c i) (d i) (e i) (f i))/\Wf4 g k1 k2 h (c i) (d i) (e i) (f i)
theorem Sl4.up{m k1 k2 n:IntKind}{w w':World}{a:Option Addr}{len:Nat}{g j k l:Nat->Int}(h:Sl4 m k1 k2 n w a len g j k l)(f:Below w.heap.size w w'):Sl4 m k1 k2 n w' a len g j k l:=by
 intro i q;obtain⟨⟨b,d,e,o,r,s,t⟩,hw⟩:=h i q;have c:=block_lt_of_cell o
 dsimp only at c
 exact⟨⟨b,d,e,(f.cell (p:=⟨b,d+i*4,none⟩) c).trans o,(f.cell (p:=⟨b,d+i*4+1,none⟩) c).trans r,(f.cell (p:=⟨b,d+i*4+2,none⟩) c).trans s,(f.cell (p:=⟨b,d+i*4+3,none⟩) c).trans t⟩,hw⟩
instance {g k1 k2 i:IntKind} {w w':World} {a:Option Addr} {len:Nat} {c d e f:Nat->Int}:Rt.Tr w w' (Sl4 g k1 k2 i w a len c d e f) (Sl4 g k1 k2 i w' a len c d e f):=⟨fun b h=>h.up b⟩
end Go.Proofs.YtahbiajdgealnaaGreatDoor
namespace Go.Proofs.YtahbiajdgealnaaGreatDoor
open Go.RowKit Go.WideShapes Go.ChangeShapes Go.Deep
def wB(P:Program):Nat->TypeId->Option (List (Option IntKind))
 | 0,_=>none
 | d+1,t=>match P.underlying t with
   | some (.int k)=>some [some k]
   | some .bool=>some [none]
   | some (.array n e)=>(wB P d e).bind fun a=>if P.cellsOf e=a.length/\P.cellsOf t=n*a.length then some (List.replicate n a).flatten else none
   | some (.struct fs)=>(fs.toList.foldlM (fun l f=>(wB P d f.type).bind fun a=>if f.offset=l.length/\P.cellsOf f.type=a.length then some (l++a)else none) []).bind fun l=>if P.cellsOf t=l.length then some l else none
   | _=>none
def LJ(k:Option IntKind)(v:Value):Prop:=match k with|some k => ∃ n,v = .int k n/\(Lit.int k n).wf=true|none => ∃ b,v = .bool b
def ZL(ks:List (Option IntKind))(cs:List Value):Prop:=cs.length=ks.length /\ ∀(j:Nat) (k:Option IntKind),ks[j]? = some k -> ∃ v,cs[j]? = some v/\LJ k v
theorem Cb{ks:List (Option IntKind)}{k:Option IntKind} : ∀(n j:Nat),(List.replicate n ks).flatten[j]? = some k->ks[j % ks.length]? = some k/\j / ks.length<n
 | 0,j,h=>by simp at h
 | n+1,j,h=>by
   rw[List.replicate_succ,List.flatten_cons]at h;by_cases b:j<ks.length
   ·rw[List.getElem?_append_left b]at h;rw[Nat.mod_eq_of_lt b,Nat.div_eq_of_lt b]; exact⟨h,by omega⟩
   ·rw[List.getElem?_append_right (by omega)]at h;have c:0<ks.length:=by
     rcases Nat.eq_zero_or_pos ks.length with e|e
     ·obtain⟨a,_⟩:=Cb n _ h;have:=(List.getElem?_eq_some_iff.1 a).1; omega
     ·exact e
    obtain⟨a,d⟩:=Cb n _ h;rw[Nat.mod_eq_sub_mod (by omega),Nat.div_eq_sub_div c (by omega)];exact⟨a,by omega⟩
section
variable {H:Type} {enc:TypeId × Value->H} {P:Program} {w:World} {base:Nat} {spare:Nat->Bool} {held:Bool}
theorem Fz{ks:List (Option IntKind)}{cs:List Value}{o s j:Nat}{k:Option IntKind}(h:ZL ks ((cs.drop o).take s))(e:s=ks.length)(b:ks[j]? = some k) : ∃ v,cs[o+j]? = some v/\LJ k v:=by
 obtain⟨n,a,c⟩:=h.2 j k b;have d:=(List.getElem?_eq_some_iff.1 b).1;rw[List.getElem?_take_of_lt (by omega),List.getElem?_drop]at a;exact⟨n,a,c⟩
theorem Cc : ∀(d:Nat) (t:TypeId) (q:List (Option IntKind)),wB P d t=some q -> ∀(C:Nat) (p:List Value) (x:DataW H × List MemPlace),DataW.trod enc P w base spare held C t p=some x->ZL q p
 | 0,_,_,h=>by simp[wB]at h
 | d+1,t,q,h=>by
   intro C p x z;unfold wB at h;split at h
   ·rename_i k hu;simp only[Option.some.injEq]at h; subst h;obtain⟨n,rfl,_,U⟩:=DataW.trod_int hu z;refine⟨rfl,fun j W a => ?_⟩
    match j,a with
    | 0,a=>simp at a; subst a; exact⟨_,rfl,n,rfl,U⟩
    | j+1,a=>simp at a
   ·rename_i hu;simp only[Option.some.injEq]at h; subst h;obtain⟨b,rfl,_⟩:=DataW.trod_bool hu z;refine⟨rfl,fun j W a => ?_⟩
    match j,a with
    | 0,a=>simp at a; subst a; exact⟨_,rfl,b,rfl⟩
    | j+1,a=>simp at a
   ·rename_i n e hu;obtain⟨I,S,h⟩:=Option.bind_eq_some_iff.1 h;split at h
    ·rename_i hc;simp only[Option.some.injEq]at h; subst h;obtain⟨Y,m,_,_,c,F,J⟩:=DataW.trod_array hu z;refine⟨by rw[c,hc.2]; simp,fun j k a => ?_⟩;obtain⟨r,A⟩:=Cb n j a;have u:=J (j / I.length) A;rw[o_ (by omega),hc.1]at u;have:=Fz (Cc d e I S _ _ _ u) rfl r;rw[Nat.mul_comm,Nat.div_add_mod]at this;exact this
    ·cases h
   ·rename_i fs hu;obtain⟨l,c,h⟩:=Option.bind_eq_some_iff.1 h;split at h
    ·rename_i hc;simp only[Option.some.injEq]at h; subst h;obtain⟨Y,m,_,_,T,F,K⟩:=DataW.trod_struct hu z;refine⟨by rw[T,hc],?_⟩;have M : ∀ f,f∈fs.toList -> ∃ y,DataW.trod enc P w base spare held m f.type ((p.drop f.offset).take (P.cellsOf f.type))=some y:=by
      intro f N;obtain⟨i,u,e⟩:=List.mem_iff_getElem.1 N;have E:i<fs.size:=(by simpa using u);have r:fs[i]? = some f:=(by rw[Array.getElem?_eq_getElem E]; simpa using e);have:=K i f r;rw[o_ (by rw[F]; exact E)]at this;exact⟨_,this⟩
     have X : ∀(L:List Field) (o:List (Option IntKind)),(∀ f,f∈L -> ∃ y,DataW.trod enc P w base spare held m f.type ((p.drop f.offset).take (P.cellsOf f.type))=some y)->(∀(j:Nat) (k:Option IntKind),o[j]? = some k -> ∃ v,p[j]? = some v/\LJ k v) -> ∀ l,L.foldlM (fun l f=>(wB P d f.type).bind fun q=>if f.offset=l.length/\P.cellsOf f.type=q.length then some (l++q)else none) o=some l -> ∀(j:Nat) (k:Option IntKind),l[j]? = some k -> ∃ v,p[j]? = some v/\LJ k v:=by
      intro L
      induction L with
      | nil=>intro o _ B l c; simp at c; subst c; exact B
      | cons f L ih =>
        intro o D B l c;rw[List.foldlM_cons]at c;obtain⟨Z,r,A⟩:=Option.bind_eq_some_iff.1 c;obtain⟨G,R,s⟩:=Option.bind_eq_some_iff.1 r;split at s
        ·rename_i hcc;simp only[Option.some.injEq]at s; subst s;refine ih (o++G) (fun g O=>D g (List.mem_cons_of_mem _ O)) (fun j k a => ?_) l A;by_cases Q:j<o.length
         ·rw[List.getElem?_append_left Q]at a; exact B j k a
         ·rw[List.getElem?_append_right (by omega)]at a;obtain⟨y,V⟩:=D f (List.mem_cons_self ..);have:=Fz (Cc d f.type G R _ _ _ V) hcc.2 a;rw[hcc.1,show o.length+(j-o.length)=j by omega]at this;exact this
        ·cases s
     exact X fs.toList [] M (fun j k a=>by simp at a) l c
    ·cases h
   ·cases h
end
section
variable {H:Type} {enc:TypeId × Value->H} {P:Program} {w:World} {base:Nat} {spare:Nat->Bool} {held:Bool}
theorem Hw{t e:TypeId}{ks:List (Option IntKind)}{fuel D:Nat}{cs:List Value}{x:DataW H × List MemPlace}(S:P.underlying t=some (.slice e))(O:wB P D e=some ks)(F:P.cellsOf e=ks.length)(C:0<ks.length)
 (h:DataW.trod enc P w base spare held fuel t cs=some x) : ∃ a c l,cs = [.slice a c l]/\c<=maxLen/\c<=l /\ ∃ X:Nat->Nat->Value,(∀ i,i<c -> ∀(j:Nat) (k:Option IntKind),ks[j]? = some k->LJ k (X i j))/\Fx.lU w a c ks.length (Fx.flat ks.length X):=by
 rcases open_slice S h with ⟨rfl,_⟩|⟨a',c,l,m,n,D',Pl,rfl,_,hl,hm,hmm,_,hx⟩
 ·exact⟨none,0,0,rfl,by unfold maxLen; omega,z_ _,fun _ _=>undef,fun i d=>L_ d (by omega),fun h=>L_ h (by omega)⟩
 have W:c<=m:=by rw[hmm]; split <;> omega
 have r : ∀ i j:Nat,∃ q:Value,i<c -> ∀ k,ks[j]? = some k->w.cell? (a'.add (i*ks.length+j))=some q/\LJ k q:=by
  intro i j;by_cases d:i<c/\j<ks.length
  ·obtain⟨U,A,J⟩:=hx i (by omega);rw[F]at A;obtain⟨_,V,M⟩:=World.cells?_some A;obtain⟨q,y,z⟩:=(Cc _ _ _ O _ _ _ J).2 j _ (o_ d.2);refine⟨q,fun _ k v => ?_⟩;rw[o_ d.2,Option.some.injEq]at v;subst v;have E:=M j (by omega);rw[add_add]at E;exact⟨by rw[<- y]; simpa using E,z⟩
  ·refine⟨undef,fun y k z=>L_ ⟨y,(List.getElem?_eq_some_iff.1 z).1⟩ d⟩
 refine⟨some a',c,l,rfl,by omega,hl,fun i j=>Classical.choose (r i j),fun i d j k v=>(Classical.choose_spec (r i j) d k v).2,fun K => ?_⟩;have G:a'.add (0*ks.length+0)=a':=by unfold Addr.add; simp
 obtain⟨Z,L⟩:=r 0 0;have Q:=o_ C;have B:=(L K _ Q);have g:=B.1;rw[G]at g;have o : ∃ b f,a'=⟨b,f,none⟩:=by
  have u:=B.2;unfold LJ at u;split at u
  ·obtain⟨Y,rfl,_⟩:=u; exact QE g
  ·obtain⟨T,rfl⟩:=u;unfold World.cell? at g
   cases a' with
   | mk b f sp =>
     cases sp with
     | none=>exact⟨b,f,rfl⟩
     | some s=>simp at g; split at g <;> simp_all
 obtain⟨b,f,o⟩:=o;refine⟨b,f,by rw[o],fun p R => ?_⟩;have N:p % ks.length<ks.length:=I_ _ C;have d:p / ks.length<c:=Nat.div_lt_of_lt_mul (by rw[Nat.mul_comm]; exact R);have:=(Classical.choose_spec (r (p / ks.length) (p % ks.length)) d _ (o_ N)).1;have I:a'.add (p / ks.length*ks.length+p % ks.length)=⟨b,f+p,none⟩:=by rw[o,addr_add,Nat.mul_comm,Nat.div_add_mod]
 exact(K_ w.cell? I).symm.trans this
end
def numOf:Value->Int | .int _ n=>n|_=>0
theorem LJ.num{k:IntKind}{v:Value}(h:LJ (some k) v):v = .int k (numOf v)/\(Lit.int k (numOf v)).wf=true:=by
 obtain⟨n,rfl,a⟩:=h; exact⟨rfl,a⟩
theorem agS{n:Int}(h:(Lit.int .u8 n).wf=true):0<=n/\n<=255:=by simp[Lit.wf,IntKind.min,IntKind.max,IntKind.bits,IntKind.signed]at h; omega
section
variable {H:Type} {enc:TypeId × Value->H} {P:Program} {w:World}
theorem Nq{t e:TypeId}{ks:List (Option IntKind)}{a:Option Addr}{len cap D:Nat}{d:DataW H}{q:List MemPlace}(p:P.underlying t=some (.slice e))(m:wB P D e=some ks)(c:P.cellsOf e=ks.length)(o:0<ks.length)
 (h:DataW.Trod enc P w 0 (fun _=>true) true t (.slice a len cap) d q):len<=maxLen /\ ∃ X:Nat->Nat->Value,(∀ i,i<len -> ∀(j:Nat) (k:Option IntKind),ks[j]? = some k->LJ k (X i j))/\Fx.lU w a len ks.length (Fx.flat ks.length X):=by
 obtain⟨u,l⟩:=h;obtain⟨r,v,s,b,n,_,X,g,f⟩:=Hw p m c o l;simp[Value.cells]at b;obtain⟨rfl,rfl,rfl⟩:=b;exact⟨n,X,g,f⟩
theorem lU.sZ{w:World}{a:Option Addr}{n s:Nat}{x y:Nat->Value}(h:Fx.lU w a n s x)(e : ∀ p,p<n*s->x p=y p):Fx.lU w a n s y:=fun f=>by
 obtain⟨b,j,d,g⟩:=h f;exact⟨b,j,d,fun i c=>by rw[<- e i c]; exact g i c⟩
end
end Go.Proofs.YtahbiajdgealnaaGreatDoor
namespace Go.Proofs.YtahbiajdgealnaaGreatDoor
open Go.RowKit Rt
open Fx (fC eO fK bA gU gT dD dS gL jw eG jy gu jA jc Lv sN Ln Ws Qv Wl Rp Wc Qs Wr Sb Lk Wk rC rV sR Rs Rn Rd Rk Wb Wx Wo Cu Wt qR Jf Qn FP Bb yc yK Cq Dz ql iC yL ni rW uh vH wF yJ Cv Aj rv aA aQ bH aM ev cB Stp dH aX flat dB Mp eU aW ig iO bC down iM jL kF iN lU bK bI cells_one iQ bV vM unseen jJ iD bX dJ bL bO bY bZ gG gH pO gV)
set_option maxRecDepth 20000
set_option linter.unusedVariables false
namespace Rt
def OW(L:fJ)(c:Option Addr)(d:Nat)(a:Option Addr)(b:Nat):CB:=⟨L.inn,L.left,L.known,c,L.nn,d,a,L.gn,b⟩
def Vr(L:fJ):Nat->Nat->Value:=fun k=>lV (L.id k) (L.par k) (L.R k)
def Vs(L:fJ):Nat->Nat->Value:=fun k=>iX (L.g k)
structure LWf(L:fJ):Prop where
 n : ∀ k,k<L.nn->je (L.id k)/\je (L.par k) /\ ∀ p,p<54->rz (L.R k p)
 g : ∀ k,k<L.gn->rz (L.g k 0)/\je (L.g k 1)/\je (L.g k 2)/\rz (L.g k 3)/\je (L.g k 4)
 k : ∀ i,i<6->je (L.known i)
 bn:L.nn<=900000
 bg:L.gn<=900000
theorem adA{n:Int}(h:je n):(Lit.int .u64 n).wf=true:=Fx.sD h
theorem ape{n:Int}(h:rz n):(Lit.int .i64 n).wf=true:=Fx.Rh h
theorem K9{n:Int}(h:je n):nX (some .u64) (.int .u64 n)=some (.int .u64 n):=by simp[nX,adA h]
theorem Vt{n:Int}(h:rz n):nX (some .i64) (.int .i64 n)=some (.int .i64 n):=by simp[nX,ape h]
theorem D8(b:Nat->Bool):Fx.Kd (List.replicate 6 none) (fun j => .bool (b j)):=fun i a=>⟨.bool (b i),by rw[List.getElem_replicate]; rfl⟩
theorem ZM{id par:Int}{R:Nat->Int}(h:je id/\je par /\ ∀ p,p<54->rz (R p)):Fx.Kd (some .u64::some .u64::List.replicate 54 (some .i64)) (lV id par R):=fun i a=>by
 match i,a with
 | 0,_=>exact⟨_,K9 h.1⟩
 | 1,_=>exact⟨_,K9 h.2.1⟩
 | i+2,a =>
   have b:i<54:=(by simp at a; omega);have e:(some IntKind.u64::some IntKind.u64::List.replicate 54 (some IntKind.i64))[i+2]=some .i64:=(by rw[List.getElem_cons_succ,List.getElem_cons_succ,List.getElem_replicate]);rw[e,MG _ _ _ (p:=i) rfl];exact⟨_,Vt (h.2.2 i b)⟩
theorem ZN{x:Nat->Int}(h:rz (x 0)/\je (x 1)/\je (x 2)/\rz (x 3)/\je (x 4)):Fx.Kd [some .i64,some .u64,some .u64,some .i64,some .u64] (iX x):=fun i a=>by
 match i,a with
 | 0,_=>exact⟨_,Vt h.1⟩
 | 1,_=>exact⟨_,K9 h.2.1⟩
 | 2,_=>exact⟨_,K9 h.2.2.1⟩
 | 3,_=>exact⟨_,Vt h.2.2.2.1⟩
 | 4,_=>exact⟨_,K9 h.2.2.2.2⟩
theorem LWf.of{L:fJ}{N:Nat}(a:Inv0 L N)(o:zS L)(m:yX L)(A:N<=900000):LWf L where
 n:=fun k c=>by
  have y:=a.pos k c;have z:=a.top k c;have f:=mD (a.may k c);refine⟨⟨by omega,by omega⟩,?_,fun p r=>by have:=f p r; exact⟨by omega,by omega⟩⟩
  rcases a.up k c with e|⟨j,b,e⟩
  ·rw[e]; exact⟨by omega,by omega⟩
  ·have h:=a.pos j b;have l:=a.top j b;rw[<- e]; exact⟨by omega,by omega⟩
 g:=fun k c=>by
  obtain⟨d,u,v,w,x⟩:=o.gb k c;obtain⟨s,t⟩:=m.wf k c;obtain⟨j,b,e⟩:=iE.1 d;rw[a.BK]at b;rw[(a.tid j b).1]at e;have h:=a.pos j b;have l:=a.top j b;exact⟨⟨by omega,by omega⟩,s,by rw[<- e]; exact⟨by omega,by omega⟩,⟨by omega,by omega⟩,t⟩
 k:=fun i q=>by have:=a.kn i q; exact⟨by omega,by omega⟩
 bn:=by have:=a.nn; omega
 bg:=by have:=a.gn; omega
end Rt
structure Jw(w:World)(s:CB)(L:fJ):Prop where
 e:s=OW L s.na s.nc s.ga s.gc
 n:lU w s.na L.nn 56 (flat 56 (Vr L))
 g:lU w s.ga L.gn 5 (flat 5 (Vs L))
theorem Jw.up{w w':World}{s:CB}{L:fJ}(h:Jw w s L)(a:Below w.heap.size w w'):Jw w' s L:=⟨h.e,h.n.up a rfl,h.g.up a rfl⟩
instance {w w':World} {s:CB} {L:fJ}:Rt.Tr w w' (Jw w s L) (Jw w' s L):=⟨fun b h=>h.up b⟩
theorem Jw.ldg{w:World}{p:Nat}{m:kZ}(h:CF w p m):Jw w m.s m.core:=⟨rfl,h.an,h.ag⟩
theorem Jw.of{w:World}{B:Nat}{m:dK}{s:CB}{l:List Int}{p:List Jh}{L:fJ}{N:Nat}(h:StQ w B m s l p)(d:fT m L)(r:Inv0 L N)(q:yX L):Jw w s L:=by
 have e:=StC.of d r q h.ls h.gs;have f:s.nn=L.nn:=by rw[h.nn,e.nn]
 have i:s.gn=L.gn:=by rw[h.gn,e.gn]
 refine⟨?_,?_,?_⟩
 ·cases s
  unfold OW;have a:=h.inn;have b:=h.left;have c:=h.known;simp only at a b c f i ⊢;rw[a,b,c,d.inn,d.left,d.known,f,i]
 ·have:=h.n.arr;rw[f]at this;refine lU.sZ this<|bK fun k o j _ => ?_;obtain⟨a,b,c⟩:=e.n k o;unfold Vm Vr;rw[b,c,a]
 have:=h.g.arr;rw[i]at this;refine lU.sZ this<|bK fun k o j _ => ?_;unfold Wp Vs;rw[e.g k o]
theorem adB(L:fJ)(t A m x:Option Addr)(u B o y:Nat)(w:World)(l:LWf L)(hN1:lU w t L.nn 56 (flat 56 (Vr L)))(hN2:lU w A L.nn 56 (flat 56 (Vr L)))(hG1:lU w m L.gn 5 (flat 5 (Vs L)))(hG2:lU w x L.gn 5 (flat 5 (Vs L))) :
 Calls Tryz.prog 17 #[.agg (aA 20 (nK (OW L t u m o))),.agg (aA 20 (nK (OW L A B x y)))] w fun e w'=>e = .returned (.bool true)/\Below w.heap.size w w':=by
 have hbn:=l.bn;have hbg:=l.bg;refine Kent Tryz.func17 80 ?_;refine ay<|qM fun c w1 kU S s1 z1 => ?_;have V:=bG s1.old (Below.refl w.heap.size w);have tC:=iq kU;have uU:=S.lt;refine qM fun d w2 ae s s2 z2 => ?_;have⟨z,b2⟩:=eZ s2.old S V;have rU:=jE ae V.size;have Ka:=cK ae S.lt;have Av:=s.lt;refine av aF<|aC<|Ws<|ay<|av (pt c)<|Lv (.agg (aA 6 (fun j => .bool (L.inn j)))) (fG z.aI 0 (fun j h=>by rw[E_]; exact zL _ h))<|av (pt d)<|Lv (.agg (aA 6 (fun j => .bool (L.inn j)))) (fG s.aI 0 (fun j h=>by rw[E_]; exact zL _ h))<|Lv aF (Fx.Eh (n:=6) (ks:=List.replicate 6 none) (X:=fun j => .bool (L.inn j)) (Y:=fun j => .bool (L.inn j)) 12 true rfl rfl rfl (Fx.Ih (fun _ _=>rfl)) (D8 _) (D8 _) rfl (by kernel_rfl) (by kernel_rfl) (by kernel_rfl) (by kernel_rfl) (by kernel_rfl))<|av aF<|av (pf c 6)<|Lv (.agg (aA 6 (fun j => .bool (L.left j)))) (fG z.aI 6 (fun j h=>Ay (p:=j) _ h (by omega)))<|av (pf d 6)<|Lv (.agg (aA 6 (fun j => .bool (L.left j)))) (fG s.aI 6 (fun j h=>Ay (p:=j) _ h (by omega)))<|Lv aF (Fx.Eh (n:=6) (ks:=List.replicate 6 none) (X:=fun j => .bool (L.left j)) (Y:=fun j => .bool (L.left j)) 12 true rfl rfl rfl (Fx.Ih (fun _ _=>rfl)) (D8 _) (D8 _) rfl (by kernel_rfl) (by kernel_rfl) (by kernel_rfl) (by kernel_rfl) (by kernel_rfl))<|av aF<|av aF<|av (pf c 12)<|Lv (.agg (aA 6 (rv .u64 L.known))) (fG z.aI 12 (fun j h=>jV (p:=j) _ h (by omega)))<|av (pf d 12)<|Lv (.agg (aA 6 (rv .u64 L.known))) (fG s.aI 12 (fun j h=>jV (p:=j) _ h (by omega)))<|Lv aF (Fx.Eh (n:=6) (ks:=List.replicate 6 (some .u64)) (X:=rv .u64 L.known) (Y:=rv .u64 L.known) 12 true rfl rfl rfl (Fx.Ih (fun _ _=>rfl)) (Fx.JC fun i Q=>adA (l.k i Q)) (Fx.JC fun i Q=>adA (l.k i Q)) rfl (by kernel_rfl) (by kernel_rfl) (by kernel_rfl) (by kernel_rfl) (by kernel_rfl))<|av aF<|av aF<|av (pf c 18)<|Lv (.slice t (L.nn) (u)) (aN z.aI 18)<|av (au L.nn)<|av (pf d 18) ?_;refine Lv (.slice A (L.nn) (B)) (aN s.aI 18)<|av (au L.nn)<|Lv aF (jd rfl)<|av aF<|av aF<|av (pf c 19)<|Lv (.slice m (L.gn) (o)) (aN z.aI 19)<|av (au L.gn)<|av (pf d 19)<|Lv (.slice x (L.gn) (y)) (aN s.aI 19)<|av (au L.gn)<|Lv aF (jd rfl)<|av aF<|aC<|aK<|Wk<|sN<|Ws<|ay<|av (au 0)<|aC<|Wb<|Wo (fun f v => ∃ k:Nat,k<=L.nn/\f 2=(pt c)/\f 3=(pt d)/\f 5=au (k:Int)/\aQ v c 20 (nK (OW L t u m o)) 53/\aQ v d 20 (nK (OW L A B x y)) 53/\Below w.heap.size w v) (fun f _=>(L.nn-(intOf (f 5)).toNat)) ⟨0,by omega,(by rfl),(by rfl),Fx.ic,z,s,b2⟩ ?_;rintro f1 C ⟨k,hk,J,O,E,K,U,H⟩;refine Ws<|ay<|aS E<|Lv (pf c 18) (ji J 18)<|Lv (.slice t (L.nn) (u)) (aN K.aI 18)<|av (au L.nn) ?_;by_cases ac:(k:Int)<(L.nn:Int)
 ·refine Lv aG (gI ac)<|aC<|aO<|Wk<|sN<|Ws<|Wb<|Ws ?_;refine xC<|Qv (pf c 18) (fun b a=>ji J 18)<|Qv (.slice t (L.nn) (u)) (fun b a=>aN (K.aI.dr a) 18)<|dX E ?_;obtain⟨W,oq1,eq1,m6⟩:=(hN1.up H rfl) (by omega);have acg:W<C.heap.size:=m6.lt (by omega);refine Qv (pf W (56*k+oq1)) (fun b a=>dh 56 (hx:=(rfl.trans (K_ (fun q=>Value.slice q (L.nn) (u)) eq1))))<|Qv (.agg (aA 56 (Vr L k))) (fun b a=>fG (m6.dr a) (56*k) (fun R r=>Fx.gW (k:=k) (by omega) r))<|Qv (pf d 18) (fun b a=>ji O 18)<|Qv (.slice A (L.nn) (B)) (fun b a=>aN (U.aI.dr a) 18)<|dX E ?_;obtain⟨Z,oq2,DV,m7⟩:=(hN2.up H rfl) (by omega);have agT:Z<C.heap.size:=m7.lt (by omega);refine Qv (pf Z (56*k+oq2)) (fun b a=>dh 56 (hx:=(rfl.trans (K_ (fun q=>Value.slice q (L.nn) (B)) DV))))<|Qv (.agg (aA 56 (Vr L k))) (fun b a=>fG (m7.dr a) (56*k) (fun R r=>Fx.gW (k:=k) (by omega) r))<|Qv aF (fun b a=>Fx.Eh (n:=56) (ks:=((some .u64)::(some .u64)::List.replicate 54 (some .i64))) (X:=Vr L k) (Y:=Vr L k) 12 true rfl rfl rfl (Fx.Ih (fun _ _=>rfl)) (ZM (l.n k (by omega))) (ZM (l.n k (by omega))) rfl (by kernel_rfl) (by kernel_rfl) (by kernel_rfl) (by kernel_rfl) (by kernel_rfl))<|Qn ?_;rintro _ ⟨G,rfl⟩;obtain⟨Cy,M⟩ : ∃ b,b=World.drewN C G:=⟨_,rfl⟩;rw[<- M];have s3:Stp C.heap.size C Cy:=by rw[M]; exact Sb (jF C G)
  have⟨m8,m9,b4⟩:=jG s3.old K U H;clear M;refine sN<|aK<|Wk<|bO<|sN<|Wl<|aS E<|Lv (au ((k:Int)+1)) eT<|av (au ((k:Int)+1))<|Ln<|gH ⟨k+1,by omega,J,O,Fx.ic,m8,m9,b4⟩ ?_;show(L.nn-(intOf (au ((k:Int)+1))).toNat)<_;simp only[E,intOf]; omega
 refine Lv aF (gJ ac)<|aC<|aK<|Wx<|bY<|gG<|bZ<|sN<|Ws<|ay<|av (au 0)<|aC<|Wb<|Wo (fun f v => ∃ k:Nat,k<=L.gn/\f 2=(pt c)/\f 3=(pt d)/\f 6=au (k:Int)/\aQ v c 20 (nK (OW L t u m o)) 53/\aQ v d 20 (nK (OW L A B x y)) 53/\Below w.heap.size w v) (fun f _=>(L.gn-(intOf (f 6)).toNat)) ⟨0,by omega,J,O,Fx.ic,K,U,H⟩ ?_;rintro f2 D ⟨k,hk,P,h5,F,T,m13,I⟩;refine Ws<|ay<|aS F<|Lv (pf c 19) (ji P 19)<|Lv (.slice m (L.gn) (o)) (aN T.aI 19)<|av (au L.gn) ?_;by_cases ad:(k:Int)<(L.gn:Int)
 ·refine Lv aG (gI ad)<|aC<|aO<|Wk<|sN<|Ws<|Wb<|Ws ?_;refine xC<|Qv (pf c 19) (fun b a=>ji P 19)<|Qv (.slice m (L.gn) (o)) (fun b a=>aN (T.aI.dr a) 19)<|dX F ?_;obtain⟨aa,oq3,Zz,m14⟩:=(hG1.up I rfl) (by omega);have aph:aa<D.heap.size:=m14.lt (by omega);refine Qv (pf aa (5*k+oq3)) (fun b a=>dh 5 (hx:=(rfl.trans (K_ (fun q=>Value.slice q (L.gn) (o)) Zz))))<|Qv (.agg (aA 5 (Vs L k))) (fun b a=>fG (m14.dr a) (5*k) (fun R r=>Fx.gW (k:=k) (by omega) r))<|Qv (pf d 19) (fun b a=>ji h5 19)<|Qv (.slice x (L.gn) (y)) (fun b a=>aN (m13.aI.dr a) 19)<|dX F ?_;obtain⟨ab,oq4,eq4,m15⟩:=(hG2.up I rfl) (by omega);have apk:ab<D.heap.size:=m15.lt (by omega);refine Qv (pf ab (5*k+oq4)) (fun b a=>dh 5 (hx:=(rfl.trans (K_ (fun q=>Value.slice q (L.gn) (y)) eq4))))<|Qv (.agg (aA 5 (Vs L k))) (fun b a=>fG (m15.dr a) (5*k) (fun R r=>Fx.gW (k:=k) (by omega) r))<|Qv aF (fun b a=>Fx.Eh (n:=5) (ks := [(some .i64),(some .u64),(some .u64),(some .i64),(some .u64)]) (X:=Vs L k) (Y:=Vs L k) 12 true rfl rfl rfl (Fx.Ih (fun _ _=>rfl)) (ZN (l.g k (by omega))) (ZN (l.g k (by omega))) rfl (by kernel_rfl) (by kernel_rfl) (by kernel_rfl) (by kernel_rfl) (by kernel_rfl))<|Qn ?_;rintro _ ⟨G,rfl⟩;obtain⟨wq2,N⟩ : ∃ b,b=World.drewN D G:=⟨_,rfl⟩;rw[<- N];have s4:Stp D.heap.size D wq2:=by rw[N]; exact Sb (jF D G)
  have⟨m16,m17,b6⟩:=jG s4.old T m13 I;clear N;refine sN<|aK<|Wk<|bO<|sN<|Wl<|aS F<|Lv (au ((k:Int)+1)) eT<|av (au ((k:Int)+1))<|Ln<|gH ⟨k+1,by omega,P,h5,Fx.ic,m16,m17,b6⟩ ?_;show(L.gn-(intOf (au ((k:Int)+1))).toNat)<_;simp only[F,intOf]; omega
 refine Lv aF (gJ ad)<|aC<|aK<|Wx<|bY<|gG<|bZ<|sN<|ay<|av aG<|aC<|Wr<|aJ aG ?_;exact⟨rfl,I⟩
theorem Yu{w:World}{b c:CB}{L:fJ}(h1:Jw w b L)(a:Jw w c L)(d:LWf L):Calls Tryz.prog 17 #[.agg (aA 20 (nK b)),.agg (aA 20 (nK c))] w fun e w'=>e = .returned (.bool true)/\Below w.heap.size w w':=by
 rw[h1.e,a.e];exact adB L _ _ _ _ _ _ _ _ w d h1.n a.n h1.g a.g
namespace Rt
def Gb(x y:Value):Nat->Value:=fun q=>if q=0 then x else y
theorem agU(x y v:Value):dB (Gb x y) 0 v=Gb v y:=by funext q; unfold dB Gb; split <;> rfl
theorem agV(x y v:Value) : ∀ j,j<2->dB (Gb x y) 1 v j=Gb x v j:=fun j a=>by
 unfold dB Gb
 rcases j with _|_|j
 ·rfl
 ·rfl
 ·omega
def Hy(a:Nat->Nat):Nat->Value:=fun i=>(pt (a i))
def HY(w:World)(B n:Nat)(b:Nat->Nat)(a:Nat->kZ):Prop := ∀ i,i<n->uY w B (b i) (a i)
theorem HY.up{w w':World}{B n:Nat}{b:Nat->Nat}{a:Nat->kZ}(h:HY w B n b a)(c:Below w.heap.size w w'):HY w' B n b a:=fun i d=>(h i d).up c
instance {w w':World} {B n:Nat} {c:Nat->Nat} {a:Nat->kZ}:Rt.Tr w w' (HY w B n c a) (HY w' B n c a):=⟨fun b h=>h.up b⟩
theorem HY.kr{w w':World}{B n:Nat}{c:Nat->Nat}{b:Nat->kZ}{a:List TypeId}(h:HY w B n c b)(e:iQ a w w')(f:(Kn.all fun T => !a.contains T)=true):HY w' B n c b:=fun i d=>(h i d).kr e f
instance {w w':World} {B n:Nat} {d:Nat->Nat} {c:Nat->kZ} {a:List TypeId}:Rt.Tc a w w' (HY w B n d c) (HY w' B n d c) (Kn.all fun T => !a.contains T):=⟨fun b h e=>h.kr b (by simpa using e)⟩
theorem HY.put{w:World}{B n o p:Nat}{b:Nat->Nat}{a:Nat->kZ}{m:kZ}(h:HY w B n b a)(d:uY w B p m):HY w B n (aH b o p) (aH a o m):=fun i c=>by
 unfold aH;by_cases e:i=o
 ·rw[d_ e,d_ e]; exact d
 ·rw[b_ e,b_ e]; exact h i c
theorem HY.snoc{w:World}{B n p:Nat}{b:Nat->Nat}{a:Nat->kZ}{m:kZ}(h:HY w B n b a)(c:uY w B p m):HY w B (n+1) (aH b n p) (aH a n m):=fun i d=>by
 unfold aH;by_cases e:i=n
 ·rw[d_ e,d_ e]; exact c
 ·rw[b_ e,b_ e]; exact h i (by omega)
theorem adD{n p:Nat}{a:Nat->Nat}{z:Nat->Value} : ∀ j,j<(n+1)*1->iD (Hy a) (n*1) (bH z (0*1) 1 (fun _=>(pt p))) j=Hy (aH a n p) j:=by
 intro j b;unfold iD Hy aH;by_cases h:j<n*1
 ·rw[d_ h,b_ (by omega)]
 rw[b_ h,d_ (by omega)];unfold bH;rw[d_ (by omega)]
theorem Vu{o p:Nat}{a:Nat->Nat}:dB (Hy a) o (pt p)=Hy (aH a o p):=by
 funext j; unfold dB Hy aH
 by_cases h:j=o
 ·rw[d_ h,d_ h]
 rw[b_ h,b_ h]
theorem Vv{n:Nat}{e:Nat->EvM}{v:EvM}{z:Nat->Value} : ∀ j,j<(n+1)*14->iD (Ou e) (n*14) (bH z (0*14) 14 (bR v)) j=Ou (aH e n v) j:=fun j a =>
 (Fx.xu j a).trans (bK (fun i _ q _=>by unfold Fx.qB aH; split <;> rfl) j a)
structure WM where
 n:Nat
 la:Option Addr
 lc:Nat
 pl:Nat->Nat
 ml:Nat->kZ
 an:Nat
 aa:Option Addr
 ac:Nat
 ev:Nat->EvM
end Rt
structure nW(w:World)(B p:Nat)(M:WM)(T:Nat):Prop where
 c:aQ w p 2 (Gb (.slice M.la M.n M.lc) (.slice M.aa M.an M.ac)) 44
 l:Fx.Own w B 72 1 (.slice M.la M.n M.lc) M.n (Hy M.pl)
 a:Fx.Own w B 32 14 (.slice M.aa M.an M.ac) M.an (Ou M.ev)
 g:HY w B M.n M.pl M.ml
 inv : ∀ i,i<M.n->Inv (M.ml i).core T
 wf : ∀ k,k<M.an->fZ (M.ev k)
 may : ∀ k,k<M.an->bS (M.ev k)=true
 sm : ∀ k,k<M.an->nV (M.ev k)
 cz:Cz M.n M.an M.ev fun o=>(M.ml o).s.known
 pB:B<=p
 n1:1<=M.n
 n6:M.n<=6
def adE:List Nat := [44,72,32]++Kn
theorem nW.up{w w':World}{B p T:Nat}{M:WM}(h:nW w B p M T)(b:Below w.heap.size w w'):nW w' B p M T := { h with c:=h.c.cZ (Sb b) (t_ h.c.lt),l:=h.l.up b,a:=h.a.up b,g:=h.g.up b }
instance {w w':World} {B p T:Nat} {M:WM}:Rt.Tr w w' (nW w B p M T) (nW w' B p M T):=⟨fun b h=>h.up b⟩
theorem nW.kr{w w':World}{B p T:Nat}{M:WM}{e:List TypeId}(h:nW w B p M T)(b:iQ e w w')(j:(adE.all fun T => !e.contains T)=true):nW w' B p M T:=by
 have i : ∀ d∈adE,e.contains d=false:=fun d f=>by
  have:=List.all_eq_true.1 j d f
  simpa using this
 exact { h with c:=h.c.kr b (i _ (by decide)),l:=h.l.kr b (i _ (by decide)),a:=h.a.kr b (i _ (by decide)),g:=h.g.kr b (List.all_eq_true.2 fun T f=>List.all_eq_true.1 j T (List.mem_append_right _ f)) }
instance {w w':World} {B p T:Nat} {M:WM} {a:List TypeId}:Rt.Tc a w w' (nW w B p M T) (nW w' B p M T) (adE.all fun T => !a.contains T):=⟨fun b h e=>h.kr b (by simpa using e)⟩
theorem Yv{w:World}{B p k a:Nat}(d:aQ w p 27 (mE (jS k a)) 71)(f:aQ w a 1 (fun _ => .slice none 0 0) 123)(h1:B<=p)(b:B<=a):uY w B p (jS k a) where
 c:=d
 n:=wF _ _ _ _ _
 g:=wF _ _ _ _ _
 tc:=f
 t:=wF _ _ _ _ _
 r:=⟨fun _ _=>wF _ _ _ _ _,fun _ _ _ _ _ _ e=>by cases e⟩
 pB:=h1
 tB:=b
 bn:=J_ _
 bg:=J_ _
 bt:=J_ _
 br:=fun _ _=>J_ _
theorem Rt.A9(k a:Nat):Inv (jS k a).core 0 where
 BK:=rfl
 nn:=J_ _
 tid:=fun _ h=>L_ h (u_ _)
 rise:=fun _ _ _ h=>L_ h (u_ _)
 pos:=fun _ h=>L_ h (u_ _)
 top:=fun _ h=>L_ h (u_ _)
 up:=fun _ h=>L_ h (u_ _)
 dep:=fun _=>⟨0,J_ _,by show(-1:Int)<0; decide⟩
 gn:=z_ _
 rn:=fun _ _=>z_ _
 may:=fun _ h=>L_ h (u_ _)
 g47:=fun _ h=>L_ h (u_ _)
 kn:=fun _ _=>⟨M_ _,by show(0:Int)<_; decide⟩
 s:=⟨fun _ h=>L_ h (u_ _),fun _ h=>L_ h (u_ _)⟩
 b:=⟨fun _ _=>M_ _,fun _ h=>L_ h (u_ _),fun _ _ _ h=>L_ h (u_ _)⟩
set_option maxRecDepth 20000 in
theorem Nr(n:Nat)(w:World)(V:1<=n)(W:n<=6) :
 Calls Tryz.prog 12 #[au (n:Int)] w fun e w' => ∃ p M,e = .returned (pt p)/\M.n=n/\M.an=0/\(∀ i,(M.ml i).core=(jS n 0).core)/\nW w' w.heap.size p M 0/\Below w.heap.size w w':=by
 refine Kent Tryz.func12 30 ?_;refine ay<|av (.pointer none)<|aC<|ay<|av (.agg (aA 2 (fun _ => .slice none 0 0)))<|qM fun b P kU X s1 z1 => ?_;have b1:=bG s1.old (Below.refl w.heap.size w);have tC:=iq kU;have uU:=X.lt;refine av (pt b)<|aC<|Ws<|ay<|av (au 0)<|aC<|Wb ?_;have m2:aQ P b 2 (Gb (.slice none 0 0) (.slice none 0 0)) 44:=X.congr (fun j _=>by unfold Gb; split <;> rfl)
 have m3:Fx.Own P w.heap.size 72 1 (.slice none 0 0) 0 (Hy (fun _=>0)):=wF _ _ _ _ _;have m4:HY P w.heap.size 0 (fun _=>0) (fun _=>jS n 0):=fun _ h=>L_ h (u_ _);refine Wo (fun f G => ∃ k:Nat,∃ a:Option Addr,∃ u:Nat,∃ t:Nat->Nat,∃ r:Nat->kZ,k<=n/\(∀ i,∃ z,r i=jS n z)/\f 0=au (n:Int)/\f 3=(pt b)/\f 4=au (k:Int)/\aQ G b 2 (Gb (.slice a k u) (.slice none 0 0)) 44/\Fx.Own G w.heap.size 72 1 (.slice a (k) (u)) k (Hy t)/\HY G w.heap.size k t r/\Below w.heap.size w G) (fun f _=>(n-(intOf (f 4)).toNat)) ⟨0,none,0,(fun _=>0),(fun _=>jS n 0),by omega,(fun _=>⟨0,rfl⟩),Fx.ic,(by rfl),Fx.ic,m2,m3,m4,b1⟩ ?_;rintro f1 w2 ⟨k,a,u,t,r,hk,F,J,E,K,m5,m6,m7,A⟩;refine Ws<|ay<|aS K<|aS J ?_;by_cases S:(k:Int)<(n:Int)
 ·refine Lv aG (gI S)<|aC<|aO<|Wk<|sN<|Ws<|Wb<|ay<|aS J<|lK (afs n _ V W) ?_;rintro e9 w3 ⟨d,O,T,hp3,_,hb3,hc3,ht3,apl⟩;refine⟨.tuple #[(pt d),au 0],T,?_⟩;clear T;have⟨N,m9,m10,Q⟩:=mK hb3 m5 m6 m7 A;have hL1:uY w3 w.heap.size d (jS n O):=Yv hc3 ht3 (m_ A.size hp3) (m_ A.size apl);refine av (.tuple #[(pt d),au 0])<|av (pt d)<|av (au 0)<|av (pt d)<|av (au 0)<|aC<|Wl<|aS E<|aS E<|av (pt b)<|av (pt b)<|Lv (.slice a (k) (u)) (aN N.aI 0)<|av (pt d)<|yc (vs := [(0,(pt d))]) (s:=1) (zc:=fun _ => .pointer none) (y:=bH (fun j => .pointer none) (0*1) 1 (fun _=>(pt d))) (by rfl) rfl rfl Tryz.underlying41 (by kernel_rfl) (by rfl) (by rfl) (by kernel_rfl) (by rw[bC (off:=0*1) (s:=1) (y:=fun _=>(pt d)) rfl (cells_one (by rfl)) (by rfl)]; rfl) rfl fun g2 w4 I Y s3 z2 => ?_;have⟨m12,L,m14,m15,H⟩:=wR s3.old N m9 m10 hL1 Q;have rU:=jE I Q.size;have Fe:=cK I N.lt;have zU:(.slice a (k) (u):Value).ownBlock≠some g2:=by rw[I]; exact m9.jK (z_ _)
  have Av:=Y.lt;refine yK (B:=w.heap.size) (s:=1) (bytes:=8) (k:=k) (m:=1) (v := .slice a (k) (u)) (x:=Hy t) (by rfl) rfl rfl rfl Tryz.underlying41 (by kernel_rfl) (by kernel_rfl) rfl rfl L Y.aI (vV (fun _=>rfl)) (by omega) (by omega) (by omega) H.size fun D C w5 ho1 U uo hlt1 => ?_;have gN:=yL U L;have⟨Z,m18,m19⟩:=En gN m12 m14 m15;have m16:Fx.Own w5 w.heap.size 72 1 (bM D (k+1) C) (k+1) (Hy (aH t k d)):=(ho1.congr (fun j hj=>adD j hj));have R:Below w.heap.size w w5:=yJ H U H.size (fun q hq=>(L.ge hq).1);refine av (pt b)<|av (pt b)<|jh Z 0 (bM D (k+1) C) fun w6 m20 s4 z3 => ?_;have m21:aQ w6 b 2 (Gb (bM D (k+1) C) (.slice none 0 0)) 44:=m20.to (agU _ _ _);have jX:=iC s4 Z.ty;have⟨m22,m23,m24⟩:=En jX m18 m19 m16;have b6:=s4.below R R.size (by omega);refine Ln<|bO<|sN<|Wl<|aS K<|Lv (au ((k:Int)+1)) eT<|av (au ((k:Int)+1))<|Ln ?_;have mY:HY w6 w.heap.size (k+1) (aH t k d) (aH r k (jS n O)):=m22.snoc m23
  skip
  refine gH ⟨k+1,(some ⟨D,0,none⟩),C,(aH t k d),(aH r k (jS n O)),by omega,(fun i=>by unfold aH; split <;> first|exact⟨_,rfl⟩|exact F i),(J.trans Fx.ic),E,Fx.ic,m21,m24,mY,b6⟩ ?_
  show(n-(intOf (au ((k:Int)+1))).toNat)<_;simp only[K,intOf]; omega
 refine Lv aF (gJ S)<|aC<|aK<|Wx<|bY<|gG<|bZ<|sN<|ay<|aS E<|av (pt b)<|aC<|Wr<|aJ (pt b) ?_;obtain rfl:k=n:=by omega
 exact⟨b,⟨k,a,u,t,r,0,none,0,fun _=>⟨0,0,fun _=>0,0,0,0,0,0,0⟩⟩,rfl,rfl,rfl,(fun i=>by obtain⟨z,e⟩:=F i; show(r i).core=_; rw[e]; rfl),{ c:=m5,l:=m6,a:=wF _ _ _ _ _,g:=m7,inv:=fun i _=>by obtain⟨z,e⟩:=F i; show Inv (r i).core 0; rw[e]; exact A9 k z,wf:=fun _ h=>L_ h (u_ _),may:=fun _ h=>L_ h (u_ _),sm:=fun _ h=>L_ h (u_ _),cz:=Cz.zero k (fun o _=>by obtain⟨z,e⟩:=F o; show(r o).s.known=_; rw[e]; rfl),pB:=tC,n1:=V,n6:=W },A⟩
end Go.Proofs.YtahbiajdgealnaaGreatDoor
namespace Go.Proofs.YtahbiajdgealnaaGreatDoor
open Go.RowKit Go Rt
set_option linter.unusedVariables false
set_option maxRecDepth 20000
namespace Rt
section
variable {L:fJ} {N:Nat} {v:EvM}
theorem Ns(b:Inv0 L N)(h:zS L):zS (bP L v):=by
 unfold bP;by_cases c:bJ L v=0
 ·rw[d_ c];have a:=(FW (jI c)).1;have d:dR L v=0:=by
   unfold bJ at c;rw[b_ (by rw[a]; decide)]at c;split at c; · cases c
   split at c; · cases c
   split at c; · cases c
   exact c
  have:=GZ b h a d;exact⟨this.us,this.gb⟩
 rw[b_ c]; exact h
def Ce(L:fJ)(x i:Int):Int:=if L.node x<0 then 0 else fI (L.R (L.node x).toNat) i
theorem Nt(i:Int):fI Fv i=0:=by
 unfold fI;by_cases c:(gP i&&may Fv)=true
 ·rw[d_ c];rw[R_]at c;obtain⟨a,d,e,b⟩:=qI c.1;have:=yw (mD c.2) a d;rw[b,this]; rfl
 rw[b_ c]
theorem fT.local{m:dK}(h:fT m L)(a:Inv0 L N)(x i:Int):fI (aZ m x) i=Ce L x i:=by
 unfold aZ Ce;by_cases c:L.node x<0
 ·rw[b_ (by rw[(h.K7 a x).2 c]; decide),d_ c]; exact Nt i
 rw[d_ ((h.node a x).2 (by omega)),b_ c,h.rk a (by omega)]
structure C8(m m':dK):Prop where
 et:m'.tp=m.tp
 em:m'.mb=m.mb
 ep:m'.pb=m.pb
 er:m'.rb=m.rb
 eg:m'.gb=m.gb
 ea:m'.ab=m.ab
theorem C8.refl(m:dK):C8 m m:=⟨rfl,rfl,rfl,rfl,rfl,rfl⟩
theorem C8.trans{a b c:dK}(h:C8 a b)(k:C8 b c):C8 a c:=⟨k.et.trans h.et,k.em.trans h.em,k.ep.trans h.ep,k.er.trans h.er,k.eg.trans h.eg,k.ea.trans h.ea⟩
theorem QF(m:dK)(v:EvM):C8 m (gZ m v):=by
 unfold gZ
 repeat' split
 all_goals exact⟨rfl,rfl,rfl,rfl,rfl,rfl⟩
theorem Nu(m:dK)(v:EvM):C8 m (fO m v):=by
 unfold fO;split
 ·have:=QF m v; exact⟨this.et,this.em,this.ep,this.er,this.eg,this.ea⟩
 exact .refl m
end
end Rt
structure uR(w:World)(B lp:Nat)(m:dK)(L:fJ)(N:Nat):Prop where
 q:kV w B lp m
 s:fT m L
 i:Inv0 L N
 u:zS L
 g:yX L
section
variable {w w':World} {B lp:Nat} {m:dK} {L:fJ} {N:Nat} {v:EvM}
theorem uR.up(h:uR w B lp m L N)(a:Below w.heap.size w w'):uR w' B lp m L N := { h with q:=h.q.up a }
instance:Rt.Tr w w' (uR w B lp m L N) (uR w' B lp m L N):=⟨fun b h=>h.up b⟩
theorem uR.kr{a:List TypeId}(h:uR w B lp m L N)(b:Fx.iQ a w w')(c:(a.contains 106 || a.contains 135)=false):uR w' B lp m L N := { h with q:=h.q.kr b c }
instance {a:List TypeId}:Rt.Tc a w w' (uR w B lp m L N) (uR w' B lp m L N) (!(a.contains 106 || a.contains 135)):=⟨fun b h e=>h.kr b (by simpa using e)⟩
theorem uR.weak{a:Nat}(h:uR w B lp m L N)(b:a<=B):uR w a lp m L N := { h with q:=h.q.weak b }
theorem uR.mono{N':Nat}(h:uR w B lp m L N)(a:N<=N'):uR w B lp m L N' := { h with i:=h.i.mono a }
theorem uR.wf(h:uR w B lp m L N)(a:N<=900000):LWf L:=LWf.of h.i h.u h.g a
theorem kV.xX(h:kV w B lp m)(a:Fx.jL (MV m lp w.heap.size) w w')(c:B<=w.heap.size):Below B w w':=⟨a.os,a.tape,a.output,a.size,fun k d=>a.block k (by omega) fun b=>by
 rcases b with b|b
 ·have:=(h.ltS b).1; omega
 ·omega⟩
theorem kV.typed(h:kV w B lp m)(d:Fx.jL (MV m lp w.heap.size) w w'):Fx.FQ [106] w w':=⟨d.os,d.tape,d.output,d.size,fun k T b e=>d.block k b.ltw fun f=>by
 rcases f with (rfl|rfl|rfl|rfl|rfl|rfl)|f
 ·have:=Fx.Ty.only h.c.ty b;rw[this]at e; simp at e
 ·exact h.t.map.qW b
 ·exact h.p.qW b
 ·exact h.r.qW b
 ·exact h.g.qW b
 ·exact h.a.qW b
 ·have:=b.ltw; omega⟩
theorem QG{B:Nat}{a b c:World}(h:Below a.heap.size a b)(e:Below B b c)(d:a.heap.size<=B):Below a.heap.size a c:=h.trans (e.mono d)
theorem uS{P:Program}{g:Nat}{a b:Array Value}{w:World}{R:Ending->World->Prop}(h:Calls P g b w R)(e:a=b):Calls P g a w R:=e ▸ h
theorem OX{x:Value}{y:Nat->Value}(hy : ∀ j,j<14->y j=bR v j):(#[x,.agg (Fx.aA 14 y)]:Array Value) = #[x,.agg (Fx.aA 14 (bR v))]:=K_ (fun z=>(#[x,.agg z]:Array Value)) (Fx.dZ hy)
theorem Vw(k:Nat)(d:1<=k/\k<=6)(w:World):Calls Tryz.prog 14 #[au (k:Int)] w fun e w' => ∃ lp m,e = .returned (.tuple #[(pt lp),au 0])/\uR w' w.heap.size lp m (jS k 0).core 0/\Below w.heap.size w w' :=
 (agM k d w).mono fun e w' ⟨lp,m,c,⟨n,i,j,l,h,g,a⟩,f,b⟩=>⟨lp,m,c,⟨f,by rw[a]; exact fT.new ..,(A9 k 0).toInv0,(A9 k 0).s,Vq k 0⟩,b⟩
theorem yF(h:uR w B lp m L N)(b:fZ v)(c:1<=B)(d:Fx.iO w 0 0 8 Ga){y:Nat->Value}(hy : ∀ j,j<14->y j=bR v j) :
 Calls Tryz.prog 15 #[(pt lp),.agg (Fx.aA 14 y)] w fun e w'=>e = .returned (au (bJ L v))/\uR w' B lp (fO m v) (bP L v) (N+1)/\Fx.jL (MV m lp w.heap.size) w w':=by
 have a:=h.s.apply h.q.t.inv h.i v;refine uS ((Yd m lp B w h.q v b (h.s.sound h.q.t.inv h.i) c d).mono fun e w' ⟨k,l,f⟩=>⟨by rw[k,a.1],⟨l,a.2,zR h.i,Ns h.i h.u,Np h.g b⟩,f⟩) (OX hy)
theorem Yw(h:uR w B lp m L N)(g:fZ v)(a:1<=B)(b:Fx.iO w 0 0 8 Ga){y:Nat->Value}(hy : ∀ j,j<14->y j=bR v j) :
 Calls Tryz.prog 22 #[(pt lp),.agg (Fx.aA 14 y)] w fun e w'=>e = .returned (au (bJ L v))/\Below w.heap.size w w':=by
 have f:=h.s.apply h.q.t.inv h.i v;refine uS ((aoL m lp B w h.q v g (h.s.sound h.q.t.inv h.i) a b).mono fun e w' ⟨d,c⟩=>⟨by rw[d,f.1],c⟩) (OX hy)
theorem OY(h:uR w B lp m L N)(i x:Int)(hi : -9223372036854775808<=i/\i<=9223372036854775807):Calls Tryz.prog 19 #[(pt lp),au i,aD x] w fun e w'=>e = .returned (au (Ce L x i))/\Below w.heap.size w w':=by
 rw[<- h.s.local h.i]; exact Ye m lp B w h.q i x hi
structure LK(w:World)(B:Nat)(s:CB)(L:fJ):Prop where
 e:s=OW L s.na s.nc s.ga s.gc
 n:Fx.Own w B 61 56 (.slice s.na L.nn s.nc) L.nn (Fx.flat 56 (Vr L))
 g:Fx.Own w B 66 5 (.slice s.ga L.gn s.gc) L.gn (Fx.flat 5 (Vs L))
theorem LK.r{s:CB}(h:LK w B s L):Jw w s L:=⟨h.e,h.n.arr,h.g.arr⟩
theorem LK.up{s:CB}(h:LK w B s L)(a:Below w.heap.size w w'):LK w' B s L:=⟨h.e,h.n.up a,h.g.up a⟩
instance {s:CB}:Rt.Tr w w' (LK w B s L) (LK w' B s L):=⟨fun b h=>h.up b⟩
theorem LK.kr{s:CB}{a:List TypeId}(h:LK w B s L)(c:Fx.iQ a w w')(b:(a.contains 61 || a.contains 66)=false):LK w' B s L:=by
 rw[Bool.or_eq_false_iff]at b;exact⟨h.e,h.n.kr c b.1,h.g.kr c b.2⟩
instance {s:CB} {a:List TypeId}:Rt.Tc a w w' (LK w B s L) (LK w' B s L) (!(a.contains 61 || a.contains 66)):=⟨fun b h e=>h.kr b (by simpa using e)⟩
theorem LK.JN{s:CB}{a:List TypeId}(h:LK w B s L)(c:Fx.FQ a w w')(b:(a.contains 61 || a.contains 66)=false):LK w' B s L:=by
 rw[Bool.or_eq_false_iff]at b;exact⟨h.e,h.n.JN c b.1,h.g.JN c b.2⟩
theorem Ji(h:uR w B lp m L N)(z:N<=900000):Calls Tryz.prog 18 #[(pt lp)] w fun e w' => ∃ s,e = .returned (.agg (Fx.aA 20 (nK s)))/\LK w' w.heap.size s L/\Below w.heap.size w w':=by
 refine(Yq m lp B w h.q (by rw[h.s.gn]; have:=h.i.gn; omega)).mono fun e w' ⟨s,l,y,x,a,v⟩=>⟨s,x,?_,v⟩;have b:=StC.of h.s h.i h.g a.ls a.gs;have o:s.nn=L.nn:=by rw[a.nn,b.nn]
 have p:s.gn=L.gn:=by rw[a.gn,b.gn]
 have f:=a.n;have d:=a.g;rw[o]at f;rw[p]at d;refine⟨(Jw.of a h.s h.i h.g).e,f.congr (Fx.bK fun k c j _ => ?_),d.congr (Fx.bK fun k c j _ => ?_)⟩
 ·obtain⟨r,t,u⟩:=b.n k c;unfold Vm Vr;rw[t,u,r]
 unfold Wp Vs;rw[b.g k c]
end
end Go.Proofs.YtahbiajdgealnaaGreatDoor
namespace Go.Proofs.YtahbiajdgealnaaGreatDoor
open Go.RowKit Rt
open Fx (fC eO fK bA gU gT dD dS gL jw eG jy gu jA jc Lv sN Ln Ws Qv Wl Rp Wc Qs Wr Sb Lk Wk rC rV sR Rs Rn Rd Rk Wb Wx Wo Cu Wt qR Jf Qn FP Bb yc yK Cq Dz ql iC yL ni rW uh vH wF yJ Cv Aj rv aA aQ bH aM ev cB Stp dH aX flat dB Mp eU aW ig iO bC down iM jL kF iN lU bK bI cells_one iQ bV vM unseen jJ iD bX dJ bL bO bY bZ gG gH pO gV)
set_option maxRecDepth 20000
set_option linter.unusedVariables false
namespace Rt
def OZ:Int:=1099511627777
def Vx(n:Int)(i:Nat):Int:=if i=0 then n else 0
def vA:EvM:=⟨1,1,fun _=>0,1,0,0,10,0,0⟩
def vB:EvM:=⟨2,1,Vx 1,3,OZ,0,4,1,0⟩
def vC:EvM:=⟨1,2,Vx 1,5,OZ,2,4,0,0⟩
def vD:EvM:=⟨2,1,Vx 2,3,OZ,0,4,1,0⟩
theorem Nv{n:Int}(h:je n)(i:Nat):je (Vx n i):=by
 unfold Vx;split
 ·exact h
 exact⟨by decide,by decide⟩
theorem agW:fZ vA:=⟨⟨by decide,by decide⟩,⟨by decide,by decide⟩,fun _ _=>⟨M_ 0,(by decide:(0:Int)<=18446744073709551615)⟩,⟨by decide,by decide⟩,⟨by decide,by decide⟩,⟨by decide,by decide⟩,⟨by decide,by decide⟩,⟨by decide,by decide⟩,⟨by decide,by decide⟩⟩
theorem agX:fZ vB:=⟨⟨by decide,by decide⟩,⟨by decide,by decide⟩,fun i _=>Nv ⟨by decide,by decide⟩ i,⟨by decide,by decide⟩,⟨by decide,by decide⟩,⟨by decide,by decide⟩,⟨by decide,by decide⟩,⟨by decide,by decide⟩,⟨by decide,by decide⟩⟩
theorem agY:fZ vC:=⟨⟨by decide,by decide⟩,⟨by decide,by decide⟩,fun i _=>Nv ⟨by decide,by decide⟩ i,⟨by decide,by decide⟩,⟨by decide,by decide⟩,⟨by decide,by decide⟩,⟨by decide,by decide⟩,⟨by decide,by decide⟩,⟨by decide,by decide⟩⟩
theorem agZ:fZ vD:=⟨⟨by decide,by decide⟩,⟨by decide,by decide⟩,fun i _=>Nv ⟨by decide,by decide⟩ i,⟨by decide,by decide⟩,⟨by decide,by decide⟩,⟨by decide,by decide⟩,⟨by decide,by decide⟩,⟨by decide,by decide⟩,⟨by decide,by decide⟩⟩
theorem Vy{m:dK}(b:m.T.ok)(v:EvM):(fO m v).T.ok:=by
 unfold fO;by_cases c:cu m v=0
 ·rw[d_ c];have f:=pI c;have a:=(pJ c).2.1;have g:=nN f;show(gZ m v).T.ok;unfold fB at a;unfold gZ;by_cases d:v.kind=1
  ·rw[d_ d]at a ⊢;have e:m.T.err (ng v) v.node=0:=by
    unfold iU at a;split at a
    ·cases a
    ·exact a
   exact Bd.put b e (by unfold ng; omega)
  rw[b_ d]
  repeat' split
  all_goals exact b
 rw[b_ c]; exact b
structure D9(m:dK)(L:fJ)(N:Nat):Prop where
 s:fT m L
 t:m.T.ok
 i:Inv0 L N
theorem D9.new(k:Nat):D9 (xW k 0 0 0 0 0 0) (jS k 0).core 0:=⟨fT.new ..,Bd.zero _ _,(A9 k 0).toInv0⟩
theorem D9.apply{m:dK}{L:fJ}{N:Nat}(h:D9 m L N)(v:EvM):D9 (fO m v) (bP L v) (N+1):=⟨(h.s.apply h.t h.i v).2,Vy h.t v,zR h.i⟩
theorem D9.err{m:dK}{L:fJ}{N:Nat}(h:D9 m L N)(v:EvM){c:Int}(e:cu m v=c):bJ L v=c:=(h.s.apply h.t h.i v).1.symm.trans e
theorem D9.loc{m:dK}{L:fJ}{N:Nat}(h:D9 m L N)(x i:Int){c:Int}(e:fI (aZ m x) i=c):Ce L x i=c:=(h.s.local h.i x i).symm.trans e
noncomputable def wq0:dK:=xW 2 0 0 0 0 0 0
noncomputable def Cy:dK:=fO wq0 vA
noncomputable def wq2:dK:=fO Cy vC
noncomputable def Qc:dK:=fO wq2 vD
theorem tw0:D9 wq0 (jS 2 0).core 0 := .new 2
theorem tw1:D9 Cy (bP (jS 2 0).core vA) 1:=tw0.apply vA
theorem tw2:D9 wq2 (bP (bP (jS 2 0).core vA) vC) 2:=tw1.apply vC
theorem tw3:D9 Qc (bP (bP (bP (jS 2 0).core vA) vC) vD) 3:=tw2.apply vD
theorem Yx:bJ (jS 2 0).core vA=0:=tw0.err vA (by kernel_rfl)
theorem Yy:bJ (bP (jS 2 0).core vA) vB=11:=tw1.err vB (by kernel_rfl)
theorem Yz:bJ (bP (jS 2 0).core vA) vC=0:=tw1.err vC (by kernel_rfl)
theorem YA:bJ (bP (bP (jS 2 0).core vA) vC) vD=0:=tw2.err vD (by kernel_rfl)
theorem O1:aZ Qc OZ=(bB (wq2.R 0) 2 4).1:=by
 unfold aZ;rw[d_ (show Qc.T.has OZ=true by kernel_rfl)];unfold CW;rw[show Qc.idx OZ=0 by kernel_rfl,show Qc.R 0=(oF wq2 (fun x=>bB x 2 4) (wq2.T.path OZ)).R 0 by kernel_rfl];show(if wq2.T.x 0∈wq2.T.path OZ then(bB (wq2.R 0) 2 4).1 else wq2.R 0)=_;rw[d_];rw[show wq2.T.path OZ = [OZ] by kernel_rfl];exact List.mem_singleton.2 (by kernel_rfl)
theorem YB:Ce (bP (bP (bP (jS 2 0).core vA) vC) vD) OZ 1=6:=tw3.loc _ _ (by rw[O1]; kernel_rfl)
theorem YC:Ce (bP (bP (bP (jS 2 0).core vA) vC) vD) OZ 2=0:=tw3.loc _ _ (by rw[O1]; kernel_rfl)
theorem YD:(bP (bP (bP (jS 2 0).core vA) vC) vD).gn=1:=tw3.s.gn.symm.trans (by kernel_rfl)
end Rt
theorem xY(w:World)(c:iO w 0 0 8 Ga) :
 Calls Tryz.prog 11 #[] w fun e w'=>e = .returned (.bool true)/\Below w.heap.size w w':=by
 have g:=c.lt (by omega);have f:1<=w.heap.size:=by omega
 refine Kent Tryz.func11 69 ?_;refine ay<|av aF<|aC<|ay<|lK (Vw 2 (by omega) _) ?_;rintro H Y ⟨lp,X,d,R,I⟩;refine⟨_,d,?_⟩;clear d;have n:=R.weak (Below.refl w.heap.size w).size;have h:=bG I (Below.refl w.heap.size w);refine av (.tuple #[(pt lp),au 0])<|av (pt lp)<|av (au 0)<|av (pt lp)<|av (au 0)<|aC<|Ws<|ay<|av (au 0)<|Lv aF (jd rfl)<|av aF<|av (pt lp)<|Lv aF (Fx.qA rfl rfl rfl (by kernel_rfl))<|av aF<|aC<|aK<|Wk<|sN<|ay<|av (aD 1099511627777)<|aC<|ay<|av (pt lp)<|av (.agg (aA 14 (bH (bH (bH (bH (fun a=>if a<1 then au 0 else if a<8 then aD 0 else if a<9 then .int .u8 (0)else if a<10 then aD 0 else if a<12 then au 0 else aD 0) 0 1 (fun _=>au 1)) 1 1 (fun _=>aD 1)) 8 1 (fun _ => .int .u8 (1))) 11 1 (fun _=>au 10))))<|dP (yF (v:=vA) n agW f (c.below h g) (fun j l=>by rcases j with _|_|_|_|_|_|_|_|_|_|_|_|_|_|j <;> first|rfl|omega)) (au 0) (by rw[Yx]) ?_
 rintro Z ⟨A,t⟩;have U:=n.q.typed t;have N:=n.q.xX t h.size;have r:=QG h N (z_ _);refine av (au 0)<|aC<|ay<|av (pt lp)<|Lv (.agg (aA 6 (bH (rv .u64 (fun _=>0)) 0 1 (fun _=>aD 1)))) (Fx.vE (vs := [(0,aD 1)]) (s:=1) (m:=6) (x:=rv .u64 (fun _=>0)) rfl rfl Tryz.underlying30 (by kernel_rfl) (by kernel_rfl) (by rw[bC (off:=0) (s:=1) (y:=fun _=>aD 1) (by kernel_rfl) (cells_one (by rfl)) (by rfl)]; rfl))<|av (aD 1099511627777)<|av (.agg (aA 14 (bH (bH (bH (bH (bH (bH (bH (fun a=>if a<1 then au 0 else if a<8 then aD 0 else if a<9 then .int .u8 (0)else if a<10 then aD 0 else if a<12 then au 0 else aD 0) 0 1 (fun _=>au 2)) 1 1 (fun _=>aD 1)) 2 6 (bH (rv .u64 (fun _=>0)) 0 1 (fun _=>aD 1))) 8 1 (fun _ => .int .u8 (3))) 9 1 (fun _=>aD 1099511627777)) 11 1 (fun _=>au 4)) 12 1 (fun _=>aD 1))))<|dP (Yw (v:=vB) A agX f (c.below r g) (fun j l=>by rcases j with _|_|_|_|_|_|_|_|_|_|_|_|_|_|j <;> first|rfl|omega)) (au 11) (by rw[Yy]) ?_
 intro w3 J;have⟨p,i⟩:=eZ J A r;refine av (au 11)<|aC<|ay<|av (pt lp)<|Lv (.agg (aA 6 (bH (rv .u64 (fun _=>0)) 0 1 (fun _=>aD 1)))) (Fx.vE (vs := [(0,aD 1)]) (s:=1) (m:=6) (x:=rv .u64 (fun _=>0)) rfl rfl Tryz.underlying30 (by kernel_rfl) (by kernel_rfl) (by rw[bC (off:=0) (s:=1) (y:=fun _=>aD 1) (by kernel_rfl) (cells_one (by rfl)) (by rfl)]; rfl))<|av (aD 1099511627777)<|av (.agg (aA 14 (bH (bH (bH (bH (bH (bH (bH (fun a=>if a<1 then au 0 else if a<8 then aD 0 else if a<9 then .int .u8 (0)else if a<10 then aD 0 else if a<12 then au 0 else aD 0) 0 1 (fun _=>au 1)) 1 1 (fun _=>aD 2)) 2 6 (bH (rv .u64 (fun _=>0)) 0 1 (fun _=>aD 1))) 8 1 (fun _ => .int .u8 (5))) 9 1 (fun _=>aD 1099511627777)) 10 1 (fun _=>au 2)) 11 1 (fun _=>au 4))))<|dP (yF (v:=vC) p agY f (c.below i g) (fun j l=>by rcases j with _|_|_|_|_|_|_|_|_|_|_|_|_|_|j <;> first|rfl|omega)) (au 0) (by rw[Yz]) ?_
 rintro w4 ⟨o,u⟩;have V:=p.q.typed u;have O:=p.q.xX u i.size;have k:=QG i O (z_ _);refine av (au 0)<|aC<|ay<|av (pt lp)<|Lv (.agg (aA 6 (bH (rv .u64 (fun _=>0)) 0 1 (fun _=>aD 2)))) (Fx.vE (vs := [(0,aD 2)]) (s:=1) (m:=6) (x:=rv .u64 (fun _=>0)) rfl rfl Tryz.underlying30 (by kernel_rfl) (by kernel_rfl) (by rw[bC (off:=0) (s:=1) (y:=fun _=>aD 2) (by kernel_rfl) (cells_one (by rfl)) (by rfl)]; rfl))<|av (aD 1099511627777)<|av (.agg (aA 14 (bH (bH (bH (bH (bH (bH (bH (fun a=>if a<1 then au 0 else if a<8 then aD 0 else if a<9 then .int .u8 (0)else if a<10 then aD 0 else if a<12 then au 0 else aD 0) 0 1 (fun _=>au 2)) 1 1 (fun _=>aD 1)) 2 6 (bH (rv .u64 (fun _=>0)) 0 1 (fun _=>aD 2))) 8 1 (fun _ => .int .u8 (3))) 9 1 (fun _=>aD 1099511627777)) 11 1 (fun _=>au 4)) 12 1 (fun _=>aD 1))))<|dP (yF (v:=vD) o agZ f (c.below k g) (fun j l=>by rcases j with _|_|_|_|_|_|_|_|_|_|_|_|_|_|j <;> first|rfl|omega)) (au 0) (by rw[YA]) ?_
 rintro w5 ⟨B,z⟩;have W:=o.q.typed z;have P:=o.q.xX z k.size;have D:=QG k P (z_ _);refine av (au 0)<|aC<|ay<|av (au 0)<|Lv aG (eY rfl)<|av aG<|av (au 11)<|Lv aG (eY rfl)<|av aG<|av aG<|av (au 0)<|Lv aG (eY rfl)<|av aG<|av aG<|av (au 0)<|Lv aG (eY rfl)<|av aG<|av aG<|av (pt lp)<|av (aD 1099511627777)<|dP (OY B 1 OZ (by omega)) (au 6) (by rw[YB]) ?_;intro w6 K;have⟨C,E⟩:=eZ K B D;refine Lv aG (eY rfl)<|av aG<|av aG<|av (pt lp)<|av (aD 1099511627777)<|dP (OY C 2 OZ (by omega)) (au 0) (by rw[YC]) ?_;intro w7 L;have⟨T,F⟩:=eZ L C E;refine Lv aG (eY rfl)<|av aG<|av aG<|av (pt lp)<|lK (Ji T (by omega)) ?_;rintro H w8 ⟨b,d,S,M⟩;refine⟨_,d,?_⟩;clear d;have G:=bG M F;have Q:b.gn=1:=(K_ CB.gn S.e).trans YD;refine Lv (.slice b.ga (b.gn) (b.gc)) (Fx.Pg (y:=nK b) rfl rfl Tryz.underlying53 rfl (by kernel_rfl) (by kernel_rfl) rfl)<|av (au b.gn)<|Lv aG (jc rfl rfl rfl (by rw[Q]; rfl))<|av aG<|av aG<|aC<|Wr<|aJ aG ?_;exact⟨rfl,G⟩
namespace Rt
structure Gc where
 who:Nat
 meet:Bool
 other:Nat
 kind:Nat
 node:Nat
 dst:Nat
 aT:Nat
 req:Nat
 of:Nat
structure HZ(x:Gc):Prop where
 who:x.who<=255
 other:x.other<=255
 kind:x.kind<=255
 node:x.node<=255
 dst:x.dst<=255
 aT:x.aT<=65535
 req:x.req<=255
 of:x.of<=255
def Gd(x:Gc):Nat->Value:=fun p=>if p=0 then .int .u8 (x.who:Int)else if p=1 then .bool x.meet else if p=2 then .int .u8 (x.other:Int)else if p=3 then .int .u8 (x.kind:Int)else if p=4 then .int .u8 (x.node:Int)else if p=5 then .int .u8 (x.dst:Int)else if p=6 then .int .u16 (x.aT:Int)else if p=7 then .int .u8 (x.req:Int)else .int .u8 (x.of:Int)
theorem Gf{k n r:Nat}(e:r=k % n):Int.tmod (k:Int) (n:Int)=(r:Int):=by
 rw[Int.tmod_eq_emod_of_nonneg (by omega),e];exact(Int.natCast_emod k n).symm
theorem Ea(V:EvM)(x:Int) : ∀ j,j<14->dB (bR V) 9 (aD x) j=bR { V with node:=x } j:=fun j a=>by
 rcases j with _|_|_|_|_|_|_|_|_|_|_|_|_|_|j <;> first|rfl|omega
theorem Vz(V:EvM)(x:Int) : ∀ j,j<14->dB (bR V) 10 (au x) j=bR ⟨V.o,V.seq,V.deps,V.kind,V.node,x,V.aT,V.req,V.of⟩ j:=fun j a=>by
 rcases j with _|_|_|_|_|_|_|_|_|_|_|_|_|_|j <;> first|rfl|omega
theorem FB(V:EvM)(x:Int) : ∀ j,j<14->dB (bR V) 11 (au x) j=bR { V with aT:=x } j:=fun j a=>by
 rcases j with _|_|_|_|_|_|_|_|_|_|_|_|_|_|j <;> first|rfl|omega
theorem VA(V:EvM)(x:Int) : ∀ j,j<14->dB (bR V) 12 (aD x) j=bR { V with req:=x } j:=fun j a=>by
 rcases j with _|_|_|_|_|_|_|_|_|_|_|_|_|_|j <;> first|rfl|omega
theorem aha(V:EvM)(x:Int) : ∀ j,j<14->dB (bR V) 13 (aD x) j=bR { V with of:=x } j:=fun j a=>by
 rcases j with _|_|_|_|_|_|_|_|_|_|_|_|_|_|j <;> first|rfl|omega
end Rt
set_option maxRecDepth 20000 in
set_option maxHeartbeats 2000000 in
theorem YE(M:WM)(B p T:Nat)(x:Gc)(w:World)(Z:nW w B p M T)(hx:HZ x) :
 Calls Tryz.prog 38 #[(pt p),.agg (aA 9 (Gd x))] w fun e w' => ∃ V,fZ V/\nV V/\(V.o=((x.who % M.n:Nat):Int)+1/\V.seq=(M.ml (x.who % M.n)).s.known (x.who % M.n)+1/\V.deps=(M.ml (x.who % M.n)).s.known)/\e = .returned (.agg (aA 14 (bR V)))/\Below w.heap.size w w':=by
 have hWc:=Z.c;have hWl:=Z.l;have hWa:=Z.a;have hWg:=Z.g;have hn1:=Z.n1;have hn6:=Z.n6;have hpB:=Z.pB;have lpp:p<w.heap.size:=hWc.lt;have hxw:=hx.who;have hxo:=hx.other;have hxk:=hx.kind;have hxn:=hx.node;have hxt:=hx.dst;have hxa:=hx.aT;have hxr:=hx.req;have hxf:=hx.of;refine Kent Tryz.func38 143 ?_;refine ay<|qM fun G w1 kU m1 s1 z1 => ?_;have⟨m2,m3,m4,m5,b1⟩:=wR s1.old hWc hWl hWa hWg (Below.refl w.heap.size w);have tC:=iq kU;have nD:=cK kU hWc.lt;have uU:=m1.lt;refine wX 14 (fun h=>if h<1 then au 0 else if h<8 then aD 0 else if h<9 then .int .u8 (0)else if h<10 then aD 0 else if h<12 then au 0 else aD 0) fun U w2 Ad m6 s2 z2 => ?_;have⟨m7,m8,m9,m10,m11,b2⟩:=sV s2.old m2 m3 m4 m5 m1 b1;have rU:=jE Ad b1.size;have TA:=cK Ad m2.lt;have OC:(.slice M.aa (M.an) (M.ac):Value).ownBlock≠some U:=by rw[Ad]; exact m4.jK (z_ _)
 have Fb:=cK Ad m1.lt;have Av:=m6.lt;refine aC<|Ws ?_;obtain⟨o,eo⟩ : ∃ r,r=x.who % M.n:=⟨_,rfl⟩;have ho:o<M.n:=by rw[eo]; exact I_ _ (by omega)
 refine xC<|aU (pt G)<|Qv (.int .u8 (x.who:Int)) (fun E D=>aN (m11.aI.dr D) 0)<|Qv (au x.who) (fun E D=>dD rfl rfl (by kernel_rfl) Tryz.underlying3 (iN (by omega) rfl))<|aU (pt p)<|aU (pt p)<|aU (pt p)<|Qv (.slice M.la (M.n) (M.lc)) (fun E D=>aN (m7.aI.dr D) 0)<|aU (au M.n)<|Qv (au o) (fun E D=>Fx.yZ rfl rfl rfl (by omega) (Gf eo))<|aU (au o)<|Qn ?_;rintro _ ⟨qd,rfl⟩;obtain⟨Cy,rG⟩ : ∃ E,E=World.drewN w2 qd:=⟨_,rfl⟩;rw[<- rG];have s3:Stp w2.heap.size w2 Cy:=by rw[rG]; exact Sb (jF w2 qd)
 have⟨m12,m13,m14,m15,m16,m17,b3⟩:=jM s3.old m7 m8 m9 m10 m11 m6 b2;clear rG;refine sN<|ay<|av (pt p)<|av (pt p)<|av (pt p)<|Lv (.slice M.la (M.n) (M.lc)) (aN m12.aI 0)<|av (au o) ?_;obtain⟨ED,eq1⟩:=m13.addr (by omega);have m18:Fx.Own Cy B 72 1 (bM ED M.n M.lc) M.n (Hy M.pl):=m13.fF (K_ (fun q=>Value.slice q M.n M.lc) eq1);refine Lv (pf ED o) (dh 1 (hx:=(rfl.trans (K_ (fun q=>Value.slice q (M.n) (M.lc)) eq1))))<|Lv (pt (M.pl o)) (aN m18.aI o)<|av (pt (M.pl o))<|aC<|Ws ?_;obtain⟨H,ahb⟩ : ∃ r,r=x.kind % 7:=⟨_,rfl⟩;have awe:H<7:=by rw[ahb]; exact I_ _ (by omega)
 have YF:=m15 o (by omega);have FC:=YF.c;have ahc:=YF.n;have hkn:=(Z.inv o (by omega)).kn;have hko:=hkn o (by omega);have hko:0<=(M.ml o).s.known o/\(M.ml o).s.known o<1099511627776:=hko;have hU : ∀ k,k<(M.ml o).s.nn->je ((M.ml o).id k):=fun k hk=>by have Y:=(Z.inv o (by omega)).pos k hk; have I:=(Z.inv o (by omega)).top k hk; exact⟨by show(0:Int)<=(M.ml o).core.id k; omega,by show(M.ml o).core.id k<=_; omega⟩
 have hbn:=(Z.g o (by omega)).bn;refine qR (T:=32) (T':=32) (a := .tmp 7) (v := .tmp 44) (m:=14) (z:=fun h=>if h<1 then au 0 else if h<8 then aD 0 else if h<9 then .int .u8 (0)else if h<10 then aD 0 else if h<12 then au 0 else aD 0) (y:=bH (bH (bH (bH (fun h=>if h<1 then au 0 else if h<8 then aD 0 else if h<9 then .int .u8 (0)else if h<10 then aD 0 else if h<12 then au 0 else aD 0) 0 1 (fun _=>au ((o:Int)+1))) 1 1 (fun _=>aD ((M.ml o).s.known o+1))) 2 6 (rv .u64 ((M.ml o).s.known))) 8 1 (fun _ => .int .u8 ((H:Int)+1))) (u := .agg (aA 14 (bH (bH (bH (bH (fun h=>if h<1 then au 0 else if h<8 then aD 0 else if h<9 then .int .u8 (0)else if h<10 then aD 0 else if h<12 then au 0 else aD 0) 0 1 (fun _=>au ((o:Int)+1))) 1 1 (fun _=>aD ((M.ml o).s.known o+1))) 2 6 (rv .u64 ((M.ml o).s.known))) 8 1 (fun _ => .int .u8 ((H:Int)+1))))) 20 21 (List.replicate 22 (0,2,[],[])) #[au (o:Int),au ((o:Int)+1),(pt (M.pl o)),au (o:Int),(pt (M.pl o)),(pt (M.pl o)),(pf (M.pl o) 12),(pf (M.pl o) (o+12)),aD ((M.ml o).s.known o),aD ((M.ml o).s.known o+1),(pt (M.pl o)),(pt (M.pl o)),(pt (M.pl o)),(pf (M.pl o) 12),.agg (aA 6 (rv .u64 ((M.ml o).s.known))),(pf G 3),.int .u8 (x.kind:Int),.int .u8 (H:Int),.int .u8 ((H:Int)+1),.agg (aA 14 (bH (bH (bH (bH (fun h=>if h<1 then au 0 else if h<8 then aD 0 else if h<9 then .int .u8 (0)else if h<10 then aD 0 else if h<12 then au 0 else aD 0) 0 1 (fun _=>au ((o:Int)+1))) 1 1 (fun _=>aD ((M.ml o).s.known o+1))) 2 6 (rv .u64 ((M.ml o).s.known))) 8 1 (fun _ => .int .u8 ((H:Int)+1)))),undef,undef] (by kernel_rfl) (by kernel_rfl) (by kernel_rfl) (by kernel_rfl) (by kernel_rfl) (by kernel_rfl) rfl (by kernel_rfl) rfl rfl (by kernel_rfl) (fun A=>(show ev _ (.tmp 7)=(pt A)from by kernel_rfl)) (fun A=>(show ev _ (.tmp 44) = .agg (aA 14 (bH (bH (bH (bH (fun h=>if h<1 then au 0 else if h<8 then aD 0 else if h<9 then .int .u8 (0)else if h<10 then aD 0 else if h<12 then au 0 else aD 0) 0 1 (fun _=>au ((o:Int)+1))) 1 1 (fun _=>aD ((M.ml o).s.known o+1))) 2 6 (rv .u64 ((M.ml o).s.known))) 8 1 (fun _ => .int .u8 ((H:Int)+1))))from by kernel_rfl)) (bI _ _) (bV (bV (bV (bV (fun jq _=>by show((fun h=>if h<1 then au 0 else if h<8 then aD 0 else if h<9 then .int .u8 (0)else if h<10 then aD 0 else if h<12 then au 0 else aD 0:Nat->Value) jq).oneCell'=true; simp only[]; repeat (first|rfl|split)) (fun _ _=>rfl)) (fun _ _=>rfl)) (fun _ _=>rfl)) (fun _ _=>rfl)) (by kernel_rfl) (fun A => ?_) ?_
 ·refine⟨?_,?_,?_,?_,?_,?_,?_,?_,?_,?_,?_,?_,?_,?_,?_,?_,?_,?_,?_,?_,?_,?_,trivial⟩
  ·exact .inr (.inr pU)
  ·exact .inr (.inr (rX (au ((o:Int)+1)) fun E D=>Fx.JA rfl (show ev _ (.tmp 25)=au (o:Int)from by kernel_rfl) (show ev _ (.const (au 1))=au 1 from by kernel_rfl) Fx.io))
  ·exact .inr (.inr pU)
  ·exact .inr (.inr pU)
  ·exact .inr (.inr pU)
  ·exact .inr (.inr pU)
  ·exact .inr (.inr pU)
  ·exact .inr (.inr (rX (pf (M.pl o) (o+12)) fun E D=>gL rfl (show ev _ (.tmp 31)=(pf (M.pl o) 12)from by kernel_rfl) (show ev _ (.tmp 28)=au (o:Int)from by kernel_rfl) Tryz.underlying30 (s:=1) (by kernel_rfl) (by omega) (by omega) (by omega)))
  ·exact .inr (.inr (rX (aD ((M.ml o).s.known o)) fun E D=>bA (x:=mE (M.ml o)) rfl (show ev _ (.tmp 32)=(pf (M.pl o) (o+12))from by kernel_rfl) (by kernel_rfl) (FC.aI.below D (by have:=FC.lt; omega)) (i:=o+12) (by omega) (by omega) (lN _ (by omega) (jV _ (by omega) (by omega)))))
  ·exact .inr (.inr (rX (aD ((M.ml o).s.known o+1)) fun E D=>Fx.JA rfl (show ev _ (.tmp 33)=aD ((M.ml o).s.known o)from by kernel_rfl) (show ev _ (.const (aD 1))=aD 1 from by kernel_rfl) (jJ (by omega) (by omega))))
  ·exact .inr (.inr pU)
  ·exact .inr (.inr pU)
  ·exact .inr (.inr pU)
  ·exact .inr (.inr pU)
  ·exact .inr (.inr (rX (.agg (aA 6 (rv .u64 ((M.ml o).s.known)))) fun E D=>eG (x:=mE (M.ml o)) (y:=rv .u64 ((M.ml o).s.known)) rfl (show ev _ (.tmp 38)=(pf (M.pl o) 12)from by kernel_rfl) (by kernel_rfl) (by kernel_rfl) (FC.aI.below D (by have:=FC.lt; omega)) (i:=12) (by omega) (by omega) (fun j C=>lN _ (by omega) (jV _ C (by omega)))))
  ·exact .inr (.inr pU)
  ·exact .inr (.inr (rX (.int .u8 (x.kind:Int)) fun E D=>bA (x:=Gd x) rfl (show ev _ (.tmp 40)=(pf G 3)from by kernel_rfl) (by kernel_rfl) (m16.aI.below D (by have:=m16.lt; omega)) (i:=3) (by omega) (by omega) rfl))
  ·exact .inr (.inr (rX (.int .u8 (H:Int)) fun E D=>Fx.yZ rfl (show ev _ (.tmp 41) = .int .u8 (x.kind:Int)from by kernel_rfl) (show ev _ (.const (.int .u8 (7))) = .int .u8 (7)from by kernel_rfl) (by omega) (Gf ahb)))
  ·exact .inr (.inr (rX (.int .u8 ((H:Int)+1)) fun E D=>Fx.JA rfl (show ev _ (.const (.int .u8 (1))) = .int .u8 (1)from by kernel_rfl) (show ev _ (.tmp 42) = .int .u8 (H:Int)from by kernel_rfl) (Fx.u8e (by omega) (by omega))))
  ·exact .inr (.inr (rX (.agg (aA 14 (bH (bH (bH (bH (fun h=>if h<1 then au 0 else if h<8 then aD 0 else if h<9 then .int .u8 (0)else if h<10 then aD 0 else if h<12 then au 0 else aD 0) 0 1 (fun _=>au ((o:Int)+1))) 1 1 (fun _=>aD ((M.ml o).s.known o+1))) 2 6 (rv .u64 ((M.ml o).s.known))) 8 1 (fun _ => .int .u8 ((H:Int)+1))))) fun E D=>gu (vs := [(0,au ((o:Int)+1)),(1,aD ((M.ml o).s.known o+1)),(2,.agg (aA 6 (rv .u64 ((M.ml o).s.known)))),(3,.int .u8 ((H:Int)+1))]) (places := #[(0,1),(1,1),(2,6),(8,1),(9,1),(10,1),(11,1),(12,1),(13,1)]) (m:=14) (x:=fun h=>if h<1 then au 0 else if h<8 then aD 0 else if h<9 then .int .u8 (0)else if h<10 then aD 0 else if h<12 then au 0 else aD 0) rfl (Fx.aah (show ev _ (.tmp 26)=au ((o:Int)+1)from by kernel_rfl) (show ev _ (.tmp 34)=aD ((M.ml o).s.known o+1)from by kernel_rfl) (show ev _ (.tmp 39) = .agg (aA 6 (rv .u64 ((M.ml o).s.known)))from by kernel_rfl) (show ev _ (.tmp 43) = .int .u8 ((H:Int)+1)from by kernel_rfl)) Tryz.underlying32 (by kernel_rfl) (by kernel_rfl) (by rw[bC (off:=0) (s:=1) (y:=fun _=>au ((o:Int)+1)) (by kernel_rfl) (cells_one (by rfl)) (by rfl)]; rw[bC (off:=1) (s:=1) (y:=fun _=>aD ((M.ml o).s.known o+1)) (by kernel_rfl) (cells_one (by rfl)) (by rfl)]; rw[bC (off:=2) (s:=6) (y:=rv .u64 ((M.ml o).s.known)) (by kernel_rfl) (bI _ _) (by rfl)]; rw[bC (off:=8) (s:=1) (y:=fun _ => .int .u8 ((H:Int)+1)) (by kernel_rfl) (cells_one (by rfl)) (by rfl)]; rfl)))
  ·exact .inl rfl
  exact .inr (.inl rfl)
 rintro A w3 f1 hf1 Es m19 hb1;have adk:p≠A:=t_ (n_ (m12.lt) Es);have apr:G≠A:=t_ (n_ (m16.lt) Es);have adi:U≠A:=t_ (n_ (m17.lt) Es);have aps:ED≠A:=t_ (n_ (m18.lt) Es);have ahd:(M.pl o)≠A:=t_ (n_ (FC.lt) Es);have adl:(.slice M.aa (M.an) (M.ac):Value).ownBlock≠some A:=fun e=>by have:=(m14.ge e).2; omega
 have⟨m22,m23,m24,mY,oJ,b4⟩:=sV hb1 m15 m16 m17 m18 ahc b3;have Es:w.heap.size<=A:=m_ b3.size Es;have Mr:=m19.lt;have q1:f1 3=(pt G):=by rw[hf1]; kernel_rfl
 have q2:f1 4=(pt U):=by rw[hf1]; kernel_rfl
 have q3:f1 6=(pt (M.pl o)):=by rw[hf1]; kernel_rfl
 have q4:f1 7=(pt A):=by rw[hf1]; kernel_rfl
 clear hf1;refine sN<|Ws ?_;obtain⟨d,eV0⟩ : ∃ V:EvM,V=(⟨(o:Int)+1,(M.ml o).s.known o+1,(M.ml o).s.known,(H:Int)+1,0,0,0,0,0⟩:EvM):=⟨_,rfl⟩;have hz1:je 0:=⟨by decide,by decide⟩;have hz2:rz 0:=⟨by decide,by decide⟩;have t:fZ d:=by rw[eV0]; exact⟨⟨by show(_:Int)<=(o:Int)+1; omega,by show(o:Int)+1<=_; omega⟩,⟨by show(0:Int)<=(M.ml o).s.known o+1; omega,by show(M.ml o).s.known o+1<=_; omega⟩,fun i hi=>⟨(hkn i hi).1,by have q:(M.ml o).s.known i<1099511627776:=(hkn i hi).2; show(M.ml o).s.known i<=_; omega⟩,⟨by show(0:Int)<=(H:Int)+1; omega,by show(H:Int)+1<=255; omega⟩,hz1,hz2,hz2,hz1,hz1⟩
 have ou:aQ w3 A 14 (bR d) 32:=m19.congr (fun j C=>by rw[eV0]; rcases j with _|_|_|_|_|_|_|_|_|_|_|_|_|_|j <;> first|rfl|omega|exact K_ (Value.int .u8) (by omega))
 have X:nV d:=by rw[eV0]; exact⟨by show(0:Int)<=_; decide,by show(0:Int)<=_; decide⟩
 have hd0:d.o=(o:Int)+1/\d.seq=(M.ml o).s.known o+1/\d.deps=(M.ml o).s.known:=by rw[eV0]; exact⟨rfl,rfl,rfl⟩
 have ek0:d.kind=(H:Int)+1:=by rw[eV0]
 refine Wl<|av (aD 0)<|aC ?_;have qo:Fx.Own w3 B 72 1 (.slice M.la (M.n) (M.lc)) M.n (Hy M.pl):=mY.fF (K_ (fun q=>Value.slice q M.n M.lc) eq1.symm);refine Cv (fun f w_ => ∃ nd:Int,je nd/\f 3=(pt G)/\f 4=(pt U)/\f 7=(pt A)/\f 8=aD nd/\aQ w_ G 9 (Gd x) 36/\aQ w_ U 14 (fun h=>if h<1 then au 0 else if h<8 then aD 0 else if h<9 then .int .u8 (0)else if h<10 then aD 0 else if h<12 then au 0 else aD 0) 32/\aQ w_ A 14 (bR d) 32/\Below w.heap.size w w_) ?_ ?_
 ·refine Ws ?_;have YG:=m22 o (by omega);have VB:=YG.c;have ash:=YG.n;refine Wl<|aS q3<|av (pt (M.pl o))<|av (pt (M.pl o))<|av (pf (M.pl o) 18)<|Lv (.slice (M.ml o).s.na ((M.ml o).s.nn) ((M.ml o).s.nc)) (aN VB.aI 18)<|av (au (((M.ml o).s.nn:Nat):Int))<|Lv (.bool (decide (0<(((M.ml o).s.nn:Nat):Int)))) (Fx.Q9 rfl rfl rfl)<|aC<|Wc (b:=decide (0<(((M.ml o).s.nn:Nat):Int))) rfl (fun c51 => ?_)<|fun c51 => ?_
  ·have c51:=h_ c51;obtain⟨Wq,ahf⟩ : ∃ r,r=x.node % (M.ml o).s.nn:=⟨_,rfl⟩;have apt:Wq<(M.ml o).s.nn:=(by rw[ahf]; exact I_ _ (by omega));refine xC<|dX q3<|aU (pt (M.pl o))<|aU (pt (M.pl o))<|aU (pf (M.pl o) 18)<|Qv (.slice (M.ml o).s.na ((M.ml o).s.nn) ((M.ml o).s.nc)) (fun E D=>aN (VB.aI.dr D) 18)<|Qv (pf G 4) (fun E D=>ji q1 4)<|Qv (.int .u8 (x.node:Int)) (fun E D=>aN (m23.aI.dr D) 4)<|Qv (au x.node) (fun E D=>dD rfl rfl (by kernel_rfl) Tryz.underlying3 (iN (by omega) rfl))<|dX q3<|aU (pt (M.pl o))<|aU (pt (M.pl o))<|aU (pf (M.pl o) 18)<|Qv (.slice (M.ml o).s.na ((M.ml o).s.nn) ((M.ml o).s.nc)) (fun E D=>aN (VB.aI.dr D) 18)<|aU (au (((M.ml o).s.nn:Nat):Int))<|Qv (au Wq) (fun E D=>Fx.yZ rfl rfl rfl (by omega) (Gf ahf)) ?_;obtain⟨QW,DV⟩:=oJ.addr (by omega);have oP:Fx.Own w3 B 61 56 (.slice (some ⟨QW,0,none⟩) ((M.ml o).s.nn) ((M.ml o).s.nc)) ((M.ml o).s.nn) (Jt (M.ml o)):=oJ.fF (K_ (fun q=>Value.slice q ((M.ml o).s.nn) ((M.ml o).s.nc)) DV);refine Qv (pf QW (56*Wq)) (fun E D=>dh 56 (hx:=(rfl.trans (K_ (fun q=>Value.slice q ((M.ml o).s.nn) ((M.ml o).s.nc)) DV))))<|aU (pf QW (56*Wq))<|Qv (aD ((M.ml o).id Wq)) (fun E D=>aN (oP.aI.dr D) (56*Wq) (Fx.fQ (k:=Wq) (j:=0) (by omega) (by omega) rfl))<|aU (aD ((M.ml o).id Wq))<|Qn ?_;rintro _ ⟨qd,rfl⟩;obtain⟨wq2,vW⟩ : ∃ E,E=World.drewN w3 qd:=⟨_,rfl⟩;rw[<- vW];have s5:Stp w3.heap.size w3 wq2:=(by rw[vW]; exact Sb (jF w3 qd));have⟨nT,pY,rQ,rT,b5⟩:=wR s5.old m23 m24 ou oP b4;clear vW;have mZ:Fx.Own wq2 B 61 56 (.slice (M.ml o).s.na ((M.ml o).s.nn) ((M.ml o).s.nc)) ((M.ml o).s.nn) (Jt (M.ml o)):=rT.fF (K_ (fun q=>Value.slice q ((M.ml o).s.nn) ((M.ml o).s.nc)) DV.symm);exact vM ⟨((M.ml o).id Wq),(hU Wq apt),q1,q2,q4,Fx.ic,nT,pY,rQ,b5⟩
  have c51:=j_ c51;refine Wk ?_;exact vM ⟨0,⟨by decide,by decide⟩,q1,q2,q4,Fx.ic,m23,m24,ou,b4⟩
 rintro f2 w4 ⟨nd,O4,Y,I,F,h4,mP,nR,K,J⟩;refine Ws<|ay<|Lv (pf A 8) (ji F 8)<|Lv (.int .u8 (d.kind)) (aN K.aI 8)<|aC<|Wb<|ay ?_;by_cases c73:d.kind=1
 ·refine Lv aG (eY c73)<|av aG<|aC<|aO<|Ws<|Ws ?_;obtain⟨r76,ahg⟩ : ∃ r,r=x.node % 2:=⟨_,rfl⟩;have awf:r76<2:=by rw[ahg]; exact I_ _ (by omega)
  refine Wl<|Lv (pf G 4) (ji Y 4)<|Lv (.int .u8 (x.node:Int)) (aN mP.aI 4)<|Lv (.int .u8 (r76:Int)) (Fx.yZ rfl rfl rfl (by omega) (Gf ahg)) ?_;by_cases c77:(r76:Int)=1
  ·refine Lv aG (eY c77)<|aC<|aO<|Wl<|aS h4<|Lv (pf A 9) (ji F 9)<|jh K 9 (aD nd) fun w5 qE s6 z3 => ?_;obtain⟨L,eV1⟩ : ∃ V:EvM,V=⟨d.o,d.seq,d.deps,d.kind,nd,d.dst,d.aT,d.req,d.of⟩:=⟨_,rfl⟩;have La:fZ L:=(by rw[eV1]; exact⟨t.o,t.seq,t.deps,t.kind,O4,t.dst,t.aT,t.req,t.of⟩);have apv:L.o=(o:Int)+1/\L.seq=(M.ml o).s.known o+1/\L.deps=(M.ml o).s.known:=(by rw[eV1]; exact hd0);have apw:nV L:=(by rw[eV1]; exact⟨X.aT,X.req⟩);have nE:aQ w5 A 14 (bR L) 32:=qE.congr (fun j C=>by rw[eV1]; exact Ea _ _ j C);have gN:=iC s6 K.ty;have qF:=kY gN mP;have wJ:=nR.cZ s6 (by omega);have b7:=s6.below J J.size (by omega);refine aC<|Wl<|Lv (pf G 6) (ji Y 6)<|Lv (.int .u16 (x.aT:Int)) (aN qF.aI 6)<|Lv (au x.aT) (dD rfl rfl (by kernel_rfl) Tryz.underlying2 (iN (by omega) rfl))<|Lv (pf A 11) (ji F 11)<|jh nE 11 (au x.aT) fun w6 rY s7 z4 => ?_;obtain⟨V2,eV2⟩ : ∃ V:EvM,V=⟨L.o,L.seq,L.deps,L.kind,L.node,L.dst,(x.aT:Int),L.req,L.of⟩:=⟨_,rfl⟩;have apx:fZ V2:=(by rw[eV2]; exact⟨La.o,La.seq,La.deps,La.kind,La.node,La.dst,(show rz (x.aT:Int)from⟨by omega,by omega⟩),La.req,La.of⟩);have apy:V2.o=(o:Int)+1/\V2.seq=(M.ml o).s.known o+1/\V2.deps=(M.ml o).s.known:=(by rw[eV2]; exact apv);have apz:nV V2:=(by rw[eV2]; exact⟨by show(x.aT:Int)<=65536; omega,apw.req⟩);have sJ:aQ w6 A 14 (bR V2) 32:=rY.congr (fun j C=>by rw[eV2]; exact FB _ _ j C);have uy:=wJ.cZ s7 (by omega);have b8:=s7.below b7 b7.size (by omega);refine Ln<|bO<|sN<|ay<|Lv (.agg (aA 14 (bR V2))) (fG sJ.aI 0 (ha:=F))<|fH uy 0 (ha:=I) (h1:=(iJ _)) fun w7 tY s8 z5 => ?_;have uz:aQ w7 U 14 (bR V2) 32:=aX tY;have tZ:=sJ.cZ s8 (by omega);have b9:=s8.below b8 b8.size (by omega);refine aC (Wr (⟨.agg (aA 14 (bR V2)),rV Tryz.results38 ⟨_,I,aW uz.aI (by kernel_rfl) (by kernel_rfl)⟩,?_⟩));exact⟨V2,apx,apz,by rw[<- eo]; exact apy,rfl,b9⟩
  refine Lv aF (gy c77)<|aC<|aK<|Wk<|sN<|Wl<|Lv (pf G 6) (ji Y 6)<|Lv (.int .u16 (x.aT:Int)) (aN mP.aI 6)<|Lv (au x.aT) (dD rfl rfl (by kernel_rfl) Tryz.underlying2 (iN (by omega) rfl))<|Lv (pf A 11) (ji F 11)<|jh K 11 (au x.aT) fun w8 sK s9 z6 => ?_;obtain⟨V3,eV3⟩ : ∃ V:EvM,V=⟨d.o,d.seq,d.deps,d.kind,d.node,d.dst,(x.aT:Int),d.req,d.of⟩:=⟨_,rfl⟩;have apA:fZ V3:=by rw[eV3]; exact⟨t.o,t.seq,t.deps,t.kind,t.node,t.dst,(show rz (x.aT:Int)from⟨by omega,by omega⟩),t.req,t.of⟩
  have apB:V3.o=(o:Int)+1/\V3.seq=(M.ml o).s.known o+1/\V3.deps=(M.ml o).s.known:=by rw[eV3]; exact hd0
  have apC:nV V3:=by rw[eV3]; exact⟨by show(x.aT:Int)<=65536; omega,X.req⟩
  have uf:aQ w8 A 14 (bR V3) 32:=sK.congr (fun j C=>by rw[eV3]; exact FB _ _ j C);have qb:=nR.cZ s9 (by omega);have b10:=s9.below J J.size (by omega);refine Ln<|bO<|sN<|ay<|Lv (.agg (aA 14 (bR V3))) (fG uf.aI 0 (ha:=F))<|fH qb 0 (ha:=I) (h1:=(iJ _)) fun w9 wK s10 z7 => ?_;have nY:aQ w9 U 14 (bR V3) 32:=aX wK;have m64:=uf.cZ s10 (by omega);have b11:=s10.below b10 b10.size (by omega);refine aC (Wr (⟨.agg (aA 14 (bR V3)),rV Tryz.results38 ⟨_,I,aW nY.aI (by kernel_rfl) (by kernel_rfl)⟩,?_⟩));exact⟨V3,apA,apC,by rw[<- eo]; exact apB,rfl,b11⟩
 refine Lv aF (gy c73)<|av aF<|aC<|aK<|ay ?_;by_cases c85:d.kind=2
 ·refine Lv aG (eY c85)<|av aG<|aC<|aO<|ay<|aS h4<|Lv (pf A 9) (ji F 9)<|jh K 9 (aD nd) fun tH wS s11 z8 => ?_;obtain⟨P,eV4⟩ : ∃ V:EvM,V=⟨d.o,d.seq,d.deps,d.kind,nd,d.dst,d.aT,d.req,d.of⟩:=⟨_,rfl⟩;have Lb:fZ P:=by rw[eV4]; exact⟨t.o,t.seq,t.deps,t.kind,O4,t.dst,t.aT,t.req,t.of⟩
  have apD:P.o=(o:Int)+1/\P.seq=(M.ml o).s.known o+1/\P.deps=(M.ml o).s.known:=by rw[eV4]; exact hd0
  have apE:nV P:=by rw[eV4]; exact⟨X.aT,X.req⟩
  have wL:aQ tH A 14 (bR P) 32:=wS.congr (fun j C=>by rw[eV4]; exact Ea _ _ j C);have yO:=iC s11 K.ty;have wT:=kY yO mP;have wU:=nR.cZ s11 (by omega);have b12:=s11.below J J.size (by omega);refine aC<|Wl<|Lv (pf G 6) (ji Y 6)<|Lv (.int .u16 (x.aT:Int)) (aN wT.aI 6)<|Lv (au x.aT) (dD rfl rfl (by kernel_rfl) Tryz.underlying2 (iN (by omega) rfl))<|Lv (au ((x.aT:Int)+1)) eT<|Lv (pf A 11) (ji F 11)<|jh wL 11 (au ((x.aT:Int)+1)) fun FT rZ s12 z9 => ?_;obtain⟨V5,eV5⟩ : ∃ V:EvM,V=⟨P.o,P.seq,P.deps,P.kind,P.node,P.dst,(x.aT:Int)+1,P.req,P.of⟩:=⟨_,rfl⟩;have apF:fZ V5:=by rw[eV5]; exact⟨Lb.o,Lb.seq,Lb.deps,Lb.kind,Lb.node,Lb.dst,(show rz ((x.aT:Int)+1)from⟨by omega,by omega⟩),Lb.req,Lb.of⟩
  have apG:V5.o=(o:Int)+1/\V5.seq=(M.ml o).s.known o+1/\V5.deps=(M.ml o).s.known:=by rw[eV5]; exact apD
  have apH:nV V5:=by rw[eV5]; exact⟨by show(x.aT:Int)+1<=65536; omega,apE.req⟩
  have uW:aQ FT A 14 (bR V5) 32:=rZ.congr (fun j C=>by rw[eV5]; exact FB _ _ j C);have wM:=wU.cZ s12 (by omega);have b13:=s12.below b12 b12.size (by omega);refine Ln<|bO<|sN<|ay<|Lv (.agg (aA 14 (bR V5))) (fG uW.aI 0 (ha:=F))<|fH wM 0 (ha:=I) (h1:=(iJ _)) fun Dn uX s13 z10 => ?_;have zk:aQ Dn U 14 (bR V5) 32:=aX uX;have yP:=uW.cZ s13 (by omega);have b14:=s13.below b13 b13.size (by omega);refine aC (Wr (⟨.agg (aA 14 (bR V5)),rV Tryz.results38 ⟨_,I,aW zk.aI (by kernel_rfl) (by kernel_rfl)⟩,?_⟩));exact⟨V5,apF,apH,by rw[<- eo]; exact apG,rfl,b14⟩
 refine Lv aF (gy c85)<|av aF<|aC<|aK<|ay ?_;by_cases c94:d.kind=3
 ·refine Lv aG (eY c94)<|av aG<|aC<|aO<|ay<|aS h4<|Lv (pf A 9) (ji F 9)<|jh K 9 (aD nd) fun Gz yQ Dm z11 => ?_;obtain⟨Q,eV6⟩ : ∃ V:EvM,V=⟨d.o,d.seq,d.deps,d.kind,nd,d.dst,d.aT,d.req,d.of⟩:=⟨_,rfl⟩;have Lc:fZ Q:=by rw[eV6]; exact⟨t.o,t.seq,t.deps,t.kind,O4,t.dst,t.aT,t.req,t.of⟩
  have apI:Q.o=(o:Int)+1/\Q.seq=(M.ml o).s.known o+1/\Q.deps=(M.ml o).s.known:=by rw[eV6]; exact hd0
  have apJ:nV Q:=by rw[eV6]; exact⟨X.aT,X.req⟩
  have yR:aQ Gz A 14 (bR Q) 32:=yQ.congr (fun j C=>by rw[eV6]; exact Ea _ _ j C);have abR:=iC Dm K.ty;have wZ:=kY abR mP;have wV:=nR.cZ Dm (by omega);have b15:=Dm.below J J.size (by omega);refine aC<|ay<|Lv (pf G 6) (ji Y 6)<|Lv (.int .u16 (x.aT:Int)) (aN wZ.aI 6)<|Lv (au x.aT) (dD rfl rfl (by kernel_rfl) Tryz.underlying2 (iN (by omega) rfl))<|Lv (au ((x.aT:Int)+1)) eT<|Lv (pf A 11) (ji F 11)<|jh yR 11 (au ((x.aT:Int)+1)) fun NW vO s15 z12 => ?_;obtain⟨R,eV7⟩ : ∃ V:EvM,V=⟨Q.o,Q.seq,Q.deps,Q.kind,Q.node,Q.dst,(x.aT:Int)+1,Q.req,Q.of⟩:=⟨_,rfl⟩;have Ld:fZ R:=by rw[eV7]; exact⟨Lc.o,Lc.seq,Lc.deps,Lc.kind,Lc.node,Lc.dst,(show rz ((x.aT:Int)+1)from⟨by omega,by omega⟩),Lc.req,Lc.of⟩
  have apK:R.o=(o:Int)+1/\R.seq=(M.ml o).s.known o+1/\R.deps=(M.ml o).s.known:=by rw[eV7]; exact apI
  have apL:nV R:=by rw[eV7]; exact⟨by show(x.aT:Int)+1<=65536; omega,apJ.req⟩
  have xJ:aQ NW A 14 (bR R) 32:=vO.congr (fun j C=>by rw[eV7]; exact FB _ _ j C);have ahh:=iC s15 yR.ty;have zF:=kY ahh wZ;have xK:=wV.cZ s15 (by omega);have b16:=s15.below b15 b15.size (by omega);refine aC<|Wl<|Lv (pf G 7) (ji Y 7)<|Lv (.int .u8 (x.req:Int)) (aN zF.aI 7)<|Lv (aD x.req) (dD rfl rfl (by kernel_rfl) Tryz.underlying28 (jJ (by omega) rfl))<|Lv (aD ((x.req:Int)+1)) eT<|Lv (pf A 12) (ji F 12)<|jh xJ 12 (aD ((x.req:Int)+1)) fun Mj Aq s16 z13 => ?_;obtain⟨V8,eV8⟩ : ∃ V:EvM,V=⟨R.o,R.seq,R.deps,R.kind,R.node,R.dst,R.aT,(x.req:Int)+1,R.of⟩:=⟨_,rfl⟩;have apM:fZ V8:=by rw[eV8]; exact⟨Ld.o,Ld.seq,Ld.deps,Ld.kind,Ld.node,Ld.dst,Ld.aT,(show je ((x.req:Int)+1)from⟨by omega,by omega⟩),Ld.of⟩
  have apN:V8.o=(o:Int)+1/\V8.seq=(M.ml o).s.known o+1/\V8.deps=(M.ml o).s.known:=by rw[eV8]; exact apK
  have apO:nV V8:=by rw[eV8]; exact⟨apL.aT,by show(x.req:Int)+1<=256; omega⟩
  have Ar:aQ Mj A 14 (bR V8) 32:=Aq.congr (fun j C=>by rw[eV8]; exact VA _ _ j C);have zG:=xK.cZ s16 (by omega);have b17:=s16.below b16 b16.size (by omega);refine Ln<|bO<|sN<|ay<|Lv (.agg (aA 14 (bR V8))) (fG Ar.aI 0 (ha:=F))<|fH zG 0 (ha:=I) (h1:=(iJ _)) fun w16 zH Jr z14 => ?_;have Au:aQ w16 U 14 (bR V8) 32:=aX zH;have Dr:=Ar.cZ Jr (by omega);have b18:=Jr.below b17 b17.size (by omega);refine aC (Wr (⟨.agg (aA 14 (bR V8)),rV Tryz.results38 ⟨_,I,aW Au.aI (by kernel_rfl) (by kernel_rfl)⟩,?_⟩));exact⟨V8,apM,apO,by rw[<- eo]; exact apN,rfl,b18⟩
 refine Lv aF (gy c94)<|av aF<|aC<|aK<|ay ?_;by_cases ahi:d.kind=4
 ·refine Lv aG (eY ahi)<|av aG<|aC<|aO<|ay<|Lv (pf G 7) (ji Y 7)<|Lv (.int .u8 (x.req:Int)) (aN mP.aI 7)<|Lv (aD x.req) (dD rfl rfl (by kernel_rfl) Tryz.underlying28 (jJ (by omega) rfl))<|Lv (aD ((x.req:Int)+1)) eT<|Lv (pf A 12) (ji F 12)<|jh K 12 (aD ((x.req:Int)+1)) fun Sg Bv LG z15 => ?_;obtain⟨S,eV9⟩ : ∃ V:EvM,V=⟨d.o,d.seq,d.deps,d.kind,d.node,d.dst,d.aT,(x.req:Int)+1,d.of⟩:=⟨_,rfl⟩;have Lf:fZ S:=by rw[eV9]; exact⟨t.o,t.seq,t.deps,t.kind,t.node,t.dst,t.aT,(show je ((x.req:Int)+1)from⟨by omega,by omega⟩),t.of⟩
  have apP:S.o=(o:Int)+1/\S.seq=(M.ml o).s.known o+1/\S.deps=(M.ml o).s.known:=by rw[eV9]; exact hd0
  have ahj:nV S:=by rw[eV9]; exact⟨X.aT,by show(x.req:Int)+1<=256; omega⟩
  have CJ:aQ Sg A 14 (bR S) 32:=Bv.congr (fun j C=>by rw[eV9]; exact VA _ _ j C);have ahk:=iC LG K.ty;have zM:=kY ahk mP;have FU:=nR.cZ LG (by omega);have b19:=LG.below J J.size (by omega);refine aC<|Wl<|Lv (pf G 8) (ji Y 8)<|Lv (.int .u8 (x.of:Int)) (aN zM.aI 8)<|Lv (aD x.of) (dD rfl rfl (by kernel_rfl) Tryz.underlying28 (jJ (by omega) rfl))<|Lv (aD ((x.of:Int)+1)) eT<|Lv (pf A 13) (ji F 13)<|jh CJ 13 (aD ((x.of:Int)+1)) fun Si DT s19 z16 => ?_;obtain⟨Wu,YH⟩ : ∃ V:EvM,V=⟨S.o,S.seq,S.deps,S.kind,S.node,S.dst,S.aT,S.req,(x.of:Int)+1⟩:=⟨_,rfl⟩;have ahl:fZ Wu:=by rw[YH]; exact⟨Lf.o,Lf.seq,Lf.deps,Lf.kind,Lf.node,Lf.dst,Lf.aT,Lf.req,(show je ((x.of:Int)+1)from⟨by omega,by omega⟩)⟩
  have ahm:Wu.o=(o:Int)+1/\Wu.seq=(M.ml o).s.known o+1/\Wu.deps=(M.ml o).s.known:=by rw[YH]; exact apP
  have ahn:nV Wu:=by rw[YH]; exact⟨ahj.aT,ahj.req⟩
  have FV:aQ Si A 14 (bR Wu) 32:=DT.congr (fun j C=>by rw[YH]; exact aha _ _ j C);have vX:=FU.cZ s19 (by omega);have b20:=s19.below b19 b19.size (by omega);refine Ln<|bO<|sN<|ay<|Lv (.agg (aA 14 (bR Wu))) (fG FV.aI 0 (ha:=F))<|fH vX 0 (ha:=I) (h1:=(iJ _)) fun Zk xM s20 z17 => ?_;have vY:aQ Zk U 14 (bR Wu) 32:=aX xM;have oZ:=FV.cZ s20 (by omega);have LB:=s20.below b20 b20.size (by omega);refine aC (Wr (⟨.agg (aA 14 (bR Wu)),rV Tryz.results38 ⟨_,I,aW vY.aI (by kernel_rfl) (by kernel_rfl)⟩,?_⟩));exact⟨Wu,ahl,ahn,by rw[<- eo]; exact ahm,rfl,LB⟩
 refine Lv aF (gy ahi)<|av aF<|aC<|aK<|ay ?_;by_cases aho:d.kind=5
 ·refine Lv aG (eY aho)<|av aG<|aC<|aO<|ay<|aS h4<|Lv (pf A 9) (ji F 9)<|jh K 9 (aD nd) fun Sl oz s21 z18 => ?_;obtain⟨N,YI⟩ : ∃ V:EvM,V=⟨d.o,d.seq,d.deps,d.kind,nd,d.dst,d.aT,d.req,d.of⟩:=⟨_,rfl⟩;have C9:fZ N:=by rw[YI]; exact⟨t.o,t.seq,t.deps,t.kind,O4,t.dst,t.aT,t.req,t.of⟩
  have ahp:N.o=(o:Int)+1/\N.seq=(M.ml o).s.known o+1/\N.deps=(M.ml o).s.known:=by rw[YI]; exact hd0
  have ahq:nV N:=by rw[YI]; exact⟨X.aT,X.req⟩
  have qg:aQ Sl A 14 (bR N) 32:=oz.congr (fun j C=>by rw[YI]; exact Ea _ _ j C);have ahr:=iC s21 K.ty;have pz:=kY ahr mP;have qG:=nR.cZ s21 (by omega);have LC:=s21.below J J.size (by omega);refine aC<|ay<|Lv (pf G 6) (ji Y 6)<|Lv (.int .u16 (x.aT:Int)) (aN pz.aI 6)<|Lv (au x.aT) (dD rfl rfl (by kernel_rfl) Tryz.underlying2 (iN (by omega) rfl))<|Lv (au ((x.aT:Int)+1)) eT<|Lv (pf A 11) (ji F 11)<|jh qg 11 (au ((x.aT:Int)+1)) fun w21 rH s22 z19 => ?_;obtain⟨O,YJ⟩ : ∃ V:EvM,V=⟨N.o,N.seq,N.deps,N.kind,N.node,N.dst,(x.aT:Int)+1,N.req,N.of⟩:=⟨_,rfl⟩;have Da:fZ O:=by rw[YJ]; exact⟨C9.o,C9.seq,C9.deps,C9.kind,C9.node,C9.dst,(show rz ((x.aT:Int)+1)from⟨by omega,by omega⟩),C9.req,C9.of⟩
  have ahs:O.o=(o:Int)+1/\O.seq=(M.ml o).s.known o+1/\O.deps=(M.ml o).s.known:=by rw[YJ]; exact ahp
  have ZO:nV O:=by rw[YJ]; exact⟨by show(x.aT:Int)+1<=65536; omega,ahq.req⟩
  have uI:aQ w21 A 14 (bR O) 32:=rH.congr (fun j C=>by rw[YJ]; exact FB _ _ j C);have aht:=iC s22 qg.ty;have qH:=kY aht pz;have tL:=qG.cZ s22 (by omega);have R7:=s22.below LC LC.size (by omega);refine aC ?_;obtain⟨W,er6⟩ : ∃ r,r=x.dst % 6:=⟨_,rfl⟩;have hr6:W<6:=by rw[er6]; exact I_ _ (by omega)
  refine Wl<|Lv (pf G 5) (ji Y 5)<|Lv (.int .u8 (x.dst:Int)) (aN qH.aI 5)<|Lv (au x.dst) (dD rfl rfl (by kernel_rfl) Tryz.underlying3 (iN (by omega) rfl))<|Lv (au W) (Fx.yZ rfl rfl rfl (by omega) (Gf er6))<|Lv (au ((W:Int)+1)) eT<|Lv (pf A 10) (ji F 10)<|jh uI 10 (au ((W:Int)+1)) fun w22 yS s23 z20 => ?_;obtain⟨Wv,YK⟩ : ∃ V:EvM,V=⟨O.o,O.seq,O.deps,O.kind,O.node,(W:Int)+1,O.aT,O.req,O.of⟩:=⟨_,rfl⟩;have ahv:fZ Wv:=by rw[YK]; exact⟨Da.o,Da.seq,Da.deps,Da.kind,Da.node,(show rz ((W:Int)+1)from⟨by omega,by omega⟩),Da.aT,Da.req,Da.of⟩
  have ahw:Wv.o=(o:Int)+1/\Wv.seq=(M.ml o).s.known o+1/\Wv.deps=(M.ml o).s.known:=by rw[YK]; exact ahs
  have ahx:nV Wv:=by rw[YK]; exact⟨ZO.aT,ZO.req⟩
  have uJ:aQ w22 A 14 (bR Wv) 32:=yS.congr (fun j C=>by rw[YK]; exact Vz _ _ j C);have Bz:=tL.cZ s23 (by omega);have WU:=s23.below R7 R7.size (by omega);refine Ln<|bO<|sN<|ay<|Lv (.agg (aA 14 (bR Wv))) (fG uJ.aI 0 (ha:=F))<|fH Bz 0 (ha:=I) (h1:=(iJ _)) fun w23 wW s24 z21 => ?_;have tN:aQ w23 U 14 (bR Wv) 32:=aX wW;have xO:=uJ.cZ s24 (by omega);have b25:=s24.below WU WU.size (by omega);refine aC (Wr (⟨.agg (aA 14 (bR Wv)),rV Tryz.results38 ⟨_,I,aW tN.aI (by kernel_rfl) (by kernel_rfl)⟩,?_⟩));exact⟨Wv,ahv,ahx,by rw[<- eo]; exact ahw,rfl,b25⟩
 refine Lv aF (gy aho)<|av aF<|aC<|aK<|ay ?_;by_cases ahy:d.kind=6
 ·refine Lv aG (eY ahy)<|av aG<|aC<|aO ?_;obtain⟨W,er6⟩ : ∃ r,r=x.dst % 6:=⟨_,rfl⟩;have hr6:W<6:=by rw[er6]; exact I_ _ (by omega)
  refine Wl<|Lv (pf G 5) (ji Y 5)<|Lv (.int .u8 (x.dst:Int)) (aN mP.aI 5)<|Lv (au x.dst) (dD rfl rfl (by kernel_rfl) Tryz.underlying3 (iN (by omega) rfl))<|Lv (au W) (Fx.yZ rfl rfl rfl (by omega) (Gf er6))<|Lv (au ((W:Int)+1)) eT<|Lv (pf A 10) (ji F 10)<|jh K 10 (au ((W:Int)+1)) fun w24 xP Zj z22 => ?_;obtain⟨Ww,YL⟩ : ∃ V:EvM,V=⟨d.o,d.seq,d.deps,d.kind,d.node,(W:Int)+1,d.aT,d.req,d.of⟩:=⟨_,rfl⟩;have ahz:fZ Ww:=by rw[YL]; exact⟨t.o,t.seq,t.deps,t.kind,t.node,(show rz ((W:Int)+1)from⟨by omega,by omega⟩),t.aT,t.req,t.of⟩
  have ahA:Ww.o=(o:Int)+1/\Ww.seq=(M.ml o).s.known o+1/\Ww.deps=(M.ml o).s.known:=by rw[YL]; exact hd0
  have ahB:nV Ww:=by rw[YL]; exact⟨X.aT,X.req⟩
  have tO:aQ w24 A 14 (bR Ww) 32:=xP.congr (fun j C=>by rw[YL]; exact Vz _ _ j C);have IV:=nR.cZ Zj (by omega);have b26:=Zj.below J J.size (by omega);refine Ln<|bO<|sN<|ay<|Lv (.agg (aA 14 (bR Ww))) (fG tO.aI 0 (ha:=F))<|fH IV 0 (ha:=I) (h1:=(iJ _)) fun w25 EG s26 z23 => ?_;have AA:aQ w25 U 14 (bR Ww) 32:=aX EG;have F6:=tO.cZ s26 (by omega);have b27:=s26.below b26 b26.size (by omega);refine aC (Wr (⟨.agg (aA 14 (bR Ww)),rV Tryz.results38 ⟨_,I,aW AA.aI (by kernel_rfl) (by kernel_rfl)⟩,?_⟩));exact⟨Ww,ahz,ahB,by rw[<- eo]; exact ahA,rfl,b27⟩
 refine Lv aF (gy ahy)<|av aF<|aC<|aK<|Wk<|bO<|sN<|ay<|Lv (.agg (aA 14 (bR d))) (fG K.aI 0 (ha:=F))<|fH nR 0 (ha:=I) (h1:=(iJ _)) fun w26 BD s27 z24 => ?_;have zN:aQ w26 U 14 (bR d) 32:=aX BD;have Kt:=K.cZ s27 (by omega);have b28:=s27.below J J.size (by omega);refine aC (Wr (⟨.agg (aA 14 (bR d)),rV Tryz.results38 ⟨_,I,aW zN.aI (by kernel_rfl) (by kernel_rfl)⟩,?_⟩));exact⟨d,t,X,by rw[<- eo]; exact hd0,rfl,b28⟩
theorem Rt.QH{L:fJ}{v:EvM}(h:bJ L v=0):bS v=true:=by
 unfold bJ at h;split at h; · cases h
 rename_i h1; simpa using h1
structure Rt.DoR(o:Nat)(x:Gc)(M M':WM)(v:EvM):Prop where
 n:M'.n=M.n
 oth : ∀ q,q≠o->M'.ml q=M.ml q
 c:(v=zeroE/\M'.an=M.an/\M'.ev=M.ev/\((M'.ml o).core=(M.ml o).core\/x.meet=true/\(M'.ml o).core=Fa M.ev M.an (M.ml (x.other % M.n)).s.known (M.ml o).core))\/(x.meet=false/\M'.an=M.an+1/\M'.ev=aH M.ev M.an v/\bJ (M.ml o).core v=0/\(M'.ml o).core=bP (M.ml o).core v/\v.o=(o:Int)+1/\v.seq=(M.ml o).s.known o+1/\v.deps=(M.ml o).s.known)
theorem Rt.Cg{L:fJ}{v:EvM}(h:bJ L v=0):(bP L v).known=aH L.known (aL v) (L.known (aL v)+1):=by
 rcases qK L v with ⟨_,a⟩|⟨h1,_⟩
 ·exact a
 exact L_ h h1
theorem Rt.Lg:fZ zeroE:=by
 have z:je 0:=⟨by decide,by decide⟩;have y:rz 0:=⟨by decide,by decide⟩;exact⟨y,z,fun _ _=>z,⟨by decide,by decide⟩,z,y,y,z,z⟩
def Wy(p:Nat)(M:WM)(k:Nat):Prop:=k=p\/(Value.slice M.la M.n M.lc).ownBlock=some k\/(Value.slice M.aa M.an M.ac).ownBlock=some k
def YM(w:World)(p:Nat)(M a:WM):Prop := ∀ k,Wy p a k->Wy p M k\/w.heap.size<=k
theorem nW.ge{w:World}{B p T:Nat}{M:WM}(h:nW w B p M T) : ∀ k,Wy p M k->B<=k/\k<w.heap.size:=fun k b=>by
 rcases b with rfl|e|e
 ·exact⟨h.pB,h.c.lt⟩
 ·exact h.l.ge e
 ·exact h.a.ge e
theorem nW.xX{w w':World}{B p T:Nat}{M:WM}(h:nW w B p M T)(a:B<=w.heap.size)(c:jL (Wy p M) w w'):Below B w w':=Fx.jL.below (Below.refl B w) c (fun k b=>(h.ge k b).1) a
theorem nW.Bl{w w':World}{B p T:Nat}{M:WM}(h:nW w B p M T)(d:jL (Wy p M) w w'):iQ [44,72,32] w w':=Fx.iQ.Ru d fun k b=>by
 rcases b with rfl|e|e
 ·exact⟨_,h.c.ty,by decide⟩
 ·exact⟨_,h.l.ty e,by decide⟩
 ·exact⟨_,h.a.ty e,by decide⟩
theorem YM.app{w b:World}{p g:Nat}{M a:WM}(i:(Value.slice M.aa M.an M.ac).ownBlock=some g\/g=b.heap.size)(l:w.heap.size<=b.heap.size)(h1:a.la=M.la:=by rfl)(c:a.n=M.n:=by rfl)(d:a.lc=M.lc:=by rfl)(f:(Value.slice a.aa a.an a.ac).ownBlock=some g:=by rfl):YM w p M a:=fun k j=>by
 rcases j with h|h|h
 ·exact .inl (.inl h)
 ·rw[h1,c,d]at h; exact .inl (.inr (.inl h))
 ·have e:g=k:=B_ (f.symm.trans h)
  rcases i with h5|h5
  ·exact .inl (.inr (.inr (e ▸ h5)))
  ·exact .inr (by omega)
theorem nW.mono{w:World}{B p T T':Nat}{M:WM}(h:nW w B p M T)(a:T<=T'):nW w B p M T' := { h with inv:=fun i b=>(h.inv i b).mono a }
set_option maxRecDepth 20000 in
set_option maxHeartbeats 2000000 in
theorem ahC(M:WM)(B p T:Nat)(x:Gc)(w:World)(d:nW w B p M T)(hB:B<=w.heap.size)(hx:HZ x)(han:M.an<=60)(hT:T<=890000) :
 Calls Tryz.prog 13 #[(pt p),.agg (aA 9 (Gd x))] w fun e w' => ∃ v,e = .returned (.agg (aA 14 (bR v)))/\fZ v /\ ∃ O,nW w' B p O (T+3660)/\DoR (x.who % M.n) x M O v/\O.an<=M.an+1/\(x.meet=true->O.an=M.an)/\jL (Wy p M) w w'/\YM w p M O:=by
 have hWc:=d.c;have hWl:=d.l;have hWa:=d.a;have hWg:=d.g;have hn1:=d.n1;have hn6:=d.n6;have hpB:=d.pB;have lpp:p<w.heap.size:=hWc.lt;have hxw:=hx.who;have hxo:=hx.other;have hxk:=hx.kind;have hxn:=hx.node;have hxt:=hx.dst;have hxa:=hx.aT;have hxr:=hx.req;have hxf:=hx.of;refine Kent Tryz.func13 94 ?_;refine ay<|qM fun g1 w1 kU m1 s1 z1 => ?_;have⟨m2,f,m4,m5,m6⟩:=wR s1.old hWc hWl hWa hWg d;have b1:=(uh (Wy p M) w).then s1 (.inr (uh (Wy p M) w).size);have tC:w.heap.size<=g1:=by rw[kU]; exact(uh (Wy p M) w).size
 have nD:=cK kU hWc.lt;have uU:=m1.lt;refine wX 14 (fun b=>if b<1 then au 0 else if b<8 then aD 0 else if b<9 then .int .u8 (0)else if b<10 then aD 0 else if b<12 then au 0 else aD 0) fun R w2 ad m7 s2 z2 => ?_;have⟨m8,m9,m10,m11,m12,m13⟩:=sV s2.old m2 f m4 m5 m6 m1;have b2:=b1.then s2 (.inr b1.size);have rU:=jE ad b1.size;have agd:=cK ad m2.lt;have Fu:(.slice M.aa (M.an) (M.ac):Value).ownBlock≠some R:=by rw[ad]; exact m4.jK (z_ _)
 have zU:=cK ad m1.lt;have Av:=m7.lt;refine aC<|Ws ?_;obtain⟨o,Q⟩ : ∃ r,r=x.who % M.n:=⟨_,rfl⟩;have ho:o<M.n:=by rw[Q]; exact I_ _ (by omega)
 refine xC<|aU (pt g1)<|Qv (.int .u8 (x.who:Int)) (fun D C=>aN (m13.aI.dr C) 0)<|Qv (au x.who) (fun D C=>dD rfl rfl (by kernel_rfl) Tryz.underlying3 (iN (by omega) rfl))<|aU (pt p)<|aU (pt p)<|aU (pt p)<|Qv (.slice M.la (M.n) (M.lc)) (fun D C=>aN (m8.aI.dr C) 0)<|aU (au M.n)<|Qv (au o) (fun D C=>Fx.yZ rfl rfl rfl (by omega) (Gf Q))<|aU (au o)<|Qn ?_;rintro _ ⟨qd,rfl⟩;obtain⟨Cy,rG⟩ : ∃ D,D=World.drewN w2 qd:=⟨_,rfl⟩;rw[<- rG];have s3:Stp w2.heap.size w2 Cy:=by rw[rG]; exact Sb (jF w2 qd)
 have⟨m14,m15,m16,m17,m18,Y,m20⟩:=jM s3.old m8 m9 m10 m11 m12 m13 m7;have Z:=b2.then s3 (.inr b2.size);clear rG;refine sN<|Ws<|ay<|av (pf g1 1) ?_;by_cases H:x.meet=true
 ·refine Lv aG (aN Y.aI 1 ((show _=Value.bool x.meet from rfl).trans (K_ Value.bool H)))<|aC<|aO<|Ws ?_;obtain⟨A,adF⟩ : ∃ r,r=x.other % M.n:=⟨_,rfl⟩;have awh:A<M.n:=by rw[adF]; exact I_ _ (by omega)
  have YF:=m17 A (by omega);have FC:=YF.c;have YG:=m17 o (by omega);refine jP [0,1,2,4,5,6,7,9,12,13,14,16,17,18,20,23,24,25,3,8,10,11,15,19,21,22,26,27,28,29,30,31,32,33,34,35,36,37] [0,0,0,1,0,0,0,0,4,0,0,4,0,0,0,4,0,0,0,4,0,4,0,0,0,0,4,0,0,0,4,0,0,0,4,2,0,3] [(37,3,[3]),(35,8,[11,10,8]),(37,8,[8]),(35,11,[11]),(37,11,[11]),(35,15,[15]),(37,15,[15]),(35,19,[34,33,32,31,30,29,19]),(37,19,[19]),(35,21,[34,33,32,31,30,29,28,22,21]),(37,21,[21]),(35,26,[34,33,32,31,30,29,28,27,26]),(37,26,[26]),(35,30,[34,33,32,31,30]),(37,30,[30]),(35,34,[34]),(37,34,[34]),(36,35,[35]),(37,35,[35])] fun oI dM gY => ?_;have s4:Stp Cy.heap.size Cy oI:=Sb dM;have⟨G,m22,m23,m24,mY,nQ,oJ,ou⟩:=mM dM m14 m15 m16 m17 Y m20 FC YG;have b4:=Z.then s4 (.inr Z.size);refine aY (pt p)<|aY (pt p)<|aY (pt p)<|aY (au o)<|aY (pt p)<|aY (pt p)<|aY (pt p)<|aY (au o)<|aY (pt p)<|aY (pt p)<|aY (pf p 1)<|aY (pt p)<|aY (pt p)<|aY (pt p)<|aY (pf g1 2)<|aY (pt p)<|aY (pt p)<|aY (pt p)<|Rd (v := .slice M.la (M.n) (M.lc)) (by rfl) (by rfl) (rW _) (fun D C=>bA (x:=Gb (.slice M.la (M.n) (M.lc)) (.slice M.aa (M.an) (M.ac))) rfl rfl (by kernel_rfl) (G.aI.below C (by have:=G.lt; omega)) (i:=0) (by omega) (by omega) rfl) ?_;refine Rs (.slice M.la (M.n) (M.lc)) (aN G.aI 0) ?_;obtain⟨S,J⟩:=m22.addr (by omega);have qo:Fx.Own oI B 72 1 (bM S M.n M.lc) M.n (Hy M.pl):=m22.fF (K_ (fun q=>Value.slice q M.n M.lc) J);refine Rp (pf S o) (fun _=>dh 1 (hx:=(rfl.trans (K_ (fun q=>Value.slice q (M.n) (M.lc)) J))))<|Rs (pt (M.pl o)) (aN qo.aI o) ?_;refine Rs (.slice M.aa (M.an) (M.ac)) (aN G.aI 1) ?_;refine Rs (.slice M.la (M.n) (M.lc)) (aN G.aI 0) ?_;refine Rs (.int .u8 (x.other:Int)) (aN mY.aI 2) ?_;refine Rp (au x.other) (fun D=>dD rfl rfl (by kernel_rfl) Tryz.underlying3 (iN (by omega) rfl))<|Rs (.slice M.la (M.n) (M.lc)) (aN G.aI 0) ?_;refine aY (au M.n)<|Rp (au A) (fun D=>Fx.yZ rfl rfl rfl (by omega) (Gf adF))<|Rp (pf S A) (fun _=>dh 1 (hx:=(rfl.trans (K_ (fun q=>Value.slice q (M.n) (M.lc)) J))))<|Rs (pt (M.pl A)) (aN qo.aI A) ?_;refine aY (pt (M.pl A))<|aY (pt (M.pl A))<|aY (pf (M.pl A) 12)<|Rs (.agg (aA 6 (rv .u64 ((M.ml A).s.known)))) (fG oJ.aI 12 (fun j W=>lN _ (by omega) (jV _ W (by omega)))) ?_;refine Bc<|lK (XO (M.ml o) B (M.pl o) T M.aa M.an M.ac M.ev ((M.ml A).s.known) _ ou (d.inv o (by omega)) m23.arr d.wf d.may d.sm han hT) ?_;rintro e9 w3 ⟨t,f,E,hlc,hI3,hL1,hb1⟩;refine⟨(pt t),E,?_⟩;clear E;have s5:=Sb hb1;have⟨oP,mV,m32,nT,qD⟩:=wR hb1 G m23 m24 nQ qo;have b5:=b4.then s5 (.inr b4.size);refine Ln ⟨s5.old,?_⟩;refine Rp (pf S o) (fun _=>dh 1 (hx:=(rfl.trans (K_ (fun q=>Value.slice q (M.n) (M.lc)) J))))<|gK<|pR qD o (pt t) fun w4 rQ s6 z3 => ?_;have gN:=iC s6 qD.JI;have⟨rR,oU,rT,mP,qY⟩:=qV gN oP mV m32 nT hL1;have b6:=b5.then s6 (.inl (.inr (.inl (by rw[J]; rfl))));have qE:Fx.Own w4 B 72 1 (bM S M.n M.lc) M.n (Hy (aH M.pl o t)):=rQ.congr (fun F _=>congrFun Vu F);refine Ln<|bQ<|ay<|av (.agg (aA 14 (fun b=>if b<1 then au 0 else if b<8 then aD 0 else if b<9 then .int .u8 (0)else if b<10 then aD 0 else if b<12 then au 0 else aD 0)))<|fH mP 0 (h1:=(fun F _=>by show((fun b=>if b<1 then au 0 else if b<8 then aD 0 else if b<9 then .int .u8 (0)else if b<10 then aD 0 else if b<12 then au 0 else aD 0:Nat->Value) F).oneCell'=true; simp only[]; repeat (first|rfl|split))) fun w5 nE s7 z4 => ?_
  have qF:aQ w5 R 14 (fun b=>if b<1 then au 0 else if b<8 then aD 0 else if b<9 then .int .u8 (0)else if b<10 then aD 0 else if b<12 then au 0 else aD 0) 32:=aX nE;have jX:=iC s7 mP.ty;have wJ:=kY jX rR;have rY:=oU.cZ s7 Fu;have⟨sJ,tY,uz⟩:=En jX rT qY qE;have b7:=b6.then s7 (.inr rU);refine aC (Wr (sR (⟨.agg (aA 14 (fun b=>if b<1 then au 0 else if b<8 then aD 0 else if b<9 then .int .u8 (0)else if b<10 then aD 0 else if b<12 then au 0 else aD 0)),rV Tryz.results13 ⟨_,rfl,aW qF.aI (by kernel_rfl) (by kernel_rfl)⟩,?_⟩)));have xH:Fx.Own w5 B 72 1 (.slice M.la (M.n) (M.lc)) M.n (Hy (aH M.pl o t)):=uz.fF (K_ (fun q=>Value.slice q M.n M.lc) J.symm);exact⟨zeroE,K_ (fun z=>Ending.returned (Value.agg z)) (Fx.dZ (y:=bR zeroE) fun j W=>by rcases j with _|_|_|_|_|_|_|_|_|_|_|_|_|_|j <;> first|rfl|omega),Lg,{ M with pl:=aH M.pl o t,ml:=aH M.ml o f },{ c:=wJ,l:=xH,a:=rY,g:=sJ.put tY,inv:=(fun i U=>by show Inv (aH M.ml o f i).core _; unfold aH; split; exact hI3; exact(d.inv i U).mono (by omega)),wf:=d.wf,may:=d.may,sm:=d.sm,cz:=d.cz.learn (o:=o) (by omega) (L:=(M.ml o).core) rfl (fun q u=>by show(aH M.ml o f q).s.known=_; unfold aH; rw[b_ u]) (by show(aH M.ml o f o).s.known=_; unfold aH; rw[d_ rfl]; exact K_ fJ.known hlc),pB:=hpB,n1:=hn1,n6:=hn6 },(by rw[<- Q]; exact⟨rfl,fun q u=>by show aH M.ml o f q=_; unfold aH; rw[b_ u],.inl ⟨rfl,rfl,rfl,.inr ⟨H,by rw[<- adF]; show(aH M.ml o f o).core=_; unfold aH; rw[d_ rfl]; exact hlc⟩⟩⟩),(by show M.an<=M.an+1; omega),(fun _=>rfl),b7,fun _ h => .inl h⟩
 rw[S_]at H;refine Lv aF (aN Y.aI 1 ((show _=Value.bool x.meet from rfl).trans (K_ Value.bool H)))<|aC<|aK<|Wk<|sN<|ay<|av (pt p)<|Lv (.agg (aA 9 (Gd x))) (fG Y.aI 0)<|lK (YE M B p T x _ m18 hx) ?_;rintro e9 w6 ⟨V,hV,hVs,hVd,E,hb2⟩;refine⟨_,E,?_⟩;clear E;rw[<- Q]at hVd;have s8:=Sb hb2;have⟨tZ,sK,uf,xI,wK,nY⟩:=sV hb2 m14 m15 m16 m17 Y m20;have b8:=Z.then s8 (.inr Z.size);refine wX 14 (fun b=>if b<1 then au 0 else if b<8 then aD 0 else if b<9 then .int .u8 (0)else if b<10 then aD 0 else if b<12 then au 0 else aD 0) fun g3 w7 ae tJ s9 z5 => ?_;have⟨m64,wS,wL,wT,wU,rZ⟩:=sV s9.old tZ sK uf xI wK nY;have b9:=b8.then s9 (.inr b8.size);have Es:=jE ae b8.size;have apS:=cK ae tZ.lt;have Nw:(.slice M.aa (M.an) (M.ac):Value).ownBlock≠some g3:=by rw[ae]; exact uf.jK (z_ _)
 have⟨apT,apU⟩:=xD ae wK.lt nY.lt;have Mr:=tJ.lt;refine fH tJ 0 (h1:=(iJ _)) fun w8 uW s10 z6 => ?_;have vN:aQ w8 g3 14 (bR V) 32:=aX uW;have tF:=iC s10 tJ.ty;have⟨wM,uX⟩:=Dh tF m64 wS;have zk:=wL.cZ s10 Nw;have⟨wN,yP⟩:=Dh tF wT wU;have yQ:=rZ.cZ s10 (by omega);have b10:=b9.then s10 (.inr Es);refine aC<|Ws ?_;have apV:=wN o (by omega);refine jP [0,1,2,4,3,5,6,7,8,9,10,11,12,13] [0,0,0,4,0,0,4,4,3,0,0,0,0,0] [(8,3,[6,5,3]),(8,6,[6]),(8,7,[7]),(9,8,[8]),(10,8,[9,8]),(11,8,[9,8]),(12,8,[8]),(13,8,[8])] fun Cw gD nC => ?_;have s11:Stp w8.heap.size w8 Cw:=Sb gD;have⟨yR,wZ,wV,vO,xJ,zF,xK,Aq⟩:=mM gD wM uX zk wN yP yQ vN apV;have b11:=b10.then s11 (.inr b10.size);refine aY (pt p)<|aY (pt p)<|aY (pt p)<|aY (au o)<|Rs (.slice M.la (M.n) (M.lc)) (aN yR.aI 0) ?_;obtain⟨QW,K⟩:=wZ.addr (by omega);have Ar:Fx.Own Cw B 72 1 (bM QW M.n M.lc) M.n (Hy M.pl):=wZ.fF (K_ (fun q=>Value.slice q M.n M.lc) K);refine Rp (pf QW o) (fun _=>dh 1 (hx:=(rfl.trans (K_ (fun q=>Value.slice q (M.n) (M.lc)) K))))<|Rs (pt (M.pl o)) (aN Ar.aI o) ?_;refine Rs (.agg (aA 14 (bR V))) (fG xK.aI 0) ?_;refine gK<|lK (Ol (M.ml o) B (M.pl o) T V _ Aq hV (d.inv o (by omega)).w (by omega)) ?_;rintro e9 w9 ⟨t,f,E,hc3,hL2,hb3⟩;refine⟨.tuple #[(pt t),au (bJ (M.ml o).core V)],E,?_⟩;clear E;have s12:=Sb hb3;have⟨Ac,zG,zH,Au,Ey,Dr,Bv⟩:=jM hb3 yR wV vO xJ zF xK Ar;have b12:=b11.then s12 (.inr b11.size);refine Ln<|aY (.tuple #[(pt t),au (bJ (M.ml o).core V)])<|aY (pt t)<|aY (au (bJ (M.ml o).core V))<|aY (pt t)<|aY (au (bJ (M.ml o).core V))<|bQ<|Ws<|ay<|av (au (bJ (M.ml o).core V)) ?_;by_cases I:(bJ (M.ml o).core V)=0
 ·refine Lv aF (jd I)<|aC<|aK<|Wk<|sN<|ay<|av (pt p)<|av (pt p)<|av (pt p)<|Lv (.slice M.la (M.n) (M.lc)) (aN Ac.aI 0)<|av (au o)<|av (pt t)<|Lv (pf QW o) (dh 1 (hx:=(rfl.trans (K_ (fun q=>Value.slice q (M.n) (M.lc)) K))))<|pR Bv o (pt t) fun tH CJ s13 z7 => ?_;have zD:=iC s13 Bv.JI;have⟨zM,FU,DT,FV,F5,vX,xM⟩:=Ry zD Ac zG zH Au Ey Dr hL2;have b13:=b12.then s13 (.inl (.inr (.inl (by rw[K]; rfl))));have vY:Fx.Own tH B 72 1 (bM QW M.n M.lc) M.n (Hy (aH M.pl o t)):=CJ.congr (fun F _=>congrFun Vu F);refine aC<|Ws ?_;have tK:Fx.Own tH B 72 1 (.slice M.la (M.n) (M.lc)) M.n (Hy (aH M.pl o t)):=vY.fF (K_ (fun q=>Value.slice q M.n M.lc) K.symm);refine Aj [0,1,2,3,4,5,6,7,8,9,10] [0,0,0,0,1,4,2,2,0,0,3] (iQ [32]) vH Fx.iQ.trans (fE := [(10,4,[4]),(6,5,[5]),(7,5,[6,5]),(10,5,[5]),(7,6,[6]),(8,6,[6]),(9,6,[6]),(10,6,[6]),(8,7,[7]),(9,7,[7]),(10,7,[7])]) (by kernel_rfl) (by kernel_rfl) (by kernel_rfl) (by kernel_rfl) (by kernel_rfl) fun QV lD Ao => ?_;have Dm:Stp tH.heap.size tH QV:=Sb lD;have⟨oZ,oz,qg,pz,qG,rH,uI,qH⟩:=mM lD zM FU DT FV F5 vX xM tK;have b14:=b13.then Dm (.inr b13.size);refine aY (pt p)<|aY (pt p)<|aY (pt p)<|aY (pf p 1)<|Rd (v := .slice M.aa (M.an) (M.ac)) (by rfl) (by rfl) (vH _) (fun D C=>bA (x:=Gb (.slice M.la (M.n) (M.lc)) (.slice M.aa (M.an) (M.ac))) rfl rfl (by kernel_rfl) (oZ.kr C (by decide)).aI (i:=1) (by omega) (by omega) rfl) ?_;refine Rs (.agg (aA 14 (bR V))) (fG rH.aI 0) ?_;refine Bc<|yc (vs := [(0,.agg (aA 14 (bR V)))]) (s:=14) (zc:=fun b=>if b<1 then au 0 else if b<8 then aD 0 else if b<9 then .int .u8 (0)else if b<10 then aD 0 else if b<12 then au 0 else aD 0) (y:=bH (fun j=>(fun b=>if b<1 then au 0 else if b<8 then aD 0 else if b<9 then .int .u8 (0)else if b<10 then aD 0 else if b<12 then au 0 else aD 0) (j % 14)) (0*14) 14 (bR V)) (by rfl) rfl rfl Tryz.underlying42 (by kernel_rfl) (by rfl) (by rfl) (by kernel_rfl) (by rw[bC (off:=0*14) (s:=14) (y:=bR V) rfl (bI _ _) (by rfl)]; rfl) rfl fun g4 FT af tL s15 z8 => ?_;have⟨yS,uJ,yT,wW,tN,qh,xO⟩:=jM s15.old oZ oz qg qG rH uI qH;have b15:=b14.then s15 (.inr b14.size);have Wn:=jE af b14.size;have Xx:=cK af oZ.lt;have Xy:(.slice M.aa (M.an) (M.ac):Value).ownBlock≠some g4:=by rw[af]; exact oz.jK (z_ _)
  have⟨ajs,ajt,Xz⟩:=JL af pz.lt qG.lt rH.lt;have Ub:=tL.lt;refine Ln ⟨Fx.iQ.of_below s15.old,?_⟩;refine Bc<|yK (B:=B) (s:=14) (bytes:=112) (k:=M.an) (m:=1) (v := .slice M.aa (M.an) (M.ac)) (x:=Ou M.ev) (by rfl) rfl rfl rfl Tryz.underlying42 (by kernel_rfl) (by kernel_rfl) rfl rfl uJ tL.aI (vV (fun j=>(show(bR V j).oneCell'=true by unfold bR; repeat (first|rfl|split)))) (by omega) (by omega) (by omega) (m_ hB b15.size) fun N ab Dn ho1 hg1 uo hlt1 => ?_
  have yN:=yL hg1 uJ;have⟨tO,BA⟩:=Dh yN yS yT;have EG:=wW.grown hg1 Fu;have aju:R≠N:=fun e=>uo.elim (fun P=>Fu (by rw[e]; exact P)) (fun P=>by have:=wW.lt; omega);have AA:=tN.grown hg1 Nw;have ajv:g3≠N:=fun e=>uo.elim (fun P=>Nw (by rw[e]; exact P)) (fun P=>by have:=tN.lt; omega);have⟨EH,F6⟩:=Dh yN qh xO;have xP:Fx.Own Dn B 32 14 (bM N (M.an+1) ab) (M.an+1) (Ou (aH M.ev M.an V)):=(ho1.congr (fun j W=>Vv j W));have b16:jL (Wy p M) w Dn:=Fx.jL.grow b15 hg1 (fun q u => .inl (.inr (.inr u)));refine Ln ⟨yN,?_⟩;refine aY (pt p)<|aY (pf p 1)<|gK<|jh tO 1 (bM N (M.an+1) ab) fun Gz BD s16 z9 => ?_;have zN:aQ Gz p 2 (Gb (.slice M.la (M.n) (M.lc)) (bM N (M.an+1) ab)) 44:=BD.congr (agV _ _ _);have yO:=iC s16 tO.ty;have⟨I5,EI,EJ,F7,F8,BF⟩:=Rx yO BA EG AA EH F6 xP;have b17:=b16.then s16 (.inl (.inl rfl));refine Ln<|bQ<|ay<|Lv (.agg (aA 14 (bR V))) (fG EJ.aI 0)<|fH EI 0 (h1:=(iJ _)) fun NW EK Jr z10 => ?_;have BG:aQ NW R 14 (bR V) 32:=aX EK;have Az:=iC Jr EI.ty;have EU:=kY Az I5;have zO:=EJ.cZ Jr (by omega);have⟨BH,AB⟩:=Dh Az F7 F8;have IW:=BF.aak Jr (by omega);have TL:=kY Az zN;have b18:=b17.then Jr (.inr rU);refine aC (Wr (⟨.agg (aA 14 (bR V)),rV Tryz.results13 ⟨_,rfl,aW BG.aI (by kernel_rfl) (by kernel_rfl)⟩,?_⟩));have hinv:Inv f.core (T+3660):=by rw[hc3]; exact(G5 hVs (d.inv o (by omega))).mono (by omega)
  have eRo:aL V=o:=by unfold aL; omega
  have hk3:f.s.known=aH (M.ml o).s.known o ((M.ml o).s.known o+1):=(K_ fJ.known hc3).trans (by rw[Cg I,eRo]; rfl);exact⟨V,rfl,hV,{ M with pl:=aH M.pl o t,ml:=aH M.ml o f,an:=M.an+1,aa:=some ⟨N,0,none⟩,ac:=ab,ev:=aH M.ev M.an V },{ c:=TL,l:=AB,a:=IW,g:=EU.put BH,inv:=(fun i U=>by show Inv (aH M.ml o f i).core _; unfold aH; split; exact hinv; exact(d.inv i U).mono (by omega)),wf:=(fun k X=>by have hk2:k<M.an+1:=X; show fZ (aH M.ev M.an V k); unfold aH; split; exact hV; exact d.wf k (by omega)),may:=(fun k X=>by have hk2:k<M.an+1:=X; show bS (aH M.ev M.an V k)=true; unfold aH; split; exact QH I; exact d.may k (by omega)),sm:=(fun k X=>by have hk2:k<M.an+1:=X; show nV (aH M.ev M.an V k); unfold aH; split; exact hVs; exact d.sm k (by omega)),cz:=d.cz.event (o:=o) (by omega) (jI I) eRo hVd.2.2 (fun q u=>by show(aH M.ml o f q).s.known=_; unfold aH; rw[b_ u]) (by show(aH M.ml o f o).s.known=_; unfold aH; rw[d_ rfl]; exact hk3),pB:=hpB,n1:=hn1,n6:=hn6 },(by rw[<- Q]; exact⟨rfl,fun q u=>by show aH M.ml o f q=_; unfold aH; rw[b_ u],.inr ⟨H,rfl,rfl,I,by show(aH M.ml o f o).core=_; unfold aH; rw[d_ rfl]; exact hc3,hVd⟩⟩),z_ _,(fun u=>by rw[H]at u; cases u),b18,YM.app uo b15.size⟩
 refine Lv aG (lJ I)<|aC<|aO<|ay<|av (.agg (aA 14 (fun b=>if b<1 then au 0 else if b<8 then aD 0 else if b<9 then .int .u8 (0)else if b<10 then aD 0 else if b<12 then au 0 else aD 0)))<|fH Ey 0 (h1:=(fun F _=>by show((fun b=>if b<1 then au 0 else if b<8 then aD 0 else if b<9 then .int .u8 (0)else if b<10 then aD 0 else if b<12 then au 0 else aD 0:Nat->Value) F).oneCell'=true; simp only[]; repeat (first|rfl|split))) fun Mj Ud LG z11 => ?_
 have TM:aQ Mj R 14 (fun b=>if b<1 then au 0 else if b<8 then aD 0 else if b<9 then .int .u8 (0)else if b<10 then aD 0 else if b<12 then au 0 else aD 0) 32:=aX Ud;have EC:=iC LG Ey.ty;have TN:=kY EC Ac;have abK:=zG.cZ LG Fu;have TP:=kY EC zH;have TQ:=Dr.cZ LG (by omega);have P6:=kY EC Bv;have b19:=b12.then LG (.inr rU);refine aC (Wr (sR (⟨.agg (aA 14 (fun b=>if b<1 then au 0 else if b<8 then aD 0 else if b<9 then .int .u8 (0)else if b<10 then aD 0 else if b<12 then au 0 else aD 0)),rV Tryz.results13 ⟨_,rfl,aW TM.aI (by kernel_rfl) (by kernel_rfl)⟩,?_⟩)));have TS:Fx.Own Mj B 72 1 (.slice M.la (M.n) (M.lc)) M.n (Hy M.pl):=P6.fF (K_ (fun q=>Value.slice q M.n M.lc) K.symm);exact⟨zeroE,K_ (fun z=>Ending.returned (Value.agg z)) (Fx.dZ (y:=bR zeroE) fun j W=>by rcases j with _|_|_|_|_|_|_|_|_|_|_|_|_|_|j <;> first|rfl|omega),Lg,M,{ c:=TN,l:=TS,a:=abK,g:=TP,inv:=fun i U=>(d.inv i U).mono (by omega),wf:=d.wf,may:=d.may,sm:=d.sm,cz:=d.cz,pB:=hpB,n1:=hn1,n6:=hn6 },⟨rfl,fun _ _=>rfl,.inl ⟨rfl,rfl,rfl,.inl rfl⟩⟩,by omega,(fun _=>rfl),b19,fun _ h => .inl h⟩
theorem ahD(M:WM)(B p T:Nat)(x:Gc)(w:World)(c:nW w B p M T)(b:B<=w.heap.size)(hx:HZ x)(m:M.an<=60)(l:T<=890000) :
 Calls Tryz.prog 13 #[(pt p),.agg (aA 9 (Gd x))] w fun e w' => ∃ v,e = .returned (.agg (aA 14 (bR v)))/\fZ v /\ ∃ a,nW w' B p a (T+3660)/\DoR (x.who % M.n) x M a v/\a.an<=M.an+1/\(x.meet=true->a.an=M.an)/\Below B w w' :=
 (ahC M B p T x w c b hx m l).mono fun _ _ ⟨v,d,f,a,g,h,i,j,k,_⟩=>⟨v,d,f,a,g,h,i,j,c.xX b k⟩
end Go.Proofs.YtahbiajdgealnaaGreatDoor
namespace Go.Proofs.YtahbiajdgealnaaGreatDoor
open Go.RowKit Go.WideShapes Go.ChangeShapes Go.Deep Rt
def VD:Value->Bool | .bool b=>b|_=>false
theorem LJ.int{k:IntKind}{v:Value}(h:LJ (some k) v):v = .int k (intOf v)/\(Lit.int k (intOf v)).wf=true:=by
 obtain⟨n,rfl,a⟩:=h; exact⟨rfl,a⟩
theorem LJ.bool{v:Value}(h:LJ none v):v = .bool (VD v):=by
 obtain⟨b,rfl⟩:=h; rfl
theorem wf_u8{n:Int}(h:(Lit.int .u8 n).wf=true):0<=n/\n<=255:=by simp[Lit.wf,IntKind.min,IntKind.max,IntKind.bits,IntKind.signed]at h; omega
theorem wf_u16{n:Int}(h:(Lit.int .u16 n).wf=true):0<=n/\n<=65535:=by simp[Lit.wf,IntKind.min,IntKind.max,IntKind.bits,IntKind.signed]at h; omega
theorem adG{n:Int}(h:(Lit.int .u8 n).wf=true) : ∃ m:Nat,n=(m:Int)/\m<=255:=by
 have:=wf_u8 h; exact⟨n.toNat,by omega,by omega⟩
theorem Fx.lU.congr{w:World}{a:Option Addr}{n s:Nat}{x y:Nat->Value}(h:Fx.lU w a n s x)(e : ∀ p,p<n*s->x p=y p):Fx.lU w a n s y:=fun f=>by
 obtain⟨b,j,d,g⟩:=h f;exact⟨b,j,d,fun i c=>by rw[<- e i c]; exact g i c⟩
def VE:List (Option IntKind) := [some .u8,none,some .u8,some .u8,some .u8,some .u8,some .u16,some .u8,some .u8]
def VF(X:Nat->Value):Gc:=⟨(intOf (X 0)).toNat,VD (X 1),(intOf (X 2)).toNat,(intOf (X 3)).toNat,(intOf (X 4)).toNat,(intOf (X 5)).toNat,(intOf (X 6)).toNat,(intOf (X 7)).toNat,(intOf (X 8)).toNat⟩
theorem Lh{X:Nat->Value}(h : ∀(j:Nat) (k:Option IntKind),VE[j]? = some k->LJ k (X j)):HZ (VF X) /\ ∀ j,j<9->X j=Gd (VF X) j:=by
 have a : ∀ j,VE[j]? = some (some .u8)->X j = .int .u8 ((intOf (X j)).toNat:Int)/\(intOf (X j)).toNat<=255:=fun j d=>by
  obtain⟨e,b⟩:=(h j _ d).int;have:=wf_u8 b;exact⟨by rw[Int.toNat_of_nonneg this.1]; exact e,by omega⟩
 have c:X 6 = .int .u16 ((intOf (X 6)).toNat:Int)/\(intOf (X 6)).toNat<=65535:=by
  obtain⟨e,b⟩:=(h 6 (some .u16) rfl).int;have:=wf_u16 b;exact⟨by rw[Int.toNat_of_nonneg this.1]; exact e,by omega⟩
 refine⟨⟨(a 0 rfl).2,(a 2 rfl).2,(a 3 rfl).2,(a 4 rfl).2,(a 5 rfl).2,c.2,(a 7 rfl).2,(a 8 rfl).2⟩,fun j d => ?_⟩
 rcases j with _|_|_|_|_|_|_|_|_|j
 ·exact(a 0 rfl).1
 ·exact(h 1 none rfl).bool
 ·exact(a 2 rfl).1
 ·exact(a 3 rfl).1
 ·exact(a 4 rfl).1
 ·exact(a 5 rfl).1
 ·exact c.1
 ·exact(a 7 rfl).1
 ·exact(a 8 rfl).1
 omega
section
variable {H:Type} {enc:TypeId × Value->H} {P:Program} {w:World}
theorem QI{t e:TypeId}{a:Option Addr}{len cap D:Nat}{d:DataW H}{r:List MemPlace}(q:P.underlying t=some (.slice e))(b:wB P D e=some VE)(l:P.cellsOf e=9)
 (h:DataW.Trod enc P w 0 (fun _=>true) true t (.slice a len cap) d r) : ∃ g:Nat->Gc,(∀ i,i<len->HZ (g i))/\Fx.lU w a len 9 (Fx.flat 9 fun k=>Gd (g k)):=by
 obtain⟨v,n⟩:=h;obtain⟨s,x,u,f,_,_,X,c,m⟩:=Hw q b l (by decide) n;simp[Value.cells]at f;obtain⟨rfl,rfl,rfl⟩:=f;exact⟨fun i=>VF (X i),fun i o=>(Lh (c i o)).1,m.congr (Fx.bK fun k b j p=>(Lh (c k b)).2 j p)⟩
end
end Go.Proofs.YtahbiajdgealnaaGreatDoor
namespace Go.Proofs.YtahbiajdgealnaaGreatDoor
open Go.RowKit Rt
open Fx (fC eO fK bA gU gT dD dS gL jw eG jy gu jA jc Lv sN Ln Ws Qv Wl Rp Wc Qs Wr Sb Lk Wk rC rV sR Rs Rn Rd Rk Wb Wx Wo Cu Wt qR Jf Qn FP Bb yc yK Cq Dz ql iC yL ni rW uh vH wF yJ Cv Aj rv aA aQ bH aM ev cB Stp dH aX flat dB Mp eU aW ig iO bC down iM jL kF iN lU bK bI cells_one iQ bV vM unseen jJ iD bX dJ bL bO bY bZ gG gH pO gV)
set_option maxRecDepth 20000
set_option linter.unusedVariables false
theorem ahE{B:Nat}{a b c:World}(h:Below a.heap.size a b)(e:Below B b c)(d:a.heap.size<=B):Below a.heap.size a c:=h.trans (e.mono d)
theorem uY.JN{w w':World}{B p:Nat}{m:kZ}{e:List TypeId}(h:uY w B p m)(b:Fx.FQ e w w')(k:(Kn.all fun T => !e.contains T)=true):uY w' B p m:=by
 have a : ∀ d∈Kn,e.contains d=false:=fun d f=>by
  have:=List.all_eq_true.1 k d f
  simpa using this
 exact { h with
  c:=h.c.JN b (a _ (by decide)),n:=h.n.JN b (a _ (by decide)),g:=h.g.JN b (a _ (by decide)),tc:=h.tc.JN b (a _ (by decide)),t:=h.t.JN b (a _ (by decide)),r:=⟨fun i j=>(h.r.1 i j).JN b (a _ (by decide)),h.r.2⟩ }
section
set_option linter.unusedVariables false
namespace Rt
structure Ab where
 inn:Nat->Bool
 left:Nat->Bool
 own:Nat->Int
 has:Int->Bool
 par:Int->Int
 R:Int->Nat->Int
 gh:Int->Int->Bool
 g:Int->Int->Nat->Int
 ask:Int->Int->Bool
def Ab.up(A:Ab)(x:Int):Nat->Int
 | 0=>x
 | i+1=>A.par (A.up x i)
def Ab.on(A:Ab)(x y:Int):Bool:=A.has y&&(List.range 6).any fun i=>decide (A.up x i=y)
def rP(v:EvM):Int:=iY v.o v.seq
def aV(v:EvM):Nat:=(v.o-1).toNat
def dV(v:EvM):Nat:=(v.dst-1).toNat
def Ab.dl(A:Ab)(v:EvM)(y:Int)(p:Nat):Int :=
 if v.kind=1 then(if y=rP v/\p=aV v then v.aT else 0)
 else if v.kind=2 then(if y=v.node/\p=aV v then v.aT else 0)
 else if v.kind=3 then(if A.on v.node y=true/\p=6+aV v then v.aT else 0)
 else if v.kind=4 then(if A.on (A.g v.o v.of 2) y=true/\p=12+aV v then A.g v.o v.of 3 else 0)
 else if v.kind=5 then(if y=v.node/\p=18+(6*aV v+dV v)then v.aT else 0)
 else 0
def Ab.qU(A:Ab)(v:EvM):Ab where
 inn:=fun j=>A.inn j || (decide (v.kind=6)&&decide (j=dV v))
 left:=fun j=>A.left j || (decide (v.kind=7)&&decide (j=aV v))
 own:=fun j=>A.own j+if v.kind=1/\j=aV v then 1 else 0
 has:=fun y=>A.has y || (decide (v.kind=1)&&decide (y=rP v))
 par:=fun y=>if v.kind=1/\y=rP v then v.node else A.par y
 R:=fun y p=>A.R y p+A.dl v y p
 gh:=fun o r=>A.gh o r || (decide (v.kind=3)&&(decide (o=v.o)&&decide (r=v.req)))
 g:=fun o r j=>if v.kind=3/\o=v.o/\r=v.req then(if j=2 then v.node else if j=3 then v.aT else 0)else if v.kind=4/\o=v.o/\r=v.of/\j=4 then v.req else A.g o r j
 ask:=fun o r=>A.ask o r || ((decide (v.kind=3) || decide (v.kind=4))&&(decide (o=v.o)&&decide (r=v.req)))
structure Ab.Ok(A:Ab):Prop where
 z:A.has 0=false
 p : ∀ y,A.has y=true->A.par y=0\/A.has (A.par y)=true
 p0 : ∀ y,A.has y=false->A.par y=0
 g : ∀ o r,A.gh o r=true->A.has (A.g o r 2)=true
 r0 : ∀ y p,A.has y=false->A.R y p=0
structure Ab.Pre(A:Ab)(v:EvM):Prop where
 n1:v.kind=1->A.has (rP v)=false/\rP v≠0/\(v.node=0\/A.has v.node=true)
 n2:v.kind=2->A.has v.node=true
 n3:v.kind=3->A.has v.node=true/\A.gh v.o v.req=false
 n4:v.kind=4->A.gh v.o v.of=true
 n5:v.kind=5->A.has v.node=true
section
variable {A B:Ab} {u v:EvM} {y:Int}
theorem Ab.H6(h:A.Ok){x:Int}(hx:A.has x=true) : ∀ i,A.up x i=0\/A.has (A.up x i)=true
 | 0 => .inr hx
 | i+1=>by
   show A.par (A.up x i)=0\/A.has (A.par (A.up x i))=true
   rcases Ab.H6 h hx i with e|e
   ·left; rw[e]; exact h.p0 0 h.z
   ·exact h.p _ e
theorem Ab.Ba(hy:A.has y=true):(A.qU v).has y=true:=by show(A.has y || _)=true; rw[hy]; rfl
theorem Ab.O5(c:A.Pre v)(hy:A.has y=true):(A.qU v).par y=A.par y:=by
 show(if v.kind=1/\y=rP v then v.node else A.par y)=A.par y;rw[b_];rintro ⟨a,b⟩;have:=(c.n1 a).1;rw[<- b,hy]at this; cases this
theorem Ab.VG(c:A.Pre v):(A.qU v).par 0=A.par 0:=by
 show(if v.kind=1/\(0:Int)=rP v then v.node else A.par 0)=A.par 0;rw[b_];rintro ⟨a,b⟩;exact(c.n1 a).2.1 b.symm
theorem Ab.VH(h:A.Ok)(a:A.Pre v){x:Int}(hx:A.has x=true) : ∀ i,(A.qU v).up x i=A.up x i
 | 0=>rfl
 | i+1=>by
   show(A.qU v).par ((A.qU v).up x i)=A.par (A.up x i);rw[Ab.VH h a hx i]
   rcases Ab.H6 h hx i with e|e
   ·rw[e]; exact Ab.VG a
   ·exact Ab.O5 a e
theorem Ab.VI(h:A.Ok)(b:A.Pre v){x:Int}(hx:A.has x=true)(y:Int):(A.qU v).on x y=A.on x y:=by
 unfold Ab.on;have e:((List.range 6).any fun i=>decide ((A.qU v).up x i=y))=((List.range 6).any fun i=>decide (A.up x i=y)):=by
  congr 1; funext i; rw[Ab.VH h b hx i]
 rw[e]
 cases hc:(List.range 6).any fun i=>decide (A.up x i=y)
 ·rw[H_,H_]
 rw[Bool.and_true,Bool.and_true];obtain⟨i,_,a⟩:=List.any_eq_true.1 hc;have a:=h_ a;show(A.has y || (decide (v.kind=1)&&decide (y=rP v)))=A.has y
 cases hy:A.has y
 ·rcases Ab.H6 h hx i with e0|e0
  ·rw[a]at e0
   cases c1:decide (v.kind=1)
   ·rfl
   have:=(b.n1 (h_ c1)).2.1;rw[g_ (show ¬ y=rP v by rw[e0]; exact fun q=>this q.symm)]; rfl
  rw[a,hy]at e0; cases e0
 rfl
theorem Ab.Li(f:A.Pre v){o r:Int}(d:A.gh o r=true)(j:Nat)(e:j≠4):(A.qU v).g o r j=A.g o r j:=by
 show(if v.kind=3/\o=v.o/\r=v.req then(if j=2 then v.node else if j=3 then v.aT else 0)else if v.kind=4/\o=v.o/\r=v.of/\j=4 then v.req else A.g o r j)=A.g o r j;rw[b_,b_]
 ·exact fun q=>e q.2.2.2
 rintro ⟨a,b,c⟩;have:=(f.n3 a).2;rw[<- b,<- c,d]at this; cases this
theorem Ab.adH{o r:Int}(a:A.gh o r=true):(A.qU v).gh o r=true:=by show(A.gh o r || _)=true; rw[a]; rfl
theorem Ab.adI(h:A.Ok)(b:A.Pre v):(A.qU v).Ok where
 z:=by
  show(A.has 0 || (decide (v.kind=1)&&decide ((0:Int)=rP v)))=false;rw[h.z,Bool.false_or]
  cases c1:decide (v.kind=1)
  ·rfl
  ·rw[g_ (fun q=>(b.n1 (h_ c1)).2.1 q.symm)]; rfl
 p:=fun y a=>by
  have a:(A.has y || (decide (v.kind=1)&&decide (y=rP v)))=true:=a;show(if v.kind=1/\y=rP v then v.node else A.par y)=0\/(A.qU v).has (if v.kind=1/\y=rP v then v.node else A.par y)=true;by_cases c:v.kind=1/\y=rP v
  ·rw[d_ c];exact(b.n1 c.1).2.2.imp id Ab.Ba
  ·rw[b_ c];have u:A.has y=true:=by
    rcases Bool.or_eq_true_iff.1 a with q|q
    ·exact q
    ·rw[R_]at q; exact L_ ⟨h_ q.1,h_ q.2⟩ c
   exact(h.p y u).imp id Ab.Ba
 p0:=fun y a=>by
  have a:(A.has y || (decide (v.kind=1)&&decide (y=rP v)))=false:=a;rw[Bool.or_eq_false_iff]at a;show(if v.kind=1/\y=rP v then v.node else A.par y)=0;rw[b_]
  ·exact h.p0 y a.1
  ·rintro ⟨s,t⟩;rw[f_ s,f_ t]at a; cases a.2
 g:=fun o r d=>by
  have d:(A.gh o r || (decide (v.kind=3)&&(decide (o=v.o)&&decide (r=v.req))))=true:=d;by_cases c:v.kind=3/\o=v.o/\r=v.req
  ·have:(A.qU v).g o r 2=v.node:=(by show(if v.kind=3/\o=v.o/\r=v.req then _ else _)=v.node; rw[d_ c]; rfl);rw[this]; exact Ab.Ba (b.n3 c.1).1
  ·have k:A.gh o r=true:=by
    rcases Bool.or_eq_true_iff.1 d with q|q
    ·exact q
    ·rw[R_,R_]at q; exact L_ ⟨h_ q.1,h_ q.2.1,h_ q.2.2⟩ c
   rw[Ab.Li b k 2 (by decide)];exact Ab.Ba (h.g o r k)
 r0:=fun y p a=>by
  have a:(A.has y || (decide (v.kind=1)&&decide (y=rP v)))=false:=a;rw[Bool.or_eq_false_iff]at a;show A.R y p+A.dl v y p=0;rw[h.r0 y p a.1,Int.zero_add];have l : ∀ x,A.on x y=false:=fun x=>by unfold Ab.on; rw[a.1]; rfl
  unfold Ab.dl;by_cases f:v.kind=1
  ·rw[d_ f,b_];rintro ⟨e,_⟩; rw[f_ f,f_ e]at a; cases a.2
  rw[b_ f];by_cases i:v.kind=2
  ·rw[d_ i,b_];rintro ⟨e,_⟩; rw[e,b.n2 i]at a; cases a.1
  rw[b_ i];by_cases m:v.kind=3
  ·rw[d_ m,b_]; rw[l]; exact fun q=>by cases q.1
  rw[b_ m];by_cases n:v.kind=4
  ·rw[d_ n,b_]; rw[l]; exact fun q=>by cases q.1
  rw[b_ n];by_cases j:v.kind=5
  ·rw[d_ j,b_];rintro ⟨e,_⟩; rw[e,b.n5 j]at a; cases a.1
  rw[b_ j]
theorem Ab.VJ(h:A.Ok)(c:A.Pre u)(i:A.Pre v)(y:Int)(p:Nat):(A.qU u).dl v y p=A.dl v y p:=by
 unfold Ab.dl;by_cases d:v.kind=1
 ·rw[d_ d,d_ d]
 rw[b_ d,b_ d];by_cases e:v.kind=2
 ·rw[d_ e,d_ e]
 rw[b_ e,b_ e];by_cases a:v.kind=3
 ·rw[d_ a,d_ a,Ab.VI h c (i.n3 a).1]
 rw[b_ a,b_ a];by_cases b:v.kind=4
 ·have f:=i.n4 b;rw[d_ b,d_ b,Ab.Li c f 2 (by decide),Ab.Li c f 3 (by decide),Ab.VI h c (h.g _ _ f)]
 rw[b_ b,b_ b]
theorem Ab.QJ(h1:A.inn=B.inn)(a:A.left=B.left)(b:A.own=B.own)(c:A.has=B.has)(d:A.par=B.par)(e:A.R=B.R)(f:A.gh=B.gh)(h:A.g=B.g)(i:A.ask=B.ask):A=B:=by
 cases A; cases B; simp only at h1 a b c d e f h i; subst h1 a b c d e f h i; rfl
theorem Ab.VK(h:A.Ok)(b:A.Pre u)(d:A.Pre v)(k:u.o≠v.o)(i:u.kind=1->v.kind=1->rP u≠rP v):(A.qU u).qU v=(A.qU v).qU u:=by
 apply Ab.QJ
 ·funext j; exact Bool.or_right_comm _ _ _
 ·funext j; exact Bool.or_right_comm _ _ _
 ·funext j; exact Int.add_right_comm _ _ _
 ·funext y; exact Bool.or_right_comm _ _ _
 ·funext y
  show(if v.kind=1/\y=rP v then v.node else if u.kind=1/\y=rP u then u.node else A.par y)=(if u.kind=1/\y=rP u then u.node else if v.kind=1/\y=rP v then v.node else A.par y);by_cases c:v.kind=1/\y=rP v
  ·rw[d_ c,d_ c,b_];rintro ⟨e,f⟩;exact i e c.1 (f.symm.trans c.2)
  rw[b_ c,b_ c]
 ·funext y p
  show A.R y p+A.dl u y p+(A.qU u).dl v y p=A.R y p+A.dl v y p+(A.qU v).dl u y p;rw[Ab.VJ h b d,Ab.VJ h d b,Int.add_right_comm]
 ·funext o r; exact Bool.or_right_comm _ _ _
 ·funext o r j
  show(if v.kind=3/\o=v.o/\r=v.req then _ else if v.kind=4/\o=v.o/\r=v.of/\j=4 then v.req else if u.kind=3/\o=u.o/\r=u.req then _ else if u.kind=4/\o=u.o/\r=u.of/\j=4 then u.req else A.g o r j) =
   (if u.kind=3/\o=u.o/\r=u.req then _ else if u.kind=4/\o=u.o/\r=u.of/\j=4 then u.req else if v.kind=3/\o=v.o/\r=v.req then _ else if v.kind=4/\o=v.o/\r=v.of/\j=4 then v.req else A.g o r j)
  by_cases c:o=v.o
  ·have a : ¬ o=u.o:=fun q=>k (q.symm.trans c);rw[b_ (show ¬ (u.kind=3/\o=u.o/\r=u.req)from fun q=>a q.2.1),b_ (show ¬ (u.kind=4/\o=u.o/\r=u.of/\j=4)from fun q=>a q.2.1),b_ (show ¬ (u.kind=3/\o=u.o/\r=u.req)from fun q=>a q.2.1),b_ (show ¬ (u.kind=4/\o=u.o/\r=u.of/\j=4)from fun q=>a q.2.1)]
  rw[b_ (show ¬ (v.kind=3/\o=v.o/\r=v.req)from fun q=>c q.2.1),b_ (show ¬ (v.kind=4/\o=v.o/\r=v.of/\j=4)from fun q=>c q.2.1),b_ (show ¬ (v.kind=3/\o=v.o/\r=v.req)from fun q=>c q.2.1),b_ (show ¬ (v.kind=4/\o=v.o/\r=v.of/\j=4)from fun q=>c q.2.1)]
 funext o r; exact Bool.or_right_comm _ _ _
end
end Rt
end
section
set_option linter.unusedVariables false
namespace Rt
def Ch(x:Nat->Int)(a:Nat):Int:=x a-x (6+a)+x (12+a)+(x (18+(6*0+a))+x (18+(6*1+a))+x (18+(6*2+a))+x (18+(6*3+a))+x (18+(6*4+a))+x (18+(6*5+a)))-(x (18+(6*a+0))+x (18+(6*a+1))+x (18+(6*a+2))+x (18+(6*a+3))+x (18+(6*a+4))+x (18+(6*a+5)))
structure Ab.QK(A:Ab)(v:EvM):Prop where
 inn:A.inn (aV v)=true
 left:A.left (aV v)=false
 pre:A.Pre v
 k1:v.kind=1->A.own (aV v)<5/\v.aT<=140737488355328 /\ ¬ ∀ i,i<4->A.has (A.up v.node i)=true
 k2:v.kind=2->A.R v.node (aV v)+v.aT<=140737488355328
 k3:v.kind=3->A.ask v.o v.req=false /\ ∀ y,A.on v.node y=true->v.aT<=Ch (A.R y) (aV v)
 k4:v.kind=4->A.ask v.o v.req=false/\A.g v.o v.of 4=0 /\ ∀ y,A.on (A.g v.o v.of 2) y=true->A.g v.o v.of 3<=A.R y (6+aV v)-A.R y (12+aV v)
 k5:v.kind=5->A.inn (dV v)=true/\v.aT<=Ch (A.R v.node) (aV v)
def ahF(a p:Nat):Prop:=p=a\/p=6+a\/p=12+a \/ ∃ k,k<6/\p=18+(6*a+k)
structure Ab.Le(A B:Ab)(a:Nat):Prop where
 inn : ∀ j,A.inn j=true->B.inn j=true
 left:B.left a=A.left a
 own:B.own a=A.own a
 has : ∀ y,A.has y=true->B.has y=true
 hid : ∀ s,1<=s/\s<1099511627776->B.has (iY ((a:Int)+1) s)=A.has (iY ((a:Int)+1) s)
 par : ∀ y,A.has y=true->B.par y=A.par y
 R1 : ∀ y p,A.has y=true->ahF a p->B.R y p=A.R y p
 R2 : ∀ y k,A.has y=true->k<6->A.R y (18+(6*k+a))<=B.R y (18+(6*k+a))
 gh : ∀ o r,A.gh o r=true->B.gh o r=true /\ ∀ j,j≠4->B.g o r j=A.g o r j
 gho : ∀ r,B.gh ((a:Int)+1) r=A.gh ((a:Int)+1) r
 go : ∀ r,B.g ((a:Int)+1) r 4=A.g ((a:Int)+1) r 4
 ask : ∀ r,B.ask ((a:Int)+1) r=A.ask ((a:Int)+1) r
structure O6(v:EvM):Prop where
 o:1<=v.o/\v.o<=6
 seq:1<=v.seq/\v.seq<1099511627776
 aT:0<=v.aT
 dst:v.kind=5->1<=v.dst/\v.dst<=6
section
variable {A B:Ab} {u v:EvM} {a:Nat} {x y:Int}
theorem O6.reg(h:O6 v):v.o=(aV v:Int)+1/\aV v<6:=by have:=h.o; unfold aV; omega
theorem O6.id(h:O6 v):rP v=1099511627776*v.o+v.seq:=by
 unfold rP iY; rw[d_ ⟨h.o.1,h.o.2,h.seq.1,h.seq.2⟩]
theorem O6.ne(a:O6 u)(b:O6 v)(h:u.o≠v.o):rP u≠rP v:=by
 rw[a.id,b.id]; have:=a.seq; have:=b.seq; have:=a.o; have:=b.o; omega
theorem Ab.Le.refl(A:Ab)(a:Nat):A.Le A a:=⟨fun _ h=>h,rfl,rfl,fun _ h=>h,fun _ _=>rfl,fun _ _=>rfl,fun _ _ _ _=>rfl,fun _ _ _ _=>M_ _,fun _ _ h=>⟨h,fun _ _=>rfl⟩,fun _=>rfl,fun _=>rfl,fun _=>rfl⟩
theorem Ab.Le.up(h:A.Le B a)(b:A.Ok)(c:B.Ok)(hx:A.has x=true) : ∀ i,B.up x i=A.up x i
 | 0=>rfl
 | i+1=>by
   show B.par (B.up x i)=A.par (A.up x i);rw[h.up b c hx i]
   rcases Ab.H6 b hx i with e|e
   ·rw[e,b.p0 0 b.z,c.p0 0 c.z]
   ·exact h.par _ e
theorem Ab.Le.on(h:A.Le B a)(c:A.Ok)(d:B.Ok)(hx:A.has x=true)(y:Int):B.on x y=A.on x y:=by
 unfold Ab.on;have e:((List.range 6).any fun i=>decide (B.up x i=y))=((List.range 6).any fun i=>decide (A.up x i=y)):=by
  congr 1; funext i; rw[h.up c d hx i]
 rw[e]
 cases hc:(List.range 6).any fun i=>decide (A.up x i=y)
 ·rw[H_,H_]
 rw[Bool.and_true,Bool.and_true];obtain⟨i,_,b⟩:=List.any_eq_true.1 hc;have b:=h_ b
 rcases Ab.H6 c hx i with e0|e0
 ·rw[b]at e0; rw[e0,c.z,d.z]
 rw[b]at e0; rw[e0,h.has _ e0]
theorem Ab.Ny(h:A.on x y=true):A.has y=true:=by unfold Ab.on at h; rw[R_]at h; exact h.1
theorem Ab.Le.loc(h:A.Le B a)(ha:a<6)(hy:A.has y=true):Ch (A.R y) a<=Ch (B.R y) a:=by
 have o : ∀ k,k<6->B.R y (18+(6*a+k))=A.R y (18+(6*a+k)):=fun k b=>h.R1 y _ hy (.inr (.inr (.inr ⟨k,b,rfl⟩)));unfold Ch;rw[h.R1 y a hy (.inl rfl),h.R1 y (6+a) hy (.inr (.inl rfl)),h.R1 y (12+a) hy (.inr (.inr (.inl rfl))),o 0 (by omega),o 1 (by omega),o 2 (by omega),o 3 (by omega),o 4 (by omega),o 5 (by omega)];have:=h.R2 y 0 hy (by omega); have:=h.R2 y 1 hy (by omega); have:=h.R2 y 2 hy (by omega); have:=h.R2 y 3 hy (by omega); have:=h.R2 y 4 hy (by omega); have:=h.R2 y 5 hy (by omega);omega
theorem Ab.Le.okE(h:A.Le B (aV v))(l:A.Ok)(m:B.Ok)(t:O6 v)(a:A.QK v):B.QK v:=by
 obtain⟨c,p⟩:=t.reg;have P:=a.pre;have w : ∀ r,B.gh v.o r=A.gh v.o r:=fun r=>by rw[c]; exact h.gho r
 have s : ∀ r,B.ask v.o r=A.ask v.o r:=fun r=>by rw[c]; exact h.ask r
 refine⟨h.inn _ a.inn,h.left.trans a.left,⟨fun k => ?_,fun k=>h.has _ (P.n2 k),fun k=>⟨h.has _ (P.n3 k).1,(w _).trans (P.n3 k).2⟩,fun k=>(w _).trans (P.n4 k),fun k=>h.has _ (P.n5 k)⟩,fun k => ?_,fun k => ?_,fun k => ?_,fun k => ?_,fun k=>⟨h.inn _ (a.k5 k).1,Q_ (a.k5 k).2 (h.loc p (P.n5 k))⟩⟩
 ·obtain⟨d,f,j⟩:=P.n1 k;refine⟨?_,f,j.imp (fun q=>q) (h.has _)⟩;have:=h.hid v.seq t.seq;rw[<- c]at this;exact this.trans d
 ·obtain⟨d,f,j⟩:=a.k1 k;refine⟨by rw[h.own]; exact d,f,fun q=>j fun i x => ?_⟩;have n:=q i x
  rcases(P.n1 k).2.2 with e|e
  ·exfalso;have:B.up v.node 0=0:=e;have:=q 0 (by omega);rw[‹B.up v.node 0=0›,m.z]at this; cases this
  rw[h.up l m e i]at n
  rcases Ab.H6 l e i with e0|e0
  ·rw[e0,m.z]at n; cases n
  exact e0
 ·rw[h.R1 _ _ (P.n2 k) (.inl rfl)]; exact a.k2 k
 ·refine⟨(s _).trans (a.k3 k).1,fun y b => ?_⟩;rw[h.on l m (P.n3 k).1]at b;exact Q_ ((a.k3 k).2 y b) (h.loc p (Ab.Ny b))
 obtain⟨d,f,j⟩:=a.k4 k;have u:=(h.gh _ _ (P.n4 k)).2;refine⟨(s _).trans d,by rw[c,h.go,<- c]; exact f,fun y b => ?_⟩;rw[u 2 (by decide),h.on l m (l.g _ _ (P.n4 k))]at b;rw[u 3 (by decide),h.R1 _ _ (Ab.Ny b) (.inr (.inl rfl)),h.R1 _ _ (Ab.Ny b) (.inr (.inr (.inl rfl)))];exact j y b
end
end Rt
end
section
set_option linter.unusedVariables false
namespace Rt
section
variable {A B:Ab} {u v:EvM} {a:Nat} {x y:Int}
theorem Ab.Le.dl(h:A.Le B a)(f:A.Ok)(j:B.Ok)(i:A.Pre u)(y:Int)(p:Nat):B.dl u y p=A.dl u y p:=by
 unfold Ab.dl;by_cases d:u.kind=1
 ·rw[d_ d,d_ d]
 rw[b_ d,b_ d];by_cases e:u.kind=2
 ·rw[d_ e,d_ e]
 rw[b_ e,b_ e];by_cases c:u.kind=3
 ·rw[d_ c,d_ c,h.on f j (i.n3 c).1]
 rw[b_ c,b_ c];by_cases b:u.kind=4
 ·have k:=h.gh _ _ (i.n4 b);rw[d_ b,d_ b,k.2 2 (by decide),k.2 3 (by decide),h.on f j (f.g _ _ (i.n4 b))]
 rw[b_ b,b_ b]
theorem or_mono{p q c:Bool}(h:p=true->q=true)(a:(p || c)=true):(q || c)=true:=by
 cases c
 ·rw[G_]at a ⊢; exact h a
 rw[Bool.or_true]
theorem Ab.Le.both(h:A.Le B a)(f:A.Ok)(i:B.Ok)(n:A.Pre u)(w:B.Pre u):(A.qU u).Le (B.qU u) a:=by
 have m : ∀ y,(A.qU u).has y=true->A.has y=true\/(A.has y=false/\B.has y=false/\u.kind=1/\y=rP u):=fun y b=>by
  have b:(A.has y || (decide (u.kind=1)&&decide (y=rP u)))=true:=b
  cases hc:A.has y
  ·right;rw[hc,Bool.false_or,R_]at b;have k:=h_ b.1; have e:=h_ b.2;exact⟨rfl,e ▸ (w.n1 k).1,k,e⟩
  ·exact .inl rfl
 refine⟨fun j d=>or_mono (h.inn j) d,?_,?_,fun y b=>or_mono (h.has y) b,fun s x => ?_,fun y b => ?_,fun y p b v => ?_,fun y k b t => ?_,fun o r l=>⟨or_mono (fun q=>(h.gh o r q).1) l,fun j d => ?_⟩,fun r => ?_,fun r => ?_,fun r => ?_⟩
 ·show(B.left a || _)=(A.left a || _); rw[h.left]
 ·show B.own a+_=A.own a+_; rw[h.own]
 ·show(B.has _ || _)=(A.has _ || _); rw[h.hid s x]
 ·show(if u.kind=1/\y=rP u then u.node else B.par y)=(if u.kind=1/\y=rP u then u.node else A.par y)
  rcases m y b with q|⟨_,_,k,e⟩
  ·rw[h.par y q]
  rw[d_ ⟨k,e⟩,d_ ⟨k,e⟩]
 ·show B.R y p+B.dl u y p=A.R y p+A.dl u y p;rw[h.dl f i n]
  rcases m y b with q|⟨q1,q2,_,_⟩
  ·rw[h.R1 y p q v]
  rw[f.r0 y p q1,i.r0 y p q2]
 ·show A.R y _+A.dl u y _<=B.R y _+B.dl u y _;rw[h.dl f i n]
  rcases m y b with q|⟨q1,q2,_,_⟩
  ·have:=h.R2 y k q t; omega
  rw[f.r0 y _ q1,i.r0 y _ q2]; exact M_ _
 ·show(if u.kind=3/\o=u.o/\r=u.req then(if j=2 then u.node else if j=3 then u.aT else 0)else if u.kind=4/\o=u.o/\r=u.of/\j=4 then u.req else B.g o r j)=(if u.kind=3/\o=u.o/\r=u.req then(if j=2 then u.node else if j=3 then u.aT else 0)else if u.kind=4/\o=u.o/\r=u.of/\j=4 then u.req else A.g o r j);by_cases c:u.kind=3/\o=u.o/\r=u.req
  ·rw[d_ c,d_ c]
  rw[b_ c,b_ c,b_ (show ¬ (u.kind=4/\o=u.o/\r=u.of/\j=4)from fun q=>d q.2.2.2),b_ (show ¬ (u.kind=4/\o=u.o/\r=u.of/\j=4)from fun q=>d q.2.2.2)];have l:(A.gh o r || (decide (u.kind=3)&&(decide (o=u.o)&&decide (r=u.req))))=true:=l
  rcases Bool.or_eq_true_iff.1 l with q|q
  ·exact(h.gh o r q).2 j d
  rw[R_,R_]at q; exact L_ ⟨h_ q.1,h_ q.2.1,h_ q.2.2⟩ c
 ·show(B.gh _ r || _)=(A.gh _ r || _); rw[h.gho r]
 ·show(if u.kind=3/\(a:Int)+1=u.o/\r=u.req then(if 4=2 then u.node else if 4=3 then u.aT else 0)else if u.kind=4/\(a:Int)+1=u.o/\r=u.of/\4=4 then u.req else B.g _ r 4)=(if u.kind=3/\(a:Int)+1=u.o/\r=u.req then(if 4=2 then u.node else if 4=3 then u.aT else 0)else if u.kind=4/\(a:Int)+1=u.o/\r=u.of/\4=4 then u.req else A.g _ r 4);rw[h.go r]
 show(B.ask _ r || _)=(A.ask _ r || _); rw[h.ask r]
theorem Ab.adJ(d:O6 u)(r:aV u≠a)(ha:a<6){p:Nat}(b:ahF a p)(y:Int):A.dl u y p=0:=by
 obtain⟨n,s⟩:=d.reg;have j:p≠aV u:=by rcases b with e|e|e|⟨k,hk,e⟩ <;> omega
 have l:p≠6+aV u:=by rcases b with e|e|e|⟨k,hk,e⟩ <;> omega
 have m:p≠12+aV u:=by rcases b with e|e|e|⟨k,hk,e⟩ <;> omega
 unfold Ab.dl;by_cases f:u.kind=1
 ·rw[d_ f,b_ fun q=>j q.2]
 rw[b_ f];by_cases g:u.kind=2
 ·rw[d_ g,b_ fun q=>j q.2]
 rw[b_ g];by_cases h:u.kind=3
 ·rw[d_ h,b_ fun q=>l q.2]
 rw[b_ h];by_cases i:u.kind=4
 ·rw[d_ i,b_ fun q=>m q.2]
 rw[b_ i];by_cases c:u.kind=5
 ·have o:=d.dst c;rw[d_ c,b_];rintro ⟨_,q⟩;unfold dV at q
  rcases b with e|e|e|⟨k,hk,e⟩ <;> omega
 rw[b_ c]
theorem Ab.ahG(a:O6 u){p:Nat}(d:18<=p)(y:Int):0<=A.dl u y p:=by
 obtain⟨b,e⟩:=a.reg;have c:=a.aT;unfold Ab.dl;split
 ·split <;> omega
 split
 ·split <;> omega
 split
 ·split <;> omega
 split
 ·rw[b_ fun q=>by omega]; omega
 split
 ·split <;> omega
 omega
theorem Ab.Le.step(h:A.Le B a)(x:B.Ok)(c:O6 u)(m:B.Pre u)(e:aV u≠a)(ha:a<6):A.Le (B.qU u) a:=by
 obtain⟨w,z⟩:=c.reg;have no : ¬ (a:Int)+1=u.o:=by omega
 refine⟨fun j d => ?_,?_,?_,fun y b=>Ab.Ba (h.has y b),fun s f => ?_,fun y b=>(Ab.O5 m (h.has y b)).trans (h.par y b),fun y p b l => ?_,fun y k b v => ?_,fun o r t => ?_,fun r => ?_,fun r => ?_,fun r => ?_⟩
 ·show(B.inn j || _)=true; rw[h.inn j d]; rfl
 ·show(B.left a || (decide (u.kind=7)&&decide (a=aV u)))=A.left a;rw[g_ (show ¬ a=aV u from fun q=>e q.symm),H_,G_]; exact h.left
 ·show B.own a+(if u.kind=1/\a=aV u then 1 else 0)=A.own a;rw[b_ fun q=>e q.2.symm,C_]; exact h.own
 ·show(B.has _ || (decide (u.kind=1)&&decide (iY ((a:Int)+1) s=rP u)))=_;rw[g_ (show ¬ iY ((a:Int)+1) s=rP u from fun q=>by
   rw[c.id]at q; unfold iY at q; rw[d_ ⟨by omega,by omega,f.1,f.2⟩]at q; have:=c.seq; omega),H_,G_]
  exact h.hid s f
 ·show B.R y p+B.dl u y p=A.R y p;rw[Ab.adJ c e ha l,C_]; exact h.R1 y p b l
 ·show A.R y _<=B.R y _+B.dl u y _;have:=h.R2 y k b v;have:=Ab.ahG (A:=B) c (p:=18+(6*k+a)) (by omega) y;omega
 ·obtain⟨i,n⟩:=h.gh o r t;exact⟨Ab.adH i,fun j d=>(Ab.Li m i j d).trans (n j d)⟩
 ·show(B.gh _ r || (decide (u.kind=3)&&(decide ((a:Int)+1=u.o)&&decide (r=u.req))))=_;rw[g_ no,Bool.false_and,H_,G_]; exact h.gho r
 ·show(if u.kind=3/\(a:Int)+1=u.o/\r=u.req then(if 4=2 then u.node else if 4=3 then u.aT else 0)else if u.kind=4/\(a:Int)+1=u.o/\r=u.of/\4=4 then u.req else B.g _ r 4)=_;rw[b_ fun q=>no q.2.1,b_ fun q=>no q.2.1]; exact h.go r
 show(B.ask _ r || ((decide (u.kind=3) || decide (u.kind=4))&&(decide ((a:Int)+1=u.o)&&decide (r=u.req))))=_;rw[g_ no,Bool.false_and,H_,G_]; exact h.ask r
end
end Rt
end
section
set_option linter.unusedVariables false
namespace Rt
def wQ(K:Nat->Int)(v:EvM):Bool:=decide (v.seq<=K (aL v))
def fV(ev:Nat->EvM)(K:Nat->Int)(A0:Ab):Nat->Ab
 | 0=>A0
 | n+1=>if wQ K (ev n)=true then(fV ev K A0 n).qU (ev n)else fV ev K A0 n
structure Evs(A0:Ab)(ev:Nat->EvM)(an:Nat):Prop where
 ok0:A0.Ok
 rd : ∀ k,k<an->cO (fA ev k) (ev k)=true
 g : ∀ k,k<an->O6 (ev k)
 dc : ∀ k,k<an->Du ev an (ev k).deps
 tk : ∀ k,k<an->(fV ev (ev k).deps A0 k).QK (ev k)
section
variable {A0:Ab} {ev:Nat->EvM} {an n m i j k:Nat} {K K1 K2:Nat->Int}
theorem mH{v:EvM}:wQ K v=true<->v.seq<=K (aL v):=by unfold wQ; exact O_
theorem Evs.seq(h:Evs A0 ev an)(a:k<an):(ev k).seq=fA ev k (aL (ev k))+1:=(FW (h.rd k a)).2.1
theorem Evs.mono(h:Evs A0 ev an)(a:j<an)(c:k<an)(e:aL (ev j)=aL (ev k))(b:j<k):(ev j).seq<(ev k).seq:=by
 rw[h.seq a,h.seq c];have:=DZ (ev:=ev) b;rw[e]at this ⊢; omega
theorem Evs.uniq(h:Evs A0 ev an)(b:j<an)(c:k<an)(a:aL (ev j)=aL (ev k))(d:(ev j).seq=(ev k).seq):j=k:=by
 rcases Nat.lt_trichotomy j k with q|q|q
 ·have:=h.mono b c a q; omega
 ·exact q
 have:=h.mono c b a.symm q; omega
theorem Evs.ahead(h:Evs A0 ev an)(a:j<an)(b:k<an)(e:wQ (ev k).deps (ev j)=true):j<k:=by
 have e:=mH.1 e;have d:=(FW (h.rd k b)).2.2 (aL (ev j)) (h.g j a).reg.2;rw[h.seq a]at e;by_cases c:j<k
 ·exact c
 have:=cnt_mono (ev:=ev) (i:=aL (ev j)) (show k<=j by omega); omega
theorem mo(e:wQ K (ev n)=true):fV ev K A0 (n+1)=(fV ev K A0 n).qU (ev n):=by show(if _ then _ else _)=_; rw[d_ e]
theorem mI(e:wQ K (ev n)=false):fV ev K A0 (n+1)=fV ev K A0 n:=by show(if _ then _ else _)=_; rw[b_ (by rw[e]; decide)]
theorem Jj(h:Evs A0 ev an)(a:Nat)(ha:a<6)(f : ∀ i,i<6->K1 i<=K2 i) : ∀ m,m<=an->(∀ i,i<=m->(fV ev K1 A0 i).Ok)->(∀ i,i<=m->(fV ev K2 A0 i).Ok)->(∀ i,i<m->wQ K1 (ev i)=true->(fV ev K1 A0 i).QK (ev i))->(∀ i,i<m->wQ K2 (ev i)=true->(fV ev K2 A0 i).QK (ev i)) ->
 (∀ i,i<m->aL (ev i)=a->wQ K2 (ev i)=true->wQ K1 (ev i)=true)->(fV ev K1 A0 m).Le (fV ev K2 A0 m) a
 | 0,_,_,_,_,_,_=>Ab.Le.refl _ _
 | m+1,hm,o1,o2,v1,v2,ho=>by
   have d:=Jj h a ha f m (by omega) (fun i c=>o1 i (by omega)) (fun i c=>o2 i (by omega)) (fun i c=>v1 i (by omega)) (fun i c=>v2 i (by omega)) (fun i c=>ho i (by omega))
   cases c1:wQ K1 (ev m)with
   | true =>
     have b:wQ K2 (ev m)=true:=mH.2 (Q_ (mH.1 c1) (f _ (h.g m (by omega)).reg.2));rw[mo c1,mo b];exact d.both (o1 m (by omega)) (o2 m (by omega)) (v1 m (by omega) c1).pre (v2 m (by omega) b).pre
   | false =>
     rw[mI c1]
     cases b:wQ K2 (ev m)with
     | true =>
       rw[mo b];exact d.step (o2 m (by omega)) (h.g m (by omega)) (v2 m (by omega) b).pre (fun e=>by have:=ho m (by omega) e b; rw[c1]at this; cases this) ha
     | false=>rw[mI b]; exact d
theorem uT(h:Evs A0 ev an) : ∀ n,n<=an -> ∀ K,Du ev an K->(∀ i,i<=n->(fV ev K A0 i).Ok) /\ ∀ i,i<n->wQ K (ev i)=true->(fV ev K A0 i).QK (ev i)
 | 0,_,K,_=>⟨fun i a=>(show i=0 by omega) ▸ h.ok0,fun i a=>L_ a (u_ _)⟩
 | n+1,hn,K,hc=>by
   obtain⟨o,v⟩:=uT h n (by omega) K hc;have f:wQ K (ev n)=true->(fV ev K A0 n).QK (ev n):=fun c=>by
    obtain⟨l,r⟩:=uT h n (by omega) (ev n).deps (h.dc n (by omega));have d:=h.g n (by omega);have p:=Jj h (aV (ev n)) d.reg.2 (hc.cl n (by omega) (mH.1 c)) n (by omega) l o r v (fun i a e t=>by
     have u:=h.mono (j:=i) (k:=n) (by omega) (by omega) e a;have b:=(FW (h.rd n (by omega))).1;refine mH.2 ?_;have m:(ev n).deps (aL (ev n))=(ev n).seq-1:=by
      unfold bS at b; simp only[R_,decide_eq_true_eq]at b; exact b.1.1.1.2
     rw[show aL (ev i)=aL (ev n)from e,m]; omega)
    exact p.okE (l n (z_ _)) (o n (z_ _)) d (h.tk n (by omega))
   have s : ∀ i,i<n+1->wQ K (ev i)=true->(fV ev K A0 i).QK (ev i):=fun i a e=>by
    by_cases q:i=n
    ·subst q; exact f e
    ·exact v i (by omega) e
   refine⟨fun i a => ?_,s⟩;by_cases q:i=n+1
   ·subst q
    cases c:wQ K (ev n)with
    | true=>rw[mo c]; exact Ab.adI (o n (z_ _)) (f c).pre
    | false=>rw[mI c]; exact o n (z_ _)
   ·exact o i (by omega)
end
end Rt
end
section
set_option linter.unusedVariables false
namespace Rt
section
variable {A0:Ab} {ev:Nat->EvM} {an n m i j k:Nat} {K:Nat->Int}
theorem Ci(h:Evs A0 ev an)(a:j<an) : ∀ m,j<=m->m<=an->fV ev (ev j).deps A0 m=fV ev (ev j).deps A0 j
 | 0,h1,_=>by obtain rfl:j=0:=(by omega); rfl
 | m+1,h1,h2=>by
   by_cases e:j=m+1
   ·rw[e]
   ·have c:wQ (ev j).deps (ev m)=false:=by
     cases q:wQ (ev j).deps (ev m)with
     | true=>have:=h.ahead (show m<an by omega) a q; omega
     | false=>rfl
    rw[mI c];exact Ci h a m (by omega) (by omega)
theorem VL{v:EvM}(h:bS v=true):v.deps (aL v)=v.seq-1:=by
 unfold bS at h; simp only[R_,decide_eq_true_eq]at h; exact h.1.1.1.2
theorem H7(h:Evs A0 ev an)(l:Du ev an K)(b:j<an)(hr:cO K (ev j)=true)(h1:j<=m)(a:m<=an):(fV ev K A0 m).QK (ev j):=by
 obtain⟨f,q⟩:=uT h m a (ev j).deps (h.dc j b);obtain⟨o,v⟩:=uT h m a K l;obtain⟨n,s,p⟩:=FW hr;have c:=h.g j b;have d:=Jj h (aV (ev j)) c.reg.2 p m a f o q v (fun i r e k=>by
  refine mH.2 ?_;have:=mH.1 k;rw[show aL (ev i)=aL (ev j)from e]at this ⊢;rw[VL n]; omega)
 rw[Ci h b m h1 a]at d;exact d.okE (by rw[<- Ci h b m h1 a]; exact f m (z_ _)) (o m (z_ _)) c (h.tk j b)
def Jk(K:Nat->Int)(v:EvM):Nat->Int:=aH K (aL v) (K (aL v)+1)
theorem VN(h:Evs A0 ev an)(a:j<an)(hr:cO K (ev j)=true)(hi:i<an)(b:i≠j):wQ (Jk K (ev j)) (ev i)=wQ K (ev i):=by
 have d:=(FW hr).2.1;have:wQ (Jk K (ev j)) (ev i)=true<->wQ K (ev i)=true:=by
  rw[mH,mH];unfold Jk aH;split
  ·rename_i e;rw[e];constructor
   ·intro q;by_cases c:(ev i).seq<=K (aL (ev j))
    ·exact c
    ·exact L_ (h.uniq hi a e (by omega)) b
   ·intro q; omega
  ·exact Iff.rfl
 cases c1:wQ (Jk K (ev j)) (ev i) <;> cases c2:wQ K (ev i) <;> simp_all
theorem FD(h:Evs A0 ev an)(a:j<an)(hr:cO K (ev j)=true) : ∀ m,m<=j->fV ev (Jk K (ev j)) A0 m=fV ev K A0 m
 | 0,_=>rfl
 | m+1,hm=>by
   have e:=VN h a hr (show m<an by omega) (show m≠j by omega)
   cases c:wQ K (ev m)with
   | true=>rw[mo (e.trans c),mo c,FD h a hr m (by omega)]
   | false=>rw[mI (e.trans c),mI c,FD h a hr m (by omega)]
theorem H8(h:Evs A0 ev an)(b:Du ev an K)(a:j<an)(hr:cO K (ev j)=true) : ∀ m,j<m->m<=an->fV ev (Jk K (ev j)) A0 m=(fV ev K A0 m).qU (ev j)
 | 0,h1,_=>L_ h1 (u_ _)
 | m+1,h1,h2=>by
   have r:=(FW hr).2.1;by_cases e:m=j
   ·subst e;have l:wQ (Jk K (ev m)) (ev m)=true:=mH.2 (by unfold Jk aH; rw[d_ rfl]; omega);have n:wQ K (ev m)=false:=by
     cases q:wQ K (ev m)with
     | true=>have:=mH.1 q; omega
     | false=>rfl
    rw[mo l,mI n,FD h a hr m (z_ _)]
   ·have k:=H8 h b a hr m (by omega) (by omega);have f:=VN h a hr (show m<an by omega) e
    cases c:wQ K (ev m)with
    | true =>
      obtain⟨o,v⟩:=uT h (m+1) h2 K b;rw[mo (f.trans c),mo c,k];have i:(ev j).o≠(ev m).o:=fun q=>by
       have d:aL (ev j)=aL (ev m):=(by unfold aL; rw[q]);have s:=h.mono a (show m<an by omega) d (by omega);have p:=mH.1 c;rw[<- d]at p; omega
      exact Ab.VK (o m (by omega)) (H7 h b a hr (by omega) (by omega)).pre (v m (by omega) c).pre i (fun _ _=>O6.ne (h.g j a) (h.g m (by omega)) i)
    | false=>rw[mI (f.trans c),mI c,k]
theorem YN(h:Evs A0 ev an)(b:Du ev an K)(a:j<an)(hr:cO K (ev j)=true):fV ev (Jk K (ev j)) A0 an=(fV ev K A0 an).qU (ev j):=H8 h b a hr an a (z_ _)
end
end Rt
end
section
set_option linter.unusedVariables false
namespace Rt
def dY(m:dK):Ab where
 inn:=m.inn
 left:=m.left
 own:=m.own
 has:=m.T.has
 par:=m.T.par
 R:=aZ m
 gh:=iF m
 g:=fun o r j=>if iF m o r=true/\2<=j/\j<=4 then m.g (eP m o r) j else 0
 ask:=gQ m
section
variable {m:dK} {T:dL} {x y:Int} {v:EvM}
theorem H9{x p:Nat->Int} : ∀ {n:Nat} {k:Int},dO x n k=false->iy x p n k=0
 | 0,k,_=>rfl
 | n+1,k,h=>by
   have h:(dO x n k || decide (x n=k))=false:=h;rw[Bool.or_eq_false_iff]at h;show(if x n=k then p n else iy x p n k)=0;rw[b_ (j_ h.2)];exact H9 h.1
def Lj(T:dL)(x:Int):Nat->Int
 | 0=>x
 | i+1=>T.par (Lj T x i)
theorem FE(T:dL)(x:Int) : ∀ i,Lj T x (i+1)=Lj T (T.par x) i
 | 0=>rfl
 | i+1=>by show T.par (Lj T x (i+1))=T.par (Lj T (T.par x) i); rw[FE T x i]
theorem QL(h:T.has x=false):T.path x = []:=by
 have : ¬ T.has x=true:=by rw[h]; decide
 cases e:T.path x with
 | nil=>rfl
 | cons a l=>exact L_ (show jm T.x T.p T.n 4 x = []from kI h) (by rw[show jm T.x T.p T.n 4 x=T.path x from rfl,e]; exact fun q=>by cases q)
theorem Eb(g:T.ok) : ∀ n x,(T.path x).length<=n->(∀ i,i<(T.path x).length->(T.path x).getD i 0=Lj T x i/\T.has (Lj T x i)=true)/\T.has (Lj T x (T.path x).length)=false
 | 0,x,hn=>by
   have e:T.path x = []:=List.length_eq_zero_iff.1 (by omega);rw[e];refine⟨fun i d=>L_ d (u_ _),?_⟩
   cases c:T.has (Lj T x [].length)with
   | false=>rfl
   | true=>rw[dL.step g (show T.has x=true from c)]at e; cases e
 | n+1,x,hn=>by
   cases c:T.has x with
   | false =>
     rw[QL c];exact⟨fun i d=>L_ d (u_ _),c⟩
   | true =>
     have f:=dL.step g c;have k:(T.path x).length=(T.path (T.par x)).length+1:=(by rw[f]; rfl);obtain⟨h,j⟩:=Eb g n (T.par x) (by omega);refine⟨fun i d => ?_,by rw[k,FE]; exact j⟩
     cases i with
     | zero=>rw[f]; exact⟨rfl,c⟩
     | succ i =>
       rw[FE];obtain⟨a,b⟩:=h i (by omega);refine⟨?_,b⟩;rw[f];exact a
theorem FH(m:dK)(x:Int) : ∀ i,(dY m).up x i=Lj m.T x i
 | 0=>rfl
 | i+1=>by show m.T.par ((dY m).up x i)=m.T.par (Lj m.T x i); rw[FH m x i]
theorem Ll(a:T.ok){k:Nat}(h:T.has (Lj T x k)=false) : ∀ i,k<=i->T.has (Lj T x i)=false
 | 0,hi=>by obtain rfl:k=0:=(by omega); exact h
 | i+1,hi=>by
   by_cases e:k=i+1
   ·rw[<- e]; exact h
   ·have:=Ll a h i (by omega);have b:T.par (Lj T x i)=0:=H9 this;show T.has (T.par (Lj T x i))=false;rw[b]; exact Bd.WO a
theorem Cj(j:m.T.ok)(x y:Int):(dY m).on x y=true<->y∈m.T.path x:=by
 obtain⟨h,n⟩:=Eb j _ x (z_ _);have o:=dL.yD (T:=m.T) (k:=x);unfold Ab.on;rw[R_,List.any_eq_true,List.mem_iff_getElem];constructor
 ·rintro ⟨l,i,d,e⟩;have e:=h_ e;rw[FH]at e;have f:i<(m.T.path x).length:=by
   by_cases c:i<(m.T.path x).length
   ·exact c
   ·have:=Ll j n i (by omega);rw[e]at this;rw[show(dY m).has y=m.T.has y from rfl,this]at l; cases l
  refine⟨i,f,?_⟩;have:=(h i f).1;rw[r_,o_ f]at this;exact this.trans e
 rintro ⟨i,d,e⟩;obtain⟨a,b⟩:=h i d;rw[r_,o_ d]at a;have g:Lj m.T x i=y:=a.symm.trans e;refine⟨by rw[<- g]; exact b,i,N_.2 (by omega),f_ (by rw[FH]; exact g)⟩
end
end Rt
end
section
set_option linter.unusedVariables false
namespace Rt
theorem yG{x:Nat->Int}{n:Int}{b:Bool}{a:Int}{off:Nat}(h:(bT x n b a off).2=0):may x=true/\1<=n/\n<=1125899906842624/\b=true/\a=0/\x off+n<=1125899906842624/\(bT x n b a off).1=upd x off (x off+n):=by
 rcases nM x n b a off with ⟨_,c,_⟩|⟨⟨hm,h1,c,hr,he,hx⟩,heq⟩
 ·exact L_ h c
 exact⟨hm,h1,c,hr,he,hx,by rw[heq]⟩
section
variable {m:dK} {x y:Int} {v:EvM}
theorem FI(b:m.T.ok){k:Int}(d:m.T.has k=true)(r:Nat->Int)(y:Int):aZ (BO m k r) y=if y=k then r else aZ m y:=by
 unfold aZ;show(if m.T.has y=true then aM m.R (m.idx k) r (m.idx y)else Fv)=_;by_cases e:y=k
 ·subst e; rw[d_ d,d_ rfl]; unfold aM; rw[d_ rfl]
 rw[b_ e];by_cases c:m.T.has y=true
 ·rw[d_ c,d_ c];unfold aM;rw[b_]
  ·rfl
  intro q;have a:=(dK.CZ b c).2;rw[q,(dK.CZ b d).2]at a;exact e a.symm
 rw[b_ c,b_ c]
open Classical in
theorem Jl(a:m.T.ok)(f:(Nat->Int)->(Nat->Int) × Int)(x y:Int):aZ (oF m f (m.T.path x)) y=if y∈m.T.path x then(f (aZ m y)).1 else aZ m y:=by
 unfold aZ;show(if m.T.has y=true then(if m.T.x (m.idx y)∈m.T.path x then(f (m.R (m.idx y))).1 else m.R (m.idx y))else Fv)=_;by_cases c:m.T.has y=true
 ·rw[d_ c,d_ c,(dK.CZ a c).2]; rfl
 rw[b_ c,b_ c,b_ fun q=>c (dL.nO a rfl y q)]
theorem yH(b:m.T.ok){f:(Nat->Int)->(Nat->Int) × Int}(h:dA m f (m.T.path x)=0)(hy:y∈m.T.path x):(f (aZ m y)).2=0:=by
 obtain⟨i,a,e⟩:=List.getElem_of_mem hy;have:=Fq h i a;rw[r_,o_ a]at this;rw[<- e];unfold aZ;rw[d_ (dL.nO b rfl _ (P_ a))];exact this
theorem FJ(h:bS v=true):v.o=(aV v:Int)+1/\aV v<6/\v.o.toNat-1=aV v:=by
 have:=nN h; unfold aV; omega
theorem Jm{x:Nat->Int}{off:Nat}{n:Int}(p:Nat):upd x off (x off+n) p=x p+if p=off then n else 0:=by
 unfold upd;by_cases e:p=off
 ·subst e; rw[d_ rfl,d_ rfl]
 rw[b_ e,b_ e,C_]
theorem adK(f:m.T.ok)(k:bS v=true)(j:v.kind=1)(a:iU m v=0)(y:Int)(p:Nat):aZ (CV m v) y p=aZ m y p+(dY m).dl v y p:=by
 have d:m.T.has (ng v)=false:=by
  unfold iU at a;split at a
  ·cases a
  ·exact(Et a).2.1
 have h:rP v=ng v:=qJ k;unfold Ab.dl;rw[d_ j,h];unfold aZ;show(if(m.T.put (ng v) v.node).has y=true then aM m.R m.T.n (upd (fun _=>0) (aL v) v.aT) (yV (aM m.T.x m.T.n (ng v)) (m.T.n+1) y)else Fv) p=_;rw[dL.jr];by_cases e:ng v=y
 ·subst e;rw[f_ rfl,Bool.or_true,d_ rfl,d,b_ (by decide),K4 _ _ _ (fun i g e=>by have:=dL.zu g; rw[e,d]at this; cases this)]
  unfold aM;rw[d_ rfl];show upd (fun _=>0) (aL v) v.aT p=0+_;unfold upd;rw[Int.zero_add];by_cases c:p=aL v
  ·rw[d_ c,d_ ⟨rfl,c⟩]
  rw[b_ c,b_ (fun q=>c q.2)]
 rw[g_ e,G_,b_ (show ¬ (y=ng v/\p=aV v)from fun q=>e q.1.symm),C_];by_cases c:m.T.has y=true
 ·rw[d_ c,d_ c,K5 _ _ e];have b:=(dK.CZ f c).1;have b:yV m.T.x m.T.n y<m.T.n:=b;unfold aM;rw[b_ (by omega)];rfl
 rw[b_ c,b_ c]
theorem YO(f:m.T.ok)(g:bS v=true)(d:v.kind=2)(a:jv m v=0)(y:Int)(p:Nat):aZ (tX m v) y p=aZ m y p+(dY m).dl v y p:=by
 have b:m.T.has v.node=true:=by
  unfold jv at a
  cases c:m.T.has v.node with
  | true=>rfl
  | false=>rw[d_ c]at a; cases a
 unfold Ab.dl;rw[b_ (by rw[d]; decide),d_ d];unfold tX;rw[FI f b];by_cases e:y=v.node
 ·subst e;rw[d_ rfl,Jm];unfold aZ;rw[d_ b];show m.R (m.idx v.node) p+(if p=aL v then v.aT else 0)=m.R (m.idx v.node) p+_;by_cases c:p=aL v
  ·rw[d_ c,d_ ⟨rfl,c⟩]
  rw[b_ c,b_ (fun q=>c q.2)]
 rw[b_ e,b_ (fun q=>e q.1),C_]
theorem adL(j:m.T.ok)(z:bS v=true)(f:v.kind=5)(d:kg m v=0)(y:Int)(p:Nat):aZ (CQ m v) y p=aZ m y p+(dY m).dl v y p:=by
 have g:m.T.has v.node=true/\(rJ m v).2=0:=by
  unfold kg at d
  cases c:m.T.has v.node with
  | true =>
    rw[b_ (by rw[c]; decide)]at d;split at d
    ·cases d
    ·exact⟨rfl,d⟩
  | false=>rw[d_ c]at d; cases d
 obtain⟨a,b,s,t,w,x,u,l,n,o,r,k⟩:=AJ g.2;have h:aV v=a:=by unfold aV; omega
 have i:dV v=b:=by unfold dV; omega
 unfold Ab.dl;rw[b_ (by rw[f]; decide),b_ (by rw[f]; decide),b_ (by rw[f]; decide),b_ (by rw[f]; decide),d_ f,h,i];unfold CQ;rw[FI j g.1];by_cases e:y=v.node
 ·subst e;rw[d_ rfl];unfold rJ;rw[k,Jm];unfold aZ;rw[d_ g.1];show m.R (m.idx v.node) p+(if p=18+a*6+b then v.aT else 0)=m.R (m.idx v.node) p+_;by_cases c:p=18+a*6+b
  ·rw[d_ c,d_ ⟨rfl,by omega⟩]
  rw[b_ c,b_ (fun q=>c (by omega))]
 rw[b_ e,b_ (fun q=>e q.1),C_]
theorem VO(a:m.T.ok){f:(Nat->Int)->(Nat->Int) × Int}{x:Int}{n:Int}{off:Nat}(b : ∀ y,y∈m.T.path x->(f (aZ m y)).1=upd (aZ m y) off (aZ m y off+n))(y:Int)(p:Nat):aZ (oF m f (m.T.path x)) y p=aZ m y p+if(dY m).on x y=true/\p=off then n else 0:=by
 rw[Jl a];by_cases c:y∈m.T.path x
 ·rw[d_ c,b y c,Jm];by_cases e:p=off
  ·rw[d_ e,d_ ⟨(Cj a x y).2 c,e⟩]
  rw[b_ e,b_ (fun q=>e q.2)]
 rw[b_ c,b_ (fun q=>c ((Cj a x y).1 q.1)),C_]
theorem adM(d:m.T.ok)(g:bS v=true)(b:v.kind=3)(a:jO m v=0)(y:Int)(p:Nat):aZ (ko m v) y p=aZ m y p+(dY m).dl v y p:=by
 have e:dA m (fun x=>bB x v.o v.aT) (m.T.path v.node)=0:=by
  unfold jO at a;split at a
  ·cases a
  split at a
  ·cases a
  exact a
 unfold Ab.dl;rw[b_ (by rw[b]; decide),b_ (by rw[b]; decide),d_ b];refine VO d (f:=fun x=>bB x v.o v.aT) (x:=v.node) (fun y h => ?_) y p;have c:(bB (aZ m y) v.o v.aT).2=0:=yH d e h;unfold bB at c;show(bB (aZ m y) v.o v.aT).1=_;unfold bB;rw[(yG c).2.2.2.2.2.2,(FJ g).2.2]
theorem adN(i:m.T.ok)(l:bS v=true)(b:v.kind=4)(a:jf m v=0)(y:Int)(p:Nat):aZ (iB m v) y p=aZ m y p+(dY m).dl v y p:=by
 have d:iF m v.o v.of=true/\dA m (fun x=>bE x v.o (m.g (eP m v.o v.of) 3)) (m.T.path (m.g (eP m v.o v.of) 2))=0:=by
  unfold jf at a;split at a
  ·cases a
  split at a
  ·cases a
  rename_i c;refine⟨?_,a⟩
  cases e:iF m v.o v.of with
  | true=>rfl
  | false=>exact L_ (.inl e) c
 have j:(dY m).g v.o v.of 2=m.g (eP m v.o v.of) 2:=d_ ⟨d.1,by decide,by decide⟩;have k:(dY m).g v.o v.of 3=m.g (eP m v.o v.of) 3:=d_ ⟨d.1,by decide,by decide⟩;unfold Ab.dl;rw[b_ (by rw[b]; decide),b_ (by rw[b]; decide),b_ (by rw[b]; decide),d_ b,j,k];refine VO i (f:=fun x=>bE x v.o (m.g (eP m v.o v.of) 3)) (x:=m.g (eP m v.o v.of) 2) (fun y n => ?_) y p;have h:(bE (aZ m y) v.o (m.g (eP m v.o v.of) 3)).2=0:=yH i d.2 n;unfold bE at h;show(bE (aZ m y) v.o (m.g (eP m v.o v.of) 3)).1=_;unfold bE;rw[(yG h).2.2.2.2.2.2,(FJ l).2.2]
theorem Lm{m':dK}(a:m'.an=m.an+1)(b:m'.ao=aM m.ao m.an v.o)(c:m'.ar=aM m.ar m.an v.req)(o r:Int):gQ m' o r=(gQ m o r || (decide (o=v.o)&&decide (r=v.req))):=by
 have:gQ m' o r=true<->(gQ m o r=true\/(v.o=o/\v.req=r)):=by unfold gQ; rw[a,b,c]; exact Fy
 rw[Bool.eq_iff_iff,this,Bool.or_eq_true,R_,O_,O_];exact⟨fun h=>h.imp id fun q=>⟨q.1.symm,q.2.symm⟩,fun h=>h.imp id fun q=>⟨q.1.symm,q.2.symm⟩⟩
theorem VP{k1 k2:Nat->Int}{n:Nat}{a b o r:Int}(h : ¬ (a=o/\b=r)):wz (aM k1 n a) (aM k2 n b) (n+1) o r=wz k1 k2 n o r:=by
 have d : ∀ k,k<=n->wz (aM k1 n a) (aM k2 n b) k o r=wz k1 k2 k o r:=fun k=>by
  induction k with
  | zero=>intro _; rfl
  | succ k ih =>
    intro e;show(if aM k1 n a k=o/\aM k2 n b k=r then k else _)=(if k1 k=o/\k2 k=r then k else _);rw[ih (by omega)];have c : ¬ k=n:=(by omega);rw[show aM k1 n a k=k1 k from b_ c,show aM k2 n b k=k2 k from b_ c]
 show(if aM k1 n a n=o/\aM k2 n b n=r then n else wz (aM k1 n a) (aM k2 n b) n o r)=_;rw[d n (z_ _)];rw[show aM k1 n a n=a from d_ rfl,show aM k2 n b n=b from d_ rfl,b_ h]
theorem VQ{k1 k2:Nat->Int}{n:Nat}{a b:Int}:wz (aM k1 n a) (aM k2 n b) (n+1) a b=n:=by
 show(if aM k1 n a n=a/\aM k2 n b n=b then n else _)=_;unfold aM;rw[d_ ⟨d_ rfl,d_ rfl⟩]
theorem yI(g:Nat->Nat->Int)(n:Nat)(r:Nat->Int)(j:Nat):(fun i=>aM g n r i j)=aM (fun i=>g i j) n (r j):=by
 funext i; unfold aM; split <;> rfl
end
end Rt
end
section
set_option linter.unusedVariables false
namespace Rt
section
variable {m:dK} {x y:Int} {v:EvM}
theorem jg{b c:Bool}(h:c=false):b=(b || c):=by rw[h,G_]
theorem Jy{k:Int}(h:v.kind≠k){c:Bool}:(decide (v.kind=k)&&c)=false:=by rw[g_ h]; rfl
theorem VR(i:m.T.ok)(e:bS v=true)(a:v.kind=1)(h:iU m v=0):dY (CV m v)=(dY m).qU v:=by
 have d:rP v=ng v:=qJ e;have b:v.kind≠3:=by rw[a]; decide
 have f:v.kind≠4:=by rw[a]; decide
 have k:v.kind≠6:=by rw[a]; decide
 have l:v.kind≠7:=by rw[a]; decide
 apply Ab.QJ
 ·funext j; exact jg (Jy k)
 ·funext j; exact jg (Jy l)
 ·funext j
  show aH m.own (aL v) (m.own (aL v)+1) j=m.own j+if v.kind=1/\j=aV v then 1 else 0;unfold aH;by_cases c:j=aL v
  ·rw[d_ c,d_ ⟨a,c⟩,c]
  rw[b_ c,b_ (fun q=>c q.2),C_]
 ·funext y
  show(m.T.put (ng v) v.node).has y=(m.T.has y || (decide (v.kind=1)&&decide (y=rP v)));rw[dL.jr,d,f_ a,Bool.true_and]
  congr 1
  exact decide_eq_decide.2 ⟨Eq.symm,Eq.symm⟩
 ·funext y
  show(m.T.put (ng v) v.node).par y=if v.kind=1/\y=rP v then v.node else m.T.par y;rw[dL.sG,d];by_cases c:ng v=y
  ·rw[d_ c,d_ ⟨a,c.symm⟩]
  rw[b_ c,b_ (fun q=>c q.2.symm)]
 ·funext y p; exact adK i e a h y p
 ·funext o r; exact jg (Jy b)
 ·funext o r j
  show(dY m).g o r j=if v.kind=3/\_ then _ else if v.kind=4/\_ then _ else _;rw[b_ (fun q=>b q.1),b_ (fun q=>f q.1)]
 funext o r
 show gQ m o r=(gQ m o r || ((decide (v.kind=3) || decide (v.kind=4))&&_));rw[g_ b,g_ f];exact jg rfl
theorem Lp{m':dK}(e:m'.inn=m.inn)(f:m'.left=m.left)(h:m'.own=m.own)(c:m'.T=m.T)(i : ∀ o r,iF m' o r=iF m o r)(k:(dY m').g=(dY m).g)(l : ∀ o r,gQ m' o r=gQ m o r)(a:v.kind≠1)(b:v.kind≠3)(d:v.kind≠4)(s:v.kind≠6)(t:v.kind≠7)
 (n : ∀ y p,aZ m' y p=aZ m y p+(dY m).dl v y p):dY m'=(dY m).qU v:=by
 apply Ab.QJ
 ·funext j; rw[show(dY m').inn j=m.inn j from congrFun e j]; exact jg (Jy s)
 ·funext j; rw[show(dY m').left j=m.left j from congrFun f j]; exact jg (Jy t)
 ·funext j
  rw[show(dY m').own j=m.own j from congrFun h j];show m.own j=m.own j+if v.kind=1/\j=aV v then 1 else 0;rw[b_ (fun q=>a q.1),C_]
 ·funext y; rw[show(dY m').has y=m.T.has y from by rw[<- c]; rfl]; exact jg (Jy a)
 ·funext y
  rw[show(dY m').par y=m.T.par y from by rw[<- c]; rfl];show _=if v.kind=1/\y=rP v then v.node else m.T.par y;rw[b_ (fun q=>a q.1)]
 ·funext y p; exact n y p
 ·funext o r; rw[show(dY m').gh o r=iF m o r from i o r]; exact jg (Jy b)
 ·funext o r j
  rw[k];show(dY m).g o r j=if v.kind=3/\_ then _ else if v.kind=4/\_ then _ else _;rw[b_ (fun q=>b q.1),b_ (fun q=>d q.1)]
 funext o r
 rw[show(dY m').ask o r=gQ m o r from l o r];show gQ m o r=(gQ m o r || ((decide (v.kind=3) || decide (v.kind=4))&&_));rw[g_ b,g_ d];exact jg rfl
theorem QM(c:m.T.ok)(d:bS v=true)(a:v.kind=2)(b:jv m v=0):dY (tX m v)=(dY m).qU v :=
 Lp rfl rfl rfl rfl (fun _ _=>rfl) rfl (fun _ _=>rfl) (by rw[a]; decide) (by rw[a]; decide) (by rw[a]; decide) (by rw[a]; decide) (by rw[a]; decide) (YO c d a b)
theorem VT(c:m.T.ok)(d:bS v=true)(a:v.kind=5)(b:kg m v=0):dY (CQ m v)=(dY m).qU v :=
 Lp rfl rfl rfl rfl (fun _ _=>rfl) rfl (fun _ _=>rfl) (by rw[a]; decide) (by rw[a]; decide) (by rw[a]; decide) (by rw[a]; decide) (by rw[a]; decide) (adL c d a b)
theorem Jo{k1 k2:Nat->Int}{a b:Int} : ∀ {n:Nat},A8 k1 k2 n a b=true->wz k1 k2 n a b<n
 | 0,h=>by cases h
 | n+1,h=>by
   unfold wz;by_cases c:k1 n=a/\k2 n=b
   ·rw[d_ c]; omega
   ·rw[b_ c];obtain⟨j,g,d,f⟩:=kR.1 h;by_cases e:j=n
    ·subst e; exact L_ ⟨d,f⟩ c
    ·have:=Jo (rO (show j<n by omega) d f); omega
theorem YP(h1:v.kind≠1)(a:v.kind≠2)(b:v.kind≠3)(c:v.kind≠4)(d:v.kind≠5)(A:Ab)(y:Int)(p:Nat):A.dl v y p=0:=by
 unfold Ab.dl;rw[b_ h1,b_ a,b_ b,b_ c,b_ d]
theorem Ia{A B:Ab}(h1:v.kind≠1)(n:v.kind≠2)(a:v.kind≠3)(b:v.kind≠4)(s:v.kind≠5)(c : ∀ j,B.inn j=(A.inn j || (decide (v.kind=6)&&decide (j=dV v))))(d : ∀ j,B.left j=(A.left j || (decide (v.kind=7)&&decide (j=aV v))))(e:B.own=A.own)(f:B.has=A.has)(h:B.par=A.par)(i:B.R=A.R)(k:B.gh=A.gh)(l:B.g=A.g)(m:B.ask=A.ask):B=A.qU v:=by
 apply Ab.QJ
 ·funext j; exact c j
 ·funext j; exact d j
 ·funext j; rw[e]; show A.own j=A.own j+if v.kind=1/\j=aV v then 1 else 0; rw[b_ (fun q=>h1 q.1),C_]
 ·funext y; rw[f]; exact jg (Jy h1)
 ·funext y; rw[h]; show _=if v.kind=1/\y=rP v then v.node else A.par y; rw[b_ (fun q=>h1 q.1)]
 ·funext y p; rw[i]; show _=A.R y p+A.dl v y p; rw[YP h1 n a b s,C_]
 ·funext o r; rw[k]; exact jg (Jy a)
 ·funext o r j
  rw[l];show A.g o r j=if v.kind=3/\_ then _ else if v.kind=4/\_ then _ else _;rw[b_ (fun q=>a q.1),b_ (fun q=>b q.1)]
 funext o r
 rw[m];show A.ask o r=(A.ask o r || ((decide (v.kind=3) || decide (v.kind=4))&&_));rw[g_ a,g_ b];exact jg rfl
theorem Lr{f:Nat->Bool}{k j:Nat}{c:Bool}(a:c=true):aH f k true j=(f j || (c&&decide (j=k))):=by
 rw[a,Bool.true_and];unfold aH;by_cases e:j=k
 ·rw[d_ e,f_ e,Bool.or_true]
 rw[b_ e,g_ e,G_]
theorem VU(a:v.kind=6):dY (He m v)=(dY m).qU v :=
 Ia (by rw[a]; decide) (by rw[a]; decide) (by rw[a]; decide) (by rw[a]; decide) (by rw[a]; decide) (fun j=>Lr (f_ a)) (fun j=>jg (Jy (by rw[a]; decide))) rfl rfl rfl rfl rfl rfl rfl
theorem QN(a:v.kind=7):dY (BP m v)=(dY m).qU v :=
 Ia (by rw[a]; decide) (by rw[a]; decide) (by rw[a]; decide) (by rw[a]; decide) (by rw[a]; decide) (fun j=>jg (Jy (by rw[a]; decide))) (fun j=>Lr (k:=aL v) (f_ a)) rfl rfl rfl rfl rfl rfl rfl
theorem VW(z:m.T.ok)(A:Qz m)(u:bS v=true)(b:v.kind=3)(k:jO m v=0):dY (ko m v)=(dY m).qU v:=by
 have G:rP v=ng v:=qJ u;have n:v.kind≠1:=by rw[b]; decide
 have C:v.kind≠4:=by rw[b]; decide
 have D:v.kind≠6:=by rw[b]; decide
 have E:v.kind≠7:=by rw[b]; decide
 have B:gQ m v.o v.req=false:=by
  unfold jO at k
  cases c:gQ m v.o v.req with
  | false=>rfl
  | true=>rw[d_ c]at k; cases k
 have F:iF m v.o v.req=false:=oL fun i t e=>by
  have:=A i t;rw[e.1,e.2,B]at this; cases this
 have s : ∀ o r,iF (ko m v) o r=(iF m o r || (decide (o=v.o)&&decide (r=v.req))):=fun o r=>by
  have d:=yI m.g m.gn (pV v) 0;have f:=yI m.g m.gn (pV v) 1;have:iF (ko m v) o r=true<->(iF m o r=true\/(v.o=o/\v.req=r)):=by
   show A8 (fun i=>aM m.g m.gn (pV v) i 0) (fun i=>aM m.g m.gn (pV v) i 1) (m.gn+1) o r=true<->_;rw[d,f]; exact Fy
  rw[Bool.eq_iff_iff,this,Bool.or_eq_true,R_,O_,O_];exact⟨fun h=>h.imp id fun q=>⟨q.1.symm,q.2.symm⟩,fun h=>h.imp id fun q=>⟨q.1.symm,q.2.symm⟩⟩
 have x : ∀ o r,eP (ko m v) o r=wz (aM (fun i=>m.g i 0) m.gn v.o) (aM (fun i=>m.g i 1) m.gn v.req) (m.gn+1) o r:=fun o r=>by
  have d:=yI m.g m.gn (pV v) 0;have f:=yI m.g m.gn (pV v) 1;show wz (fun i=>aM m.g m.gn (pV v) i 0) (fun i=>aM m.g m.gn (pV v) i 1) (m.gn+1) o r=_;rw[d,f]; rfl
 apply Ab.QJ
 ·funext j; exact jg (Jy D)
 ·funext j; exact jg (Jy E)
 ·funext j
  show m.own j=m.own j+if v.kind=1/\j=aV v then 1 else 0;rw[b_ (fun q=>n q.1),C_]
 ·funext y; exact jg (Jy n)
 ·funext y
  show m.T.par y=if v.kind=1/\y=rP v then v.node else m.T.par y;rw[b_ (fun q=>n q.1)]
 ·funext y p; exact adM z u b k y p
 ·funext o r
  show iF (ko m v) o r=(iF m o r || (decide (v.kind=3)&&(decide (o=v.o)&&decide (r=v.req))));rw[s,f_ b,Bool.true_and]
 ·funext o r j
  show(if iF (ko m v) o r=true/\2<=j/\j<=4 then(ko m v).g (eP (ko m v) o r) j else 0)=if v.kind=3/\o=v.o/\r=v.req then(if j=2 then v.node else if j=3 then v.aT else 0)else if v.kind=4/\_ then _ else(if iF m o r=true/\2<=j/\j<=4 then m.g (eP m o r) j else 0);rw[s,x];by_cases c:o=v.o/\r=v.req
  ·rw[d_ (show v.kind=3/\o=v.o/\r=v.req from⟨b,c⟩),c.1,c.2,VQ,f_ (rfl:v.o=v.o),f_ (rfl:v.req=v.req),Bool.and_self,Bool.or_true];show(if true=true/\2<=j/\j<=4 then aM m.g m.gn (pV v) m.gn j else 0)=_;rw[show aM m.g m.gn (pV v) m.gn=pV v from d_ rfl];by_cases a:j=2
   ·rw[d_ a,a,d_ ⟨rfl,by decide,by decide⟩]; rfl
   rw[b_ a];by_cases l:j=3
   ·rw[d_ l,l,d_ ⟨rfl,by decide,by decide⟩]; rfl
   rw[b_ l];by_cases w:j=4
   ·rw[w,d_ ⟨rfl,by decide,by decide⟩]; rfl
   rw[b_ (by omega)]
  rw[b_ (show ¬ (v.kind=3/\o=v.o/\r=v.req)from fun q=>c q.2),b_ (show ¬ (v.kind=4/\o=v.o/\r=v.of/\j=4)from fun q=>C q.1),VP (fun q=>c ⟨q.1.symm,q.2.symm⟩)];have:(decide (o=v.o)&&decide (r=v.req))=false:=by
   cases e:(decide (o=v.o)&&decide (r=v.req))with
   | false=>rfl
   | true=>rw[R_,O_,O_]at e; exact L_ e c
  rw[this,G_];by_cases a:iF m o r=true/\2<=j/\j<=4
  ·rw[d_ a,d_ a];obtain⟨i,t,d,f⟩:=kR.1 a.1;have:wz (fun i=>m.g i 0) (fun i=>m.g i 1) m.gn o r<m.gn:=Jo a.1;show aM m.g m.gn (pV v) _ j=_;unfold aM;rw[b_ (by omega)];rfl
  rw[b_ a,b_ a]
 funext o r
 show gQ (ko m v) o r=(gQ m o r || ((decide (v.kind=3) || decide (v.kind=4))&&(decide (o=v.o)&&decide (r=v.req))));rw[f_ b,Bool.true_or,Bool.true_and];exact Lm rfl rfl rfl o r
theorem FK{k1 k2:Nat->Int}{a b:Int} : ∀ {n:Nat},A8 k1 k2 n a b=true->k1 (wz k1 k2 n a b)=a/\k2 (wz k1 k2 n a b)=b
 | 0,h=>by cases h
 | n+1,h=>by
   unfold wz;by_cases c:k1 n=a/\k2 n=b
   ·rw[d_ c]; exact c
   ·rw[b_ c];obtain⟨j,g,d,f⟩:=kR.1 h;by_cases e:j=n
    ·subst e; exact L_ ⟨d,f⟩ c
    ·exact FK (rO (show j<n by omega) d f)
theorem VX(G:m.T.ok)(J:bS v=true)(a:v.kind=4)(b:jf m v=0):dY (iB m v)=(dY m).qU v:=by
 have k:v.kind≠1:=by rw[a]; decide
 have x:v.kind≠3:=by rw[a]; decide
 have K:v.kind≠6:=by rw[a]; decide
 have L:v.kind≠7:=by rw[a]; decide
 have f:iF m v.o v.of=true:=by
  unfold jf at b;split at b
  ·cases b
  split at b
  ·cases b
  rename_i c
  cases e:iF m v.o v.of with
  | true=>rfl
  | false=>exact L_ (.inl e) c
 have M:eP m v.o v.of<m.gn:=Jo f;have h : ∀ i j,j≠4->aM m.g (eP m v.o v.of) (upd (m.g (eP m v.o v.of)) 4 v.req) i j=m.g i j:=fun i j H=>by
  unfold aM;by_cases c:i=eP m v.o v.of
  ·rw[d_ c,c]; unfold upd; rw[b_ H]
  ·rw[b_ c]
 have n:(fun i=>(iB m v).g i 0)=fun i=>m.g i 0:=by funext i; exact h i 0 (by decide)
 have s:(fun i=>(iB m v).g i 1)=fun i=>m.g i 1:=by funext i; exact h i 1 (by decide)
 have w : ∀ o r,iF (iB m v) o r=iF m o r:=fun o r=>by
  show A8 (fun i=>(iB m v).g i 0) (fun i=>(iB m v).g i 1) m.gn o r=_;rw[n,s]; rfl
 have F : ∀ o r,eP (iB m v) o r=eP m o r:=fun o r=>by
  show wz (fun i=>(iB m v).g i 0) (fun i=>(iB m v).g i 1) m.gn o r=_;rw[n,s]; rfl
 apply Ab.QJ
 ·funext j; exact jg (Jy K)
 ·funext j; exact jg (Jy L)
 ·funext j
  show m.own j=m.own j+if v.kind=1/\j=aV v then 1 else 0;rw[b_ (fun q=>k q.1),C_]
 ·funext y; exact jg (Jy k)
 ·funext y
  show m.T.par y=if v.kind=1/\y=rP v then v.node else m.T.par y;rw[b_ (fun q=>k q.1)]
 ·funext y p; exact adN G J a b y p
 ·funext o r
  show iF (iB m v) o r=(iF m o r || (decide (v.kind=3)&&_));rw[w]; exact jg (Jy x)
 ·funext o r j
  show(if iF (iB m v) o r=true/\2<=j/\j<=4 then(iB m v).g (eP (iB m v) o r) j else 0)=if v.kind=3/\o=v.o/\r=v.req then _ else if v.kind=4/\o=v.o/\r=v.of/\j=4 then v.req else(if iF m o r=true/\2<=j/\j<=4 then m.g (eP m o r) j else 0);rw[w,F,b_ (show ¬ (v.kind=3/\o=v.o/\r=v.req)from fun q=>x q.1)];show(if iF m o r=true/\2<=j/\j<=4 then aM m.g (eP m v.o v.of) (upd (m.g (eP m v.o v.of)) 4 v.req) (eP m o r) j else 0)=_;by_cases c:v.kind=4/\o=v.o/\r=v.of/\j=4
  ·rw[d_ c,c.2.1,c.2.2.1,c.2.2.2,d_ ⟨f,by decide,by decide⟩];unfold aM upd; rw[d_ rfl,d_ rfl]
  rw[b_ c];by_cases d:iF m o r=true/\2<=j/\j<=4
  ·rw[d_ d,d_ d];by_cases l:j=4
   ·have I:eP m o r≠eP m v.o v.of:=fun e=>c ⟨a,by
     obtain⟨z,A⟩:=FK d.1;obtain⟨B,C⟩:=FK f;have t:m.g (eP m o r) 0=o:=z;have D:m.g (eP m v.o v.of) 0=v.o:=B;have u:m.g (eP m o r) 1=r:=A;have E:m.g (eP m v.o v.of) 1=v.of:=C;rw[e]at t u;exact⟨t.symm.trans D,u.symm.trans E,l⟩⟩
    unfold aM; rw[b_ I]
   exact h _ j l
  rw[b_ d,b_ d]
 funext o r
 show gQ (iB m v) o r=(gQ m o r || ((decide (v.kind=3) || decide (v.kind=4))&&(decide (o=v.o)&&decide (r=v.req))));rw[f_ a,Bool.or_true,Bool.true_and];exact Lm rfl rfl rfl o r
theorem VY(c:m.T.ok)(j:Qz m)(b:bS v=true)(a:fB m v=0):dY (gZ m v)=(dY m).qU v:=by
 have k:=iW b;unfold fB at a;unfold gZ;by_cases d:v.kind=1
 ·rw[d_ d]at a ⊢; exact VR c b d a
 rw[b_ d]at a ⊢;by_cases e:v.kind=2
 ·rw[d_ e]at a ⊢; exact QM c b e a
 rw[b_ e]at a ⊢;by_cases f:v.kind=3
 ·rw[d_ f]at a ⊢; exact VW c j b f a
 rw[b_ f]at a ⊢;by_cases g:v.kind=4
 ·rw[d_ g]at a ⊢; exact VX c b g a
 rw[b_ g]at a ⊢;by_cases h:v.kind=5
 ·rw[d_ h]at a ⊢; exact VT c b h a
 rw[b_ h]at a ⊢;by_cases i:v.kind=6
 ·rw[d_ i]; exact VU i
 rw[b_ i]; exact QN (by omega)
theorem QO(c:m.T.ok)(d:Qz m)(a:cu m v=0):dY (fO m v)=(dY m).qU v:=by
 have b:=VY c d (pI a) (pJ a).2.1;unfold fO;rw[d_ a];exact b
end
end Rt
end
section
set_option linter.unusedVariables false
namespace Rt
structure Ab.Sm(A:Ab)(N:Nat):Prop where
 r : ∀ y p,A.R y p<=65536*N
 g : ∀ o r,A.gh o r=true->1<=A.g o r 3/\A.g o r 3<=65536
structure Q0(m:dK):Prop where
 n:(m.T.n:Int)=m.own 0+m.own 1+m.own 2+m.own 3+m.own 4+m.own 5
 o : ∀ a,a<6->m.own a<=5
section
variable {A:Ab} {m:dK} {L:fJ} {N S:Nat} {x y:Int} {v:EvM}
theorem Ab.Sm.dl(m:A.Sm S)(l:A.Pre v)(k:nV v)(y:Int)(p:Nat):A.dl v y p<=65536:=by
 have b:=k.aT;have a : ∀ {c:Prop} [Decidable c] {n:Int},n<=65536->(if c then n else 0)<=65536:=fun {c} _ {n} h=>by split <;> omega
 unfold Ab.dl;by_cases e:v.kind=1
 ·rw[d_ e]; exact a b
 rw[b_ e];by_cases f:v.kind=2
 ·rw[d_ f]; exact a b
 rw[b_ f];by_cases i:v.kind=3
 ·rw[d_ i]; exact a b
 rw[b_ i];by_cases d:v.kind=4
 ·rw[d_ d]; exact a (m.g _ _ (l.n4 d)).2
 rw[b_ d];by_cases j:v.kind=5
 ·rw[d_ j]; exact a b
 rw[b_ j]; decide
theorem Ab.Sm.qU(b:A.Sm S)(f:A.Pre v)(h:bS v=true)(d:nV v):(A.qU v).Sm (S+1) where
 r:=fun y p=>by
  have i:=b.r y p;have j:=b.dl f d y p;show A.R y p+A.dl v y p<=_;omega
 g:=fun o r a=>by
  have a:(A.gh o r || (decide (v.kind=3)&&(decide (o=v.o)&&decide (r=v.req))))=true:=a;by_cases c:v.kind=3/\o=v.o/\r=v.req
  ·have:(A.qU v).g o r 3=v.aT:=(by show(if v.kind=3/\o=v.o/\r=v.req then _ else _)=v.aT; rw[d_ c]; rfl);rw[this]; exact⟨(kN h (.inr (.inl c.1))).1,d.aT⟩
  ·have e:A.gh o r=true:=by
    rcases Bool.or_eq_true_iff.1 a with q|q
    ·exact q
    ·rw[R_,R_]at q; exact L_ ⟨h_ q.1,h_ q.2.1,h_ q.2.2⟩ c
   rw[Ab.Li f e 3 (by decide)];exact b.g o r e
theorem Q0.row{m':dK}(h:Q0 m)(a:m'.T=m.T)(b:m'.own=m.own):Q0 m':=by
 cases m'; cases m; cases a; cases b; exact⟨h.n,h.o⟩
theorem Q0.does(h:Q0 m)(l:bS v=true)(b:fB m v=0):Q0 (gZ m v):=by
 unfold fB at b;unfold gZ;by_cases c:v.kind=1
 ·rw[d_ c]at b ⊢;have q:m.own (aL v)<5:=by
   unfold iU at b;split at b
   ·cases b
   ·omega
  have r:=mF l;have p:=h.n;refine⟨?_,fun a k => ?_⟩
  ·show((m.T.n+1:Nat):Int)=aH m.own (aL v) (m.own (aL v)+1) 0+aH m.own (aL v) (m.own (aL v)+1) 1+aH m.own (aL v) (m.own (aL v)+1) 2+aH m.own (aL v) (m.own (aL v)+1) 3+aH m.own (aL v) (m.own (aL v)+1) 4+aH m.own (aL v) (m.own (aL v)+1) 5;unfold aH
   rcases(show aL v=0\/aL v=1\/aL v=2\/aL v=3\/aL v=4\/aL v=5 by omega)with e|e|e|e|e|e <;> rw[e] <;> simp <;> omega
  show aH m.own (aL v) (m.own (aL v)+1) a<=5;have:=h.o a k;unfold aH; split <;> omega
 rw[b_ c];by_cases d:v.kind=2
 ·rw[d_ d]; exact h.row rfl rfl
 rw[b_ d];by_cases f:v.kind=3
 ·rw[d_ f]; exact h.row rfl rfl
 rw[b_ f];by_cases g:v.kind=4
 ·rw[d_ g]; exact h.row rfl rfl
 rw[b_ g];by_cases i:v.kind=5
 ·rw[d_ i]; exact h.row rfl rfl
 rw[b_ i];by_cases j:v.kind=6
 ·rw[d_ j]; exact h.row rfl rfl
 rw[b_ j]; exact h.row rfl rfl
theorem Q0.apply(h:Q0 m):Q0 (fO m v):=by
 unfold fO;by_cases c:cu m v=0
 ·rw[d_ c]; exact(h.does (pI c) (pJ c).2.1).row rfl rfl
 rw[b_ c]; exact h
theorem ZP(x:Nat->Int)(a:Nat):Rt.L x a=Ch x a:=by
 have e : ∀ i,R x a i=x (18+(6*a+i)):=fun i=>by unfold R; congr 1; omega
 have b:R x 0 a=x (18+(6*0+a)):=by unfold R; congr 1; omega
 have c:R x 1 a=x (18+(6*1+a)):=by unfold R; congr 1; omega
 have d:R x 2 a=x (18+(6*2+a)):=by unfold R; congr 1; omega
 have f:R x 3 a=x (18+(6*3+a)):=by unfold R; congr 1; omega
 have g:R x 4 a=x (18+(6*4+a)):=by unfold R; congr 1; omega
 have h:R x 5 a=x (18+(6*5+a)):=by unfold R; congr 1; omega
 unfold Rt.L Ch;rw[e,e,e,e,e,e,b,c,d,f,g,h];unfold G C F;omega
theorem Ck{x:Nat->Int}(h:may x=true)(b:bS v=true):fI x v.o=Ch x (aV v):=by
 obtain⟨e,a,_⟩:=FJ b;rw[e,nI h _ a,ZP]
theorem xZ{x:Nat->Int}{n:Int}{b:Bool}{a:Int}{off:Nat}(h1:may x=true)(c:1<=n)(d:n<=1125899906842624)(e:b=true)(f:a=0)(g:x off+n<=1125899906842624):(bT x n b a off).2=0:=by
 rcases nM x n b a off with ⟨_,_,h⟩|⟨_,h⟩
 ·exact L_ ⟨h1,c,d,e,f,g⟩ h
 rw[h]
theorem Db{f:(Nat->Int)->(Nat->Int) × Int}{r:Nat->Nat->Int} : ∀ {n:Nat},(∀ i,i<n->(f (r i)).2=0)->jC f r n=0
 | 0,_=>rfl
 | n+1,h=>BX (Db fun i a=>h i (by omega)) (h n (by omega))
theorem FL(c:m.T.ok){f:(Nat->Int)->(Nat->Int) × Int}{x:Int}(h : ∀ y,y∈m.T.path x->(f (aZ m y)).2=0):dA m f (m.T.path x)=0 :=
 Db fun i a=>by
  have b:(m.T.path x).getD i 0∈m.T.path x:=by
   rw[r_,o_ a]; exact P_ a
  have:=h _ b;unfold aZ at this;rw[d_ (dL.nO c rfl _ b)]at this;exact this
theorem zX(h:bS v=true)(b:v.kind=5):1<=v.dst/\v.dst<=6/\v.dst≠v.o:=by
 unfold bS at h;simp only[R_]at h;have a:=h.2;unfold dI at a;rw[b_ (by omega),b_ (by omega),b_ (by omega),b_ (by omega),d_ b,R_]at a;have:=a.2;unfold lM oV at this;simp at this;omega
theorem YQ(a:bS v=true):gP v.o=true:=by have:=nN a; unfold gP; simp; omega
end
structure Tw(m:dK)(L:fJ)(N S:Nat):Prop where
 t:D9 m L N
 w:Q0 m
 s:(dY m).Sm S
 b:S<=1000000
section
variable {m:dK} {L:fJ} {N S:Nat} {x y:Int} {v:EvM}
theorem D9.may(h:D9 m L N)(hy:m.T.has y=true):may (aZ m y)=true:=by
 obtain⟨i,a,e⟩:=(h.s.T.has y).1 hy;unfold aZ;rw[d_ hy,<- e,h.s.row i a];exact h.i.may i a
theorem Tw.cell(h:Tw m L N S)(y:Int)(p:Nat):aZ m y p<=65536000000:=by
 have:=h.s.r y p;have a:=h.b;show(dY m).R y p<=_;omega
theorem Tw.make(h:Tw m L N S)(s:bS v=true)(k:v.kind=1)(j:(dY m).QK v):iU m v=0:=by
 obtain⟨a,b,c⟩:=j.pre.n1 k;obtain⟨d,e,f⟩:=j.k1 k;have r:rP v=ng v:=qJ s;rw[r]at a b;unfold iU;have d:m.own (aL v)<5:=d;rw[b_ (show ¬ (5<=m.own (aL v)\/140737488355328<v.aT) by omega)];show qC m.T.x m.T.p m.T.n (ng v) v.node=0;unfold qC;have a:dO m.T.x m.T.n (ng v)=false:=a;rw[b_ b,b_ (by rw[a]; decide)];rw[b_ (show ¬ (¬ v.node=0/\dO m.T.x m.T.n v.node=false)from fun q=>by
  rcases c with c|c
  ·exact q.1 c
  ·have c:dO m.T.x m.T.n v.node=true:=c;rw[q.2]at c; cases c)]
 rw[b_];rintro (q|q)
 ·have y:=h.w.n;have g:=h.w.o;have:=g 0 (by decide); have:=g 1 (by decide); have:=g 2 (by decide); have:=g 3 (by decide); have:=g 4 (by decide); have:=g 5 (by decide);omega
 obtain⟨u,_⟩:=Eb h.t.t _ v.node (z_ _);exact f fun i l=>by
  rw[FH];exact(u i (n_ l q)).2
theorem Tw.make'(h:Tw m L N S)(k:bS v=true)(o:v.kind=1)(a:iU m v=0):(rP v≠0/\(dY m).has (rP v)=false/\(v.node=0\/(dY m).has v.node=true))/\(dY m).own (aV v)<5/\v.aT<=140737488355328 /\ ¬ ∀ i,i<4->(dY m).has ((dY m).up v.node i)=true:=by
 have j:rP v=ng v:=qJ k;unfold iU at a;by_cases c:5<=m.own (aL v)\/140737488355328<v.aT
 ·rw[d_ c]at a; cases a
 rw[b_ c]at a;obtain⟨d,e,f,n,g⟩:=Et a;rw[j];refine⟨⟨d,e,f⟩,?_,by omega,fun q => ?_⟩
 ·show m.own (aL v)<5;omega
 obtain⟨_,l⟩:=Eb h.t.t _ v.node (z_ _);have:=q _ (show(m.T.path v.node).length<4 from g);rw[FH]at this;have b:m.T.has (Lj m.T v.node (m.T.path v.node).length)=true:=this;rw[l]at b; cases b
theorem Tw.does(h:Tw m L N S)(c:bS v=true)(I:nV v)(j:(dY m).QK v):fB m v=0:=by
 have k:=h.t.t;have P:=j.pre;have D:=YQ c;have G : ∀ y p n,n<=65536->aZ m y p+n<=1125899906842624:=fun y p n U=>by have:=h.cell y p; omega
 unfold fB;by_cases E:v.kind=1
 ·rw[d_ E]; exact h.make c E j
 rw[b_ E];by_cases A:v.kind=2
 ·rw[d_ A];have a:m.T.has v.node=true:=P.n2 A;have:=j.k2 A;have e:(dY m).R v.node (aV v)=m.R (m.idx v.node) (aL v):=by
   show aZ m v.node (aV v)=_;unfold aZ; rw[d_ a]; rfl
  rw[e]at this;unfold jv;rw[b_ (by rw[a]; decide),b_ (by omega)]
 rw[b_ A];by_cases w:v.kind=3
 ·rw[d_ w];have a:m.T.has v.node=true:=(P.n3 w).1;obtain⟨b,i⟩:=j.k3 w;have b:gQ m v.o v.req=false:=b;have r:=kN c (.inr (.inl w));unfold jO;rw[b_ (by rw[b]; decide),b_ (by rw[a]; decide)];refine FL (f:=fun x=>bB x v.o v.aT) k fun y u => ?_;have d:=h.t.may (dL.nO k rfl y u);have:=i y ((Cj k _ y).2 u);have this:v.aT<=Ch (aZ m y) (aV v):=this;refine xZ d r.1 r.2 D ?_ (G y _ _ I.aT);unfold qp;rw[Ck d c,g_ (by omega)]; rfl
 rw[b_ w];by_cases z:v.kind=4
 ·rw[d_ z];have a:iF m v.o v.of=true:=P.n4 z;obtain⟨b,i,J⟩:=j.k4 z;have b:gQ m v.o v.req=false:=b;have K:(dY m).g v.o v.of 2=m.g (eP m v.o v.of) 2:=d_ ⟨a,by decide,by decide⟩;have H:(dY m).g v.o v.of 3=m.g (eP m v.o v.of) 3:=d_ ⟨a,by decide,by decide⟩;have M:(dY m).g v.o v.of 4=m.g (eP m v.o v.of) 4:=d_ ⟨a,by decide,by decide⟩;have B:=h.s.g _ _ (P.n4 z);rw[K,H]at J;rw[H]at B;rw[M]at i;unfold jf;rw[b_ (by rw[b]; decide),b_ (show ¬ (iF m v.o v.of=false\/m.g (eP m v.o v.of) 4≠0)from fun q=>q.elim (fun q=>by rw[a]at q; cases q) (fun q=>q i))]
  refine FL (f:=fun x=>bE x v.o (m.g (eP m v.o v.of) 3)) k fun y u => ?_;have d:=h.t.may (dL.nO k rfl y u);have:=J y ((Cj k _ y).2 u);have this:m.g (eP m v.o v.of) 3<=aZ m y (6+aV v)-aZ m y (12+aV v):=this;refine xZ d B.1 (by omega) D ?_ (G y _ _ B.2);unfold qw C F;rw[(FJ c).2.2,g_ (by omega)]; rfl
 rw[b_ z];by_cases l:v.kind=5
 ·rw[d_ l];have a:m.T.has v.node=true:=P.n5 l;obtain⟨b,i⟩:=j.k5 l;have b:m.inn (v.dst-1).toNat=true:=b;have i:v.aT<=Ch (aZ m v.node) (aV v):=i;have r:=kN c (.inr (.inr l));have d:=h.t.may a;have O:aZ m v.node=m.R (m.idx v.node):=by unfold aZ; rw[d_ a]; rfl
  have Q:=zX c l;unfold kg;rw[b_ (by rw[a]; decide),b_ (by rw[b]; decide)];show(dn (m.R (m.idx v.node)) v.o v.dst v.aT).2=0;rw[<- O];refine xZ d r.1 r.2 (by rw[D,show gP v.dst=true by unfold gP; simp; omega]; rfl) ?_ (G _ _ _ I.aT);unfold nH;rw[b_ (fun e=>Q.2.2 e.symm),Ck d c,g_ (by omega)]; rfl
 rw[b_ l];split <;> rfl
theorem Tw.okE(h:Tw m L N S)(D:bS v=true)(h1:m.inn (aL v)=true)(p:m.left (aL v)=false)(d:fB m v=0):(dY m).QK v:=by
 have B:=h.t.t;unfold fB at d;have no : ∀ {k:Int} {P:Prop},v.kind≠k->v.kind=k->P:=fun a b=>L_ b a;by_cases r:v.kind=1
 ·rw[d_ r]at d;obtain⟨⟨H,I,J⟩,b⟩:=h.make' D r d;have n : ∀ {k:Int} {P:Prop},k≠1->v.kind=k->P:=fun a b=>L_ (b.symm.trans r) a;exact⟨h1,p,⟨fun _=>⟨I,H,J⟩,n (by decide),n (by decide),n (by decide),n (by decide)⟩,fun _=>b,n (by decide),n (by decide),n (by decide),n (by decide)⟩
 rw[b_ r]at d;by_cases w:v.kind=2
 ·rw[d_ w]at d;have n : ∀ {k:Int} {P:Prop},k≠2->v.kind=k->P:=fun a b=>L_ (b.symm.trans w) a;unfold jv at d
  cases f:m.T.has v.node with
  | false=>rw[d_ f]at d; cases d
  | true =>
    rw[b_ (by rw[f]; decide)]at d;have e:(dY m).R v.node (aV v)=m.R (m.idx v.node) (aL v):=by
     show aZ m v.node (aV v)=_;unfold aZ; rw[d_ f]; rfl
    refine⟨h1,p,⟨n (by decide),fun _=>f,n (by decide),n (by decide),n (by decide)⟩,n (by decide),fun _ => ?_,n (by decide),n (by decide),n (by decide)⟩;rw[e];by_cases c:140737488355328<m.R (m.idx v.node) (aL v)+v.aT
    ·rw[d_ c]at d; cases d
    ·omega
 rw[b_ w]at d;by_cases x:v.kind=3
 ·rw[d_ x]at d;have n : ∀ {k:Int} {P:Prop},k≠3->v.kind=k->P:=fun a b=>L_ (b.symm.trans x) a;unfold jO at d
  cases c1:gQ m v.o v.req with
  | true=>rw[d_ c1]at d; cases d
  | false =>
    rw[b_ (by rw[c1]; decide)]at d
    cases f:m.T.has v.node with
    | false=>rw[d_ f]at d; cases d
    | true =>
      rw[b_ (by rw[f]; decide)]at d;have W:iF m v.o v.req=false:=oL fun i u e=>by
       have:=h.t.s.ga i u;rw[e.1,e.2,c1]at this; cases this
      refine⟨h1,p,⟨n (by decide),n (by decide),fun _=>⟨f,W⟩,n (by decide),n (by decide)⟩,n (by decide),n (by decide),fun _=>⟨c1,fun y l => ?_⟩,n (by decide),n (by decide)⟩;have l:=(Cj B _ y).1 l;have q:(bB (aZ m y) v.o v.aT).2=0:=yH B d l;unfold bB at q;have G:=yG q;have j:=G.2.2.2.2.1;unfold qp at j;rw[Ck G.1 D]at j;show v.aT<=Ch (aZ m y) (aV v);by_cases c:Ch (aZ m y) (aV v)<v.aT
      ·rw[f_ c]at j; cases j
      ·omega
 rw[b_ x]at d;by_cases z:v.kind=4
 ·rw[d_ z]at d;have n : ∀ {k:Int} {P:Prop},k≠4->v.kind=k->P:=fun a b=>L_ (b.symm.trans z) a;unfold jf at d
  cases c1:gQ m v.o v.req with
  | true=>rw[d_ c1]at d; cases d
  | false =>
    rw[b_ (by rw[c1]; decide)]at d;by_cases A:iF m v.o v.of=false\/m.g (eP m v.o v.of) 4≠0
    ·rw[d_ A]at d; cases d
    ·rw[b_ A]at d;have f:iF m v.o v.of=true:=by
      cases e:iF m v.o v.of with
      | true=>rfl
      | false=>exact L_ (.inl e) A
     have U:m.g (eP m v.o v.of) 4=0:=Classical.byContradiction fun q=>A (.inr q);have K:(dY m).g v.o v.of 2=m.g (eP m v.o v.of) 2:=d_ ⟨f,by decide,by decide⟩;have M:(dY m).g v.o v.of 3=m.g (eP m v.o v.of) 3:=d_ ⟨f,by decide,by decide⟩;have O:(dY m).g v.o v.of 4=m.g (eP m v.o v.of) 4:=d_ ⟨f,by decide,by decide⟩;refine⟨h1,p,⟨n (by decide),n (by decide),n (by decide),fun _=>f,n (by decide)⟩,n (by decide),n (by decide),n (by decide),fun _=>⟨c1,O.trans U,fun y l => ?_⟩,n (by decide)⟩;rw[K]at l;rw[M];have l:=(Cj B _ y).1 l;have q:(bE (aZ m y) v.o (m.g (eP m v.o v.of) 3)).2=0:=yH B d l;unfold bE at q;have G:=yG q;have j:=G.2.2.2.2.1;unfold qw C F at j;rw[(FJ D).2.2]at j;show m.g (eP m v.o v.of) 3<=aZ m y (6+aV v)-aZ m y (12+aV v);by_cases c:aZ m y (6+aV v)-aZ m y (12+aV v)<m.g (eP m v.o v.of) 3
     ·rw[f_ c]at j; cases j
     ·omega
 rw[b_ z]at d;by_cases E:v.kind=5
 ·rw[d_ E]at d;have n : ∀ {k:Int} {P:Prop},k≠5->v.kind=k->P:=fun a b=>L_ (b.symm.trans E) a;unfold kg at d
  cases f:m.T.has v.node with
  | false=>rw[d_ f]at d; cases d
  | true =>
    rw[b_ (by rw[f]; decide)]at d
    cases u:m.inn (v.dst-1).toNat with
    | false=>rw[d_ u]at d; cases d
    | true =>
      rw[b_ (by rw[u]; decide)]at d;have hm:=h.t.may f;have Q:aZ m v.node=m.R (m.idx v.node):=(by unfold aZ; rw[d_ f]; rfl);obtain⟨a,b,ha,hb,hne,ho,hd,X,Y,V,hM,heq⟩:=AJ d;refine⟨h1,p,⟨n (by decide),n (by decide),n (by decide),n (by decide),fun _=>f⟩,n (by decide),n (by decide),n (by decide),n (by decide),fun _=>⟨u,?_⟩⟩;show v.aT<=Ch (aZ m v.node) (aV v);rw[Q,<- ZP,show aV v=a by unfold aV; omega];exact V
 have Z:=iW D;exact⟨h1,p,⟨no r,no w,no x,no z,no E⟩,no r,no w,no x,no z,no E⟩
theorem YR{K:Nat->Int}(h:cO K v=true):lZ K v=false:=by
 obtain⟨a,b,c⟩:=FW h;unfold lZ;rw[g_ (show ¬ v.seq<=K (v.o-1).toNat by have b:v.seq=K (v.o-1).toNat+1:=b; omega),H_]
theorem Tw.check(h:Tw m L N S)(i:nV v)(hr:cO m.known v=true):cu m v=0<->(dY m).QK v:=by
 have f:=(FW hr).1;constructor
 ·intro g;obtain⟨a,b,c,d⟩:=pJ g;exact h.okE f c d b
 intro e;unfold cu;rw[b_ (by rw[f]; decide),b_ (by rw[YR hr]; decide),b_ (by rw[hr]; decide),b_,h.does f i e];rintro (q|q)
 ·have:=e.inn; rw[show(dY m).inn (aV v)=m.inn (aL v)from rfl,q]at this; cases this
 have:=e.left; rw[show(dY m).left (aV v)=m.left (aL v)from rfl,q]at this; cases this
end
end Rt
end
section
set_option linter.unusedVariables false
namespace Rt
def ZQ(k:Nat):Ab:=dY (xW k 0 0 0 0 0 0)
structure Ws(k:Nat)(ev:Nat->EvM)(an:Nat):Prop extends Evs (ZQ k) ev an where
 sm : ∀ i,i<an->nV (ev i)
 an:an<=1000
structure sS(k:Nat)(ev:Nat->EvM)(an:Nat)(L:fJ):Prop where
 ex : ∃ m N,D9 m L N/\Q0 m/\dY m=fV ev L.known (ZQ k) an
 kc:Du ev an L.known
section
variable {ev ev':Nat->EvM} {an n k i j:Nat} {K:Nat->Int} {L L':fJ} {v:EvM} {m:dK} {N S:Nat} {A:Ab}
theorem adO(h:bS v=true):O6 v:=by
 have a:=nN h;refine⟨⟨a.1,a.2.1⟩,a.2.2,?_,fun d=>⟨(zX h d).1,(zX h d).2.1⟩⟩;have i:=iW h;by_cases g:v.kind=2\/v.kind=3\/v.kind=5
 ·have:=(kN h g).1; omega
 have c:rA v=true:=by unfold bS at h; simp only[R_]at h; exact h.1.2
 have b:dI v=true:=by unfold bS at h; simp only[R_]at h; exact h.2
 by_cases f:v.kind=1
 ·unfold dI at b;rw[d_ f]at b;simp at b;omega
 have e:v.aT=(kJ v).aT:=by unfold rA at c; simp only[R_,decide_eq_true_eq]at c; exact c.1.1.2
 rw[e];unfold kJ;rw[b_ f,b_ (by omega),b_ (by omega)];split
 ·exact M_ _
 rw[b_ (by omega)];split <;> exact M_ _
theorem adP(k:Nat):(ZQ k).Ok:=⟨rfl,fun _ h=>(nomatch h),fun _ _=>rfl,fun _ _ h=>(nomatch h),fun _ _ _=>rfl⟩
theorem adQ(k:Nat):(ZQ k).Sm 0:=⟨fun _ _=>M_ _,fun _ _ h=>(nomatch h)⟩
theorem ow0(k:Nat):Q0 (xW k 0 0 0 0 0 0):=⟨rfl,fun _ _=>by show(0:Int)<=5; decide⟩
theorem Ab.Sm.mono{S':Nat}(h:A.Sm S)(a:S<=S'):A.Sm S':=⟨fun y p=>by have:=h.r y p; omega,h.g⟩
theorem Evs.cz(h:Evs A ev an):Cz 6 an ev (fun _=>fA ev an) where
 rd:=h.rd
 reg:=fun k a=>(h.g k a).reg.2
 own:=fun _ _=>rfl
 kc:=fun _ _=>⟨fun _ _=>M_ _,fun k a _ i b=>Q_ ((FW (h.rd k a)).2.2 i b) (cnt_mono (by omega))⟩
theorem Ws.fsm(W:Ws k ev an)(a:Du ev an K) : ∀ n,n<=an->(fV ev K (ZQ k) n).Sm n
 | 0,_=>adQ k
 | n+1,hn=>by
   have b:=W.fsm a n (by omega)
   cases c:wQ K (ev n)with
   | true =>
     rw[mo c];exact b.qU ((uT W.toEvs (n+1) hn K a).2 n (by omega) c).pre (FW (W.rd n (by omega))).1 (W.sm n (by omega))
   | false=>rw[mI c]; exact b.mono (by omega)
theorem sS.tw(h:sS k ev an L)(W:Ws k ev an) : ∃ m N,Tw m L N an/\dY m=fV ev L.known (ZQ k) an:=by
 obtain⟨m,N,b,c,a⟩:=h.ex;exact⟨m,N,⟨b,c,by rw[a]; exact W.fsm h.kc an (z_ _),by have:=W.an; omega⟩,a⟩
theorem sS.ready(h:sS k ev an L)(W:Ws k ev an)(c:j<an)(hr:cO L.known (ev j)=true):bJ L (ev j)=0:=by
 obtain⟨m,N,a,d⟩:=h.tw W;have b:=H7 W.toEvs h.kc c hr (show j<=an by omega) (z_ _);rw[<- d]at b;rw[<- (a.t.s.apply a.t.t a.t.i (ev j)).1];exact(a.check (W.sm j c) (by rw[a.t.s.known]; exact hr)).2 b
theorem sS.apply(h:sS k ev an L)(W:Ws k ev an)(b:j<an):sS k ev an (bP L (ev j)):=by
 rcases qK L (ev j)with ⟨c,e⟩|⟨c,e⟩
 ·have d:=jI c;obtain⟨m,N,a,f,g⟩:=h.ex;have l:cu m (ev j)=0:=(a.s.apply a.t a.i (ev j)).1.trans c;refine⟨⟨fO m (ev j),N+1,a.apply (ev j),f.apply,?_⟩,by rw[e]; exact W.toEvs.cz.step h.kc b d⟩;rw[QO a.t a.s.ga l,g,e];exact(YN W.toEvs h.kc b d).symm
 rw[e]; exact h
theorem sS.pass(W:Ws k ev an){a:Nat->Int}(h:sS k ev an L) : ∀ j,j<=an->sS k ev an (og ev a L j)
 | 0,_=>h
 | j+1,hj=>by
   unfold og;split
   ·exact(h.pass W j (by omega)).apply W (by omega)
   ·exact h.pass W j (by omega)
theorem sS.iT(W:Ws k ev an){a:Nat->Int} : ∀ f L,sS k ev an L->sS k ev an (iT ev an a f L)
 | 0,L,hL=>by unfold Rt.iT; exact hL
 | f+1,L,hL=>by
   unfold Rt.iT;split
   ·exact hL.pass W an (z_ _)
   ·exact sS.iT W f _ (hL.pass W an (z_ _))
theorem sS.new(k:Nat)(ev:Nat->EvM)(an:Nat)(a : ∀ i,i<an->1<=(ev i).seq)(f:Nat):sS k ev an (jS k f).core:=by
 have d : ∀ n,n<=an->fV ev (fun _=>0) (ZQ k) n=ZQ k:=fun n=>by
  induction n with
  | zero=>intro _; rfl
  | succ n ih =>
    intro h;have c:wQ (fun _=>0) (ev n)=false:=g_ (show ¬ (ev n).seq<=0 by have:=a n (by omega); omega);rw[mI c]; exact ih (by omega)
 exact⟨⟨xW k 0 0 0 0 0 0,0,D9.new k,ow0 k,(d an (z_ _)).symm⟩,fun i b=>zT an i,fun i b e j g=>L_ (show(ev i).seq<=0 from e) (by have:=a i b; omega)⟩
theorem Cm(h : ∀ i,i<n->ev' i=ev i):fV ev' K A n=fV ev K A n:=by
 induction n with
 | zero=>rfl
 | succ n ih =>
   show(if wQ K (ev' n)=true then(fV ev' K A n).qU (ev' n)else fV ev' K A n)=_;rw[ih fun i a=>h i (by omega),h n (by omega)]; rfl
theorem wC{v:EvM} : ∀ i,i<an->aH ev an v i=ev i:=fun i a=>b_ (by omega)
theorem wD{v:EvM}:aH ev an v an=v:=d_ rfl
theorem Du.more(h:Du ev an K)(g:bS v=true)(l:v.seq=fA ev an (aL v)+1):Du (aH ev an v) (an+1) K/\wQ K v=false:=by
 have c : ¬ v.seq<=K (aL v):=by have:=h.le _ (mF g); omega
 refine⟨⟨fun i b => ?_,fun i b a j f => ?_⟩,g_ c⟩
 ·have:=h.le i b;have d:=cnt_mono (ev:=aH ev an v) (j:=an) (k:=an+1) (i:=i) (by omega);rw[AU an (z_ _)]at d;omega
 by_cases e:i=an
 ·rw[e,wD]at a; exact L_ a c
 rw[wC i (by omega)]at a ⊢;exact h.cl i (by omega) a j f
theorem sS.more(h:sS k ev an L)(g:bS v=true)(f:v.seq=fA ev an (aL v)+1):sS k (aH ev an v) (an+1) L:=by
 obtain⟨m,N,c,d,e⟩:=h.ex;obtain⟨a,b⟩:=h.kc.more g f;refine⟨⟨m,N,c,d,?_⟩,a⟩;rw[mI (by rw[wD]; exact b),Cm wC];exact e
theorem Ws.more(W:Ws k ev an)(h:sS k ev an L)(u:an<1000)(p:nV v)(n:bJ L v=0)(d:v.deps=L.known)(f:v.seq=fA ev an (aL v)+1):Ws k (aH ev an v) (an+1):=by
 have o:=jI n;have c:=(FW o).1;have q : ∀ j,j<=an -> ∀ i,fA (aH ev an v) j i=fA ev j i:=fun j a i=>AU j a i;have l : ∀ j,j<=an->fA (aH ev an v) j=fA ev j:=fun j a=>funext (q j a);refine { ok0:=W.ok0,rd:=fun j a => ?_,g:=fun j a => ?_,dc:=fun j a => ?_,tk:=fun j a => ?_,sm:=fun j a => ?_,an:=by omega }
 ·by_cases e:j=an
  ·rw[e,wD,l an (z_ _)];exact I9 c f (by rw[d]; exact h.kc.le)
  rw[wC j (by omega),l j (by omega)]; exact W.rd j (by omega)
 ·by_cases e:j=an
  ·rw[e,wD]; exact adO c
  rw[wC j (by omega)]; exact W.g j (by omega)
 ·by_cases e:j=an
  ·rw[e,wD,d]; exact(h.kc.more c f).1
  rw[wC j (by omega)]; exact((W.dc j (by omega)).more c f).1
 ·by_cases e:j=an
  ·rw[e,wD,d,Cm wC];obtain⟨m,N,b,r⟩:=h.tw W;rw[<- r];exact(b.check p (by rw[b.t.s.known]; exact o)).1 ((b.t.s.apply b.t.t b.t.i v).1.trans n)
  rw[wC j (by omega),Cm fun i w=>wC i (by omega)]; exact W.tk j (by omega)
 by_cases e:j=an
 ·rw[e,wD]; exact p
 rw[wC j (by omega)]; exact W.sm j (by omega)
theorem Ws.zero(k:Nat)(ev:Nat->EvM):Ws k ev 0 where
 ok0:=adP k
 rd:=fun _ h=>L_ h (u_ _)
 g:=fun _ h=>L_ h (u_ _)
 dc:=fun _ h=>L_ h (u_ _)
 tk:=fun _ h=>L_ h (u_ _)
 sm:=fun _ h=>L_ h (u_ _)
 an:=by decide
end
structure WC(M:WM):Prop where
 w:Ws M.n M.ev M.an
 f : ∀ o,o<M.n->sS M.n M.ev M.an (M.ml o).core
theorem WC.new{M:WM}(a:M.an=0)(h : ∀ i,(M.ml i).core=(jS M.n 0).core):WC M:=by
 refine⟨by rw[a]; exact .zero _ _,fun o c=>by rw[h,a]; exact .new _ _ _ (fun i b=>L_ b (u_ _)) 0⟩
theorem WC.do{w':World}{M k:WM}{B p T o:Nat}{x:Gc}{v:EvM}(h:WC M)(y:nW w' B p k T)(j:o<M.n)(a:DoR o x M k v)(z:M.an<1000)(A:(M.ml o).s.known o=fA M.ev M.an o):WC k:=by
 rcases a.c with ⟨u,g,d,b⟩|⟨u,g,d,b,h5,h6,h7,h8⟩
 ·refine⟨by rw[a.n,g,d]; exact h.w,fun q i => ?_⟩;rw[a.n]at i;rw[a.n,g,d];by_cases e:q=o
  ·rw[e]
   rcases b with b|⟨_,b⟩
   ·rw[b]; exact h.f o j
   rw[b]; exact sS.iT h.w _ _ (h.f o j)
  rw[a.oth q e]; exact h.f q i
 have C:=jI b;have r:=(FW C).1;have t:aL v=o:=by unfold aL; omega
 have l:v.seq=fA M.ev M.an (aL v)+1:=by rw[t,<- A]; exact h7
 have D:nV v:=by
  have:=y.sm M.an (by omega);rw[d,wD]at this; exact this
 have m:Ws M.n (aH M.ev M.an v) (M.an+1):=h.w.more (h.f o j) z D b h8 l;refine⟨by rw[a.n,g,d]; exact m,fun q i => ?_⟩;rw[a.n]at i;rw[a.n,g,d];by_cases e:q=o
 ·rw[e,h5];have:=((h.f o j).more r l).apply m (show M.an<M.an+1 by omega);rw[wD]at this;exact this
 rw[a.oth q e]; exact(h.f q i).more r l
end Rt
end
section
set_option linter.unusedVariables false
namespace Rt
structure FM(L L':fJ):Prop where
 inn:L'.inn=L.inn
 left:L'.left=L.left
 kn : ∀ i,i<6->L'.known i=L.known i
 nn:L'.nn=L.nn
 gn:L'.gn=L.gn
 n : ∀ k,k<L.nn->L'.id k=L.id k/\L'.par k=L.par k/\L'.R k=L.R k
 g : ∀ k,k<L.gn -> ∀ p,p<5->L'.g k p=L.g k p
section
variable {ev:Nat->EvM} {an k:Nat} {L L':fJ} {m m':dK} {N N':Nat}
theorem fT.adR(h:fT m L){q:Nat}(i:q<L.gn):iF m (L.g q 0) (L.g q 1)=true /\ ∀ p,2<=p->p<=4->(dY m).g (L.g q 0) (L.g q 1) p=L.g q p:=by
 obtain⟨j,d,e⟩:=h.g1 q i;have c:iF m (L.g q 0) (L.g q 1)=true:=rO d (by rw[<- e]) (by rw[<- e]);have f:eP m (L.g q 0) (L.g q 1)=j:=yE h.gi d (by rw[<- e]) (by rw[<- e]);refine⟨c,fun p a b => ?_⟩;rw[show(dY m).g (L.g q 0) (L.g q 1) p=m.g (eP m (L.g q 0) (L.g q 1)) p from d_ ⟨c,a,b⟩,f,e]
theorem Ib{f:Nat->Int}{n i:Nat}(hi:i<n):((List.range n).map f).getD i 0=f i:=by
 rw[r_,o_ (by rw[List.length_map,List.length_range]; exact hi)]; simp
theorem Ic{f g:Nat->Int}{n n':Nat}(m : ∀ i j,i<j->j<n->f i<f j)(o : ∀ i j,i<j->j<n'->g i<g j)(h1 : ∀ i,i<n -> ∃ j,j<n'/\g j=f i)(l : ∀ j,j<n' -> ∃ i,i<n/\f i=g j):n'=n /\ ∀ i,i<n->g i=f i:=by
 have e:(List.range n).map f=(List.range n').map g:=uq (by
  rw[List.pairwise_map];exact(List.pairwise_lt_range (n:=n)).imp_of_mem fun {a b} _ hb hab=>m a b hab (N_.1 hb)) (by
  rw[List.pairwise_map];exact(List.pairwise_lt_range (n:=n')).imp_of_mem fun {a b} _ hb hab=>o a b hab (N_.1 hb)) fun x=>by
  rw[List.mem_map,List.mem_map];constructor
  ·rintro ⟨i,c,rfl⟩;obtain⟨j,d,k⟩:=h1 i (N_.1 c);exact⟨j,N_.2 d,k⟩
  ·rintro ⟨j,d,rfl⟩;obtain⟨i,c,h⟩:=l j (N_.1 d);exact⟨i,N_.2 c,h⟩
 have p:n'=n:=by have:=K_ List.length e; rw[List.length_map,List.length_map,List.length_range,List.length_range]at this; exact this.symm
 refine⟨p,fun i c => ?_⟩;have:=K_ (fun z:List Int=>z.getD i 0) e;have:((List.range n).map f).getD i 0=((List.range n').map g).getD i 0:=this;rw[Ib c,Ib (by omega)]at this;exact this.symm
theorem D9.same(h:D9 m L N)(d:D9 m' L' N')(C:yX L)(D:yX L')(e:dY m'=dY m)(I : ∀ i,i<6->L'.known i=L.known i):FM L L':=by
 have B : ∀ y,m'.T.has y=m.T.has y:=fun y=>congrFun (K_ Ab.has e) y;have J : ∀ y,m'.T.par y=m.T.par y:=fun y=>congrFun (K_ Ab.par e) y;have H : ∀ y,aZ m' y=aZ m y:=fun y=>congrFun (K_ Ab.R e) y;have u : ∀ o r,iF m' o r=iF m o r:=fun o r=>congrFun (congrFun (K_ Ab.gh e) o) r;have w : ∀ {m:dK} {L:fJ} {N:Nat},D9 m L N -> ∀ i,i<L.nn->m.T.has (L.id i)=true/\aZ m (L.id i)=L.R i:=fun {m L N} h i k=>by
  have a:m.T.has (L.id i)=true:=(h.s.T.has _).2 ⟨i,k,rfl⟩;refine⟨a,?_⟩;unfold aZ;rw[d_ a,h.s.row i k]
 obtain⟨Q,z⟩:=Ic (f:=L.id) (g:=L'.id) (n:=L.nn) (n':=L'.nn) h.i.rise d.i.rise (fun i k=>(d.s.T.has _).1 (by rw[B]; exact(w h i k).1)) (fun i k=>(h.s.T.has _).1 (by rw[<- B]; exact(w d i k).1));have F : ∀ {m m':dK} {L L':fJ} {N N':Nat},D9 m L N->D9 m' L' N'->(∀ o r,iF m' o r=iF m o r) -> ∀ q,q<L.gn -> ∃ j,j<L'.gn/\nP (L'.g j)=nP (L.g q):=fun {m m' L L' N N'} h d u q t=>by
  have a:=(h.s.adR t).1;rw[<- u]at a;obtain⟨j,O,l,x⟩:=kR.1 a;obtain⟨S,v,G⟩:=d.s.g2 j O;have l:m'.g j 0=L.g q 0:=l;have x:m'.g j 1=L.g q 1:=x;exact⟨S,v,by unfold nP; rw[G,l,x]⟩
 obtain⟨K,M⟩:=Ic (f:=fun q=>nP (L.g q)) (g:=fun q=>nP (L'.g q)) (n:=L.gn) (n':=L'.gn) C.up D.up (F h d u) (F d h fun o r=>(u o r).symm);refine⟨by rw[<- h.s.inn,<- d.s.inn]; exact K_ Ab.inn e,by rw[<- h.s.left,<- d.s.left]; exact K_ Ab.left e,I,Q,K,fun i k => ?_,fun q t p W => ?_⟩
 ·have E:i<L'.nn:=by omega
  refine⟨z i k,?_,?_⟩
  ·rw[<- h.s.T.par i k,<- d.s.T.par i E,J,z i k]
  rw[<- (w h i k).2,<- (w d i E).2,H,z i k]
 have v:q<L'.gn:=by omega
 have P:nP (L'.g q)=nP (L.g q):=M q t;have U:=(C.wf q t).1;have V:=(D.wf q v).1;unfold nP at P;unfold je at U V;have A:L'.g q 0=L.g q 0:=by omega
 have l:L'.g q 1=L.g q 1:=by omega
 by_cases c:2<=p
 ·have a:=(h.s.adR t).2 p c (by omega);have b:=(d.s.adR v).2 p c (by omega);rw[<- a,<- b,A,l,K_ Ab.g e]
 rcases(show p=0\/p=1 by omega)with rfl|rfl
 ·exact A
 exact l
theorem O7{K K':Nat->Int}{A:Ab}(h : ∀ i,i<6->K' i=K i)(a : ∀ i,i<an->aL (ev i)<6) : ∀ n,n<=an->fV ev K' A n=fV ev K A n
 | 0,_=>rfl
 | n+1,hn=>by
   have c:wQ K' (ev n)=wQ K (ev n):=(by unfold wQ; rw[h _ (a n (by omega))]);show(if wQ K' (ev n)=true then(fV ev K' A n).qU (ev n)else fV ev K' A n)=_;rw[O7 h a n (by omega),c]; rfl
theorem sS.same(h:sS k ev an L)(f:sS k ev an L')(W:Ws k ev an)(j:yX L)(l:yX L')(a : ∀ i,i<6->L'.known i=L.known i):FM L L':=by
 obtain⟨m,N,b,o,c⟩:=h.ex;obtain⟨m',N',d,p,e⟩:=f.ex;refine b.same d j l ?_ a;rw[c,e];exact O7 a (fun i n=>(W.g i n).reg.2) an (z_ _)
theorem sS.next(h:sS k ev an L)(W:Ws k ev an){i:Nat}(hi:i<an)(b:L.known=fA ev i):bJ L (ev i)=0/\(bP L (ev i)).known=fA ev (i+1):=by
 have a:=h.ready W hi (by rw[b]; exact W.rd i hi);refine⟨a,?_⟩;rw[Cg a,b]
 funext q
 unfold aH;show _=fA ev i q+if aL (ev i)=q then 1 else 0;by_cases e:q=aL (ev i)
 ·rw[d_ e,d_ e.symm,e]
 rw[b_ e,b_ (fun q=>e q.symm),C_]
theorem O8(W:Ws k ev an) : ∀ i,i<an->1<=(ev i).seq:=fun i a=>(W.g i a).seq.1
theorem sS.some(h:sS k ev an L)(W:Ws k ev an){i:Nat}(hi:i<an):bJ L (ev i)=0\/bJ L (ev i)=14\/bJ L (ev i)=13:=by
 by_cases c:cO L.known (ev i)=true
 ·exact .inl (h.ready W hi c)
 right;have b:=(FW (W.rd i hi)).1;unfold bJ;rw[b_ (by rw[b]; decide)];by_cases a:lZ L.known (ev i)=true
 ·rw[d_ a]; exact .inl rfl
 rw[b_ a,d_ (by simpa using c)]; exact .inr rfl
end
end Rt
end
section
set_option linter.unusedVariables false
namespace Rt
section
variable {ev:Nat->EvM} {an k i r:Nat} {K K':Nat->Int} {L:fJ} {v:EvM}
theorem pK(ev:Nat->EvM)(i q:Nat):fA ev (i+1) q=fA ev i q+if aL (ev i)=q then 1 else 0:=rfl
where aep {a b:Int} (h:b<=a):(if a<=b then a else b)=b:=by split <;> omega
theorem Ls(L:fJ)(v:EvM)(q:Nat):L.known q<=(bP L v).known q:=by
 rcases qK L v with ⟨_,e⟩|⟨_,e⟩
 ·rw[e]; unfold aH; split
  ·subst_vars; omega
  exact M_ _
 rw[e]; exact M_ _
theorem sS.reach(h:sS k ev an L)(W:Ws k ev an)(hr:r<an)(d : ∀ q,q<6->fA ev r q<=L.known q) : ∀ q,q<6->fA ev (r+1) q<=(bP L (ev r)).known q:=fun q l=>by
 obtain⟨a,b,c⟩:=FW (W.rd r hr);have i:=mF a;have o:=d q l;have s:=Ls L (ev r) q;rw[pK];by_cases e:aL (ev r)=q
 ·rw[d_ e];by_cases n:(ev r).seq<=L.known q
  ·rw[e]at b; omega
  ·have j:=d _ i;have m:(ev r).seq=L.known (aL (ev r))+1:=(by rw[e]at b j ⊢; omega);have g:=h.ready W hr (I9 a m fun p f=>Q_ (c p f) (d p f));rw[Cg g,e];unfold aH; rw[d_ rfl,e]at *; omega
 ·rw[b_ e]; omega
theorem sS.full(h:sS k ev an L)(b : ∀ q,q<6->fA ev an q<=L.known q) : ∀ q,q<6->L.known q=fA ev an q:=fun q a=>by
 have:=h.kc.le q a; have:=b q a; omega
theorem FN(W:Ws k ev an)(f : ∀ q,q<6->0<=K q)(g : ∀ i,i<an->cO K (ev i)=false) : ∀ r,r<=an -> ∀ q,q<6->fA ev r q<=K q
 | 0,_,q,hq=>f q hq
 | r+1,hr,q,hq=>by
   have d:=FN W f g r (by omega);rw[pK];by_cases e:aL (ev r)=q
   ·rw[d_ e];obtain⟨a,b,c⟩:=FW (W.rd r (by omega));have l:=d q hq;rw[e]at b;by_cases j:fA ev r q+1<=K q
    ·exact j
    ·exfalso;have:cO K (ev r)=true:=I9 a (by rw[e]; omega) fun p h=>Q_ (c p h) (d p h);rw[g r (by omega)]at this; cases this
   ·rw[b_ e,C_]; exact d q hq
end
end Rt
end
section
set_option linter.unusedVariables false
namespace Rt
section
variable {x:EvM} {k an i:Nat} {ev:Nat->EvM} {L:fJ} {s:Int} {d:Nat->Int}
theorem O9(ev:Nat->EvM) : ∀(i j:Nat),fA ev i j<=i
 | 0,_=>M_ _
 | i+1,j=>by have:=O9 ev i j; show fA ev i j+(if aL (ev i)=j then 1 else 0)<=_; split <;> omega
end
end Rt
end
set_option maxRecDepth 20000
set_option linter.unusedVariables false
theorem Lu(n:Nat)(m:Int)(w:World)(h:m=(n:Int))(j:1<=n)(k:n<=6) :
 Calls Tryz.prog 12 #[au m] w fun e w' => ∃ p M,e = .returned (pt p)/\M.n=n/\M.an=0/\WC M/\nW w' w.heap.size p M 0/\Below w.heap.size w w':=by
 subst h; exact(Nr n w j k).mono fun _ _ ⟨p,M,c,a,b,g,d,f⟩=>⟨p,M,c,a,b,.new b fun i=>by rw[g i,a],d,f⟩
namespace Rt
theorem VZ(v:EvM)(j:Nat):(bR v j).oneCell'=true:=by unfold bR; repeat (first|rfl|split)
theorem FM.st{L L':fJ}(h:FM L L')(d:Option Addr)(e:Nat)(a:Option Addr)(b:Nat) : ∀ p,p<20->nK (OW L' d e a b) p=nK (OW L d e a b) p:=fun p f=>by
 unfold nK OW;simp only[h.inn,h.left,h.nn,h.gn];by_cases c:12<=p/\p<18
 ·rw[h.kn (p-12) (by omega)]
 ·repeat' split
  all_goals first|rfl|omega
end Rt
theorem Jw.same{w:World}{s:CB}{L L':fJ}(h:Jw w s L')(d:FM L L'):Jw w (OW L s.na s.nc s.ga s.gc) L:=by
 refine⟨rfl,?_,?_⟩
 ·have e:=h.n;rw[d.nn]at e;exact e.congr fun j k=>by
   unfold flat Vr;obtain⟨a,b,c⟩:=d.n (j / 56) (by omega);rw[a,b,c]
 have e:=h.g;rw[d.gn]at e;exact e.congr fun j k=>by
  unfold flat Vs iX;have g:=d.g (j / 5) (by omega) (j % 5) (I_ _ (by decide));have f:=d.g (j / 5) (by omega) 0 (by decide);have i:=d.g (j / 5) (by omega) 3 (by decide);rw[g,f,i]
theorem YS{w:World}{d a:CB}{L L':fJ}(h1:Jw w d L)(b:Jw w a L')(c:FM L L')(g:LWf L):Calls Tryz.prog 17 #[.agg (aA 20 (nK d)),.agg (aA 20 (nK a))] w fun e w'=>e = .returned (.bool true)/\Below w.heap.size w w' :=
 uS (Yu h1 (b.same c) g) (by rw[Fx.dZ (show ∀ p,p<20->nK a p=nK (OW L a.na a.nc a.ga a.gc) p from fun p f=>by rw[b.e]; exact c.st _ _ _ _ p f)])
section
set_option linter.unusedVariables false
namespace Rt
def zY(K:Nat->Int):Int:=K 0+K 1+K 2+K 3+K 4+K 5
section
variable {ev:Nat->EvM} {an k i n:Nat} {K:Nat->Int} {L:fJ} {v:EvM}
theorem Pb(a : ∀ i,i<n->aL (ev i)<6):zY (fA ev n)=n:=by
 induction n with
 | zero=>rfl
 | succ n b =>
   have b:=b fun i d=>a i (by omega);have c:=a n (by omega);unfold zY at *;rw[pK,pK,pK,pK,pK,pK]
   rcases(show aL (ev n)=0\/aL (ev n)=1\/aL (ev n)=2\/aL (ev n)=3\/aL (ev n)=4\/aL (ev n)=5 by omega)with q|q|q|q|q|q <;> rw[q] <;> simp <;> omega
theorem V4{a:Nat}(h:a<6)(K:Nat->Int)(x:Int):zY (aH K a (K a+x))=zY K+x:=by
 unfold zY aH
 rcases(show a=0\/a=1\/a=2\/a=3\/a=4\/a=5 by omega)with q|q|q|q|q|q <;> subst q <;> simp <;> omega
theorem adS{K K':Nat->Int}(h : ∀ q,q<6->K q<=K' q):zY K<=zY K':=by
 unfold zY;have:=h 0 (by decide); have:=h 1 (by decide); have:=h 2 (by decide); have:=h 3 (by decide); have:=h 4 (by decide); have:=h 5 (by decide);omega
theorem adT{K K':Nat->Int}(h : ∀ q,q<6->K q=K' q):zY K=zY K':=by
 unfold zY;rw[h 0 (by decide),h 1 (by decide),h 2 (by decide),h 3 (by decide),h 4 (by decide),h 5 (by decide)]
theorem Ws.regs(W:Ws k ev an) : ∀ i,i<an->aL (ev i)<6:=fun i a=>(W.g i a).reg.2
theorem Ws.adU(W:Ws k ev an)(a:Du ev an K):zY K<=an:=by
 rw[<- Pb (n:=an) W.regs]; exact adS a.le
theorem Ws.ahH(W:Ws k ev an)(a:Du ev an K)(hi:i<an)(hr:cO K (ev i)=true):Du ev an (aH K (aL (ev i)) (K (aL (ev i))+1)):=W.toEvs.cz.step a hi hr
theorem Ws.done(W:Ws k ev an)(c:Du ev an K)(b : ∀ q,q<6->0<=K q)(d : ∀ i,i<an->cO K (ev i)=false):zY K=an:=by
 rw[<- Pb (n:=an) W.regs];exact adT fun q a=>Int.le_antisymm (c.le q a) (FN W b d an (z_ _) q a)
theorem Du.zero(W:Ws k ev an):Du ev an fun _=>0:=⟨fun i _=>zT an i,fun i a b=>L_ (show(ev i).seq<=0 from b) (by have:=O8 W i a; omega)⟩
theorem Du.ok(W:Ws k ev an)(c:Du ev an K)(b : ∀ q,q<6->0<=K q):Dp K:=fun q a=>⟨b q a,by
 have d:=c.le q a;have e:=O9 ev an q;have f:=W.an;omega⟩
theorem sS.up(h:sS k ev an L)(W:Ws k ev an)(hi:i<an)(q:Nat)(b : ∀ p,p<6->fA ev q p<=L.known p) : ∀ p,p<6->fA ev q p<=(bP L (ev i)).known p:=fun p a=>Q_ (b p a) (Ls L (ev i) p)
end
end Rt
end
end Go.Proofs.YtahbiajdgealnaaGreatDoor
