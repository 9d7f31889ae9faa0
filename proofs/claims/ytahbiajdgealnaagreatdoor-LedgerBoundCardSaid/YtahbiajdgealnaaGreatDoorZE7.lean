/-
  What the proof of the law rests on, part 7: walks of functions, and plain laws; each says its conditions itself.
-/
import Derived.Deep.Slices
import Derived.Lib.SmallJoins
import Derived.ChangeArms
import Derived.Test.YtahbiajdgealnaaGreatDoorZE6
set_option maxHeartbeats 1600000
set_option linter.unusedVariables false
set_option linter.unusedSimpArgs false
namespace Go.Proofs.YtahbiajdgealnaaGreatDoor
open Go.RowKit Go
set_option linter.unusedVariables false
set_option maxRecDepth 20000
namespace Rt
def nR(x:Nat->Int):Int:=x 0*18446744073709551616+x 1
structure za(L:fP):Prop where
 up : ∀ i j,i<j->j<L.gn->nR (L.g i)<nR (L.g j)
 wf : ∀ q,q<L.gn->kF (L.g q 1)/\kF (L.g q 4)
 ga : ∀ q,q<L.gn->1<=L.g q 0/\L.g q 0<=6 /\ ∃ j,j<L.rn (L.g q 0-1).toNat/\L.rq (L.g q 0-1).toNat j=L.g q 1
section
variable {L:fP} {N:Nat} {v:EvM}
theorem Ve(a:kF v.req){x:Nat->Int}(hx:kF (x 1)):EN v x=true<->nR (pY v)<nR x:=by
 unfold EN nR kF at *;rw[Bool.or_eq_true,R_,O_,O_,O_];show v.o<x 0\/x 0=v.o/\v.req<x 1<->v.o*18446744073709551616+v.req<x 0*18446744073709551616+x 1;omega
theorem KV{a:Nat}{r:Int}(L':fP)(d:L'.rn=aJ L.rn a (L.rn a+1))(f:L'.rq=aJ L.rq a (aJ (L.rq a) (L.rn a) r)):(∀ b y,(∃ j,j<L.rn b/\L.rq b j=y) -> ∃ j,j<L'.rn b/\L'.rq b j=y) /\ ∃ j,j<L'.rn a/\L'.rq a j=r:=by
 rw[d,f];unfold aJ;refine⟨fun b y ⟨j,g,e⟩ => ?_,L.rn a,by rw[d_ rfl]; omega,by rw[d_ rfl,d_ rfl]⟩;by_cases c:b=a
 ·subst c;exact⟨j,by rw[d_ rfl]; omega,by rw[d_ rfl,b_ (by omega)]; exact e⟩
 exact⟨j,by rw[b_ c]; exact g,by rw[b_ c]; exact e⟩
attribute [local irreducible] bT dw in
theorem M6(h:za L)(J:bO v=true)(M:gy v)(t:iQ L v=0):za (lN L v):=by
 have z:=nP J;have m:kF v.req:=M.req;unfold iQ at t;split at t
 ·cases t
 rename_i c1;obtain⟨w,x⟩:=KV (L:=L) (a:=aP v) (r:=v.req) (lN L v) rfl rfl;have K : ∀ j,j<L.gn -> ¬ (L.g j 0=v.o/\L.g j 1=v.req):=fun j f e=>c1 (by
  obtain⟨_,_,q,b,y⟩:=h.ga j f;rw[e.1,e.2]at y;rw[e.1]at b;unfold fP.kQ;rw[BZ];exact⟨q,b,f_ y⟩)
 obtain⟨k,u⟩ : ∃ k,k=Fx.down (fun i=>EN v (L.g i)) L.gn:=⟨_,rfl⟩;have l:k<=L.gn:=by rw[u]; exact Fx.yu _ _
 have I : ∀ q,k<=q->q<L.gn->nR (pY v)<nR (L.g q):=fun q D d=>(Ve m (h.wf q d).1).1 (Fx.Ig (P:=fun i=>EN v (L.g i)) (n:=L.gn) (i:=q) (by omega) d);have H : ∀ q,q<k->nR (L.g q)<nR (pY v):=fun q D=>by
  obtain⟨j,rfl⟩ : ∃ j,k=j+1:=⟨k-1,by omega⟩;have d:=Fx.Ih (P:=fun i=>EN v (L.g i)) (n:=L.gn) (j:=j) u.symm;have E : ¬ nR (pY v)<nR (L.g j):=fun e=>by
   have:=(Ve m (h.wf j (by omega)).1).2 e;rw[this]at d; cases d
  have F:nR (L.g j)<nR (pY v):=by
   rcases Int.lt_trichotomy (nR (L.g j)) (nR (pY v))with c|c|c
   ·exact c
   ·exfalso;have G:=(h.wf j (by omega)).1;refine K j (by omega) ?_;unfold nR at c;have c:L.g j 0*18446744073709551616+L.g j 1=v.o*18446744073709551616+v.req:=c;unfold kF at G m;omega
   ·exact L_ c E
  by_cases e:q=j
  ·rw[e]; exact F
  ·have:=h.up q j (by omega) (by omega); omega
 have p:(lN L v).g=Fx.cK L.g k (pY v):=by rw[u]; rfl
 have s:(lN L v).gn=L.gn+1:=rfl;refine⟨fun i j N f => ?_,fun q b => ?_,fun q b => ?_⟩
 ·rw[s]at f;rw[p]
  rcases dU l (show i<L.gn+1 by omega)with rfl|⟨q,b,eq,q1,q2⟩
  ·rcases dU l f with rfl|⟨r,hr,er,w,x⟩
   ·omega
   rw[dG,er]; exact I r (by omega) hr
  rcases dU l f with rfl|⟨r,hr,er,w,x⟩
  ·rw[dG,eq]; exact H q (by omega)
  rw[eq,er]; exact h.up q r (by omega) hr
 ·rw[s]at b;rw[p]
  rcases dU l b with rfl|⟨r,hr,er,_,_⟩
  ·rw[dG]; exact⟨m,by show kF 0; unfold kF; omega⟩
  rw[er]; exact h.wf r hr
 rw[s]at b;rw[p]
 rcases dU l b with rfl|⟨r,hr,er,_,_⟩
 ·rw[dG]; exact⟨z.1,z.2.1,x⟩
 rw[er];obtain⟨A,B,C⟩:=h.ga r hr;exact⟨A,B,w _ _ C⟩
attribute [local irreducible] bT dw in
theorem M7(h:za L)(w:bO v=true)(s:gy v)(u:iH L v=0):za (jY L v):=by
 obtain⟨t,x⟩:=KV (L:=L) (a:=aP v) (r:=v.req) (jY L v) rfl rfl;have e : ∀ q,(jY L v).g q=if q=zy L v then aJ (L.g (zy L v)) 4 v.req else L.g q:=fun q=>rfl;have b : ∀ j p,(p=0\/p=1)->(jY L v).g j p=L.g j p:=fun j p o=>by
  rw[e];by_cases c:j=zy L v
  ·subst c; rw[d_ rfl]; rcases o with rfl|rfl <;> rfl
  ·rw[b_ c]
 refine⟨fun i j m n => ?_,fun q d => ?_,fun q d => ?_⟩
 ·unfold nR;rw[b i 0 (.inl rfl),b i 1 (.inr rfl),b j 0 (.inl rfl),b j 1 (.inr rfl)];exact h.up i j m n
 ·rw[b q 1 (.inr rfl)];refine⟨(h.wf q d).1,?_⟩;rw[e];by_cases c:q=zy L v
  ·rw[d_ c]; exact s.req
  rw[b_ c]; exact(h.wf q d).2
 rw[b q 0 (.inl rfl),b q 1 (.inr rfl)];obtain⟨f,k,l⟩:=h.ga q d;exact⟨f,k,t _ _ l⟩
theorem M8(h:za L)(e:gy v):za (aA L v):=by
 unfold aA;by_cases c:bP L v=0
 ·rw[d_ c];have b:=(E9 (iZ c)).1;have a:dR L v=0:=by
   unfold bP at c;rw[b_ (by rw[b]; decide)]at c;split at c; · cases c
   split at c; · cases c
   split at c; · cases c
   exact c
  have d:za (iI L v):=by
   unfold dR at a;unfold iI;by_cases f:v.kind=1
   ·rw[d_ f]; exact⟨h.up,h.wf,h.ga⟩
   rw[b_ f]at a ⊢;by_cases g:v.kind=2
   ·rw[d_ g]; exact⟨h.up,h.wf,h.ga⟩
   rw[b_ g]at a ⊢;by_cases i:v.kind=3
   ·rw[d_ i]at a ⊢; exact M6 h b e a
   rw[b_ i]at a ⊢;by_cases j:v.kind=4
   ·rw[d_ j]at a ⊢; exact M7 h b e a
   rw[b_ j]at a ⊢;by_cases k:v.kind=5
   ·rw[d_ k]; exact⟨h.up,h.wf,h.ga⟩
   rw[b_ k];by_cases l:v.kind=6
   ·rw[d_ l]; exact⟨h.up,h.wf,h.ga⟩
   ·rw[b_ l]; exact⟨h.up,h.wf,h.ga⟩
  exact⟨d.up,d.wf,d.ga⟩
 rw[b_ c]; exact h
theorem Vf(k a:Nat):za (jW k a).core:=⟨fun i j _ h=>L_ h (u_ _),fun q h=>L_ h (u_ _),fun q h=>L_ h (u_ _)⟩
theorem fQ.new(k l d e f c b g:Nat):fQ (xZ k l d e f c b) (jW k g).core where
 T:=⟨fun q=>⟨fun h=>(nomatch h),fun⟨i,h,_⟩=>L_ h (u_ _)⟩,rfl,fun i h=>L_ h (u_ _)⟩
 inn:=rfl
 left:=rfl
 known:=rfl
 row:=fun i h=>L_ h (u_ _)
 own:=fun a _=>rfl
 gi:=fun i j h=>L_ h (u_ _)
 gn:=rfl
 g1:=fun q h=>L_ h (u_ _)
 g2:=fun q h=>L_ h (u_ _)
 ask:=fun a r _=>⟨fun h=>(nomatch h),fun⟨j,h,_⟩=>L_ h (u_ _)⟩
 ga:=fun i h=>L_ h (u_ _)
 li:=fun i j h=>L_ h (u_ _)
structure StC(L:fP)(m:dP)(l:List Int)(gl:List I7):Prop where
 nn:l.length=L.nn
 gn:gl.length=L.gn
 n : ∀ k,k<L.nn->l.getD k 0=L.id k/\m.T.par (l.getD k 0)=L.par k/\CS m (l.getD k 0)=L.R k
 g : ∀ k,k<L.gn->(gl.getD k g0).x=L.g k
theorem StC.of{m:dP}{l:List Int}{c:List I7}(h:fQ m L)(F:Inv0 L N)(u:za L)(B:l.Pairwise (· < ·) /\ ∀ k,k∈l<->m.T.has k=true)(s:GrS m c):StC L m l c:=by
 have w:l=(List.range L.nn).map L.id:=uE B.1 (by
  rw[List.pairwise_map];exact(List.pairwise_lt_range (n:=L.nn)).imp_of_mem fun {a b} _ hb hab=>F.rise a b hab (N_.1 hb)) fun k=>by
  rw[B.2,h.T.has,List.mem_map];exact⟨fun⟨i,d,e⟩=>⟨i,N_.2 d,e⟩,fun⟨i,d,e⟩=>⟨i,N_.1 d,e⟩⟩
 have y:c.map KP=(List.range L.gn).map fun q=>nR (L.g q):=uE (by rw[List.pairwise_map]; exact s.up) (by
  rw[List.pairwise_map];exact(List.pairwise_lt_range (n:=L.gn)).imp_of_mem fun {a b} _ hb hab=>u.up a b hab (N_.1 hb)) fun k=>by
  rw[List.mem_map,List.mem_map];constructor
  ·rintro ⟨x,v,e⟩;obtain⟨i,d,p⟩:=s.mem x v;obtain⟨q,o,r⟩:=h.g2 i d;refine⟨q,N_.2 o,?_⟩;rw[r,<- p]; exact e
  ·rintro ⟨q,o,e⟩;obtain⟨j,G,C⟩:=h.g1 q (N_.1 o);obtain⟨x,v,E⟩:=s.all j G;refine⟨x,v,?_⟩;rw[<- e,<- C,<- E]; rfl
 have I:c.length=L.gn:=by have:=K_ List.length y; rwa [List.length_map,List.length_map,List.length_range]at this
 refine⟨by rw[w,List.length_map,List.length_range],I,fun k f => ?_,fun k f => ?_⟩
 ·have:l.getD k 0=L.id k:=by
   rw[w,r_,o_ (by rw[List.length_map,List.length_range]; exact f)];simp
  rw[this];exact⟨rfl,h.T.par k f,h.row k f⟩
 have t:k<c.length:=by omega
 have H:c.getD k g0∈c:=by rw[r_,o_ t]; exact P_ t
 have D:KP (c.getD k g0)=nR (L.g k):=by
  have A:=K_ (fun z=>z.getD k 0) y;simp only[r_,List.getElem?_map,o_ t,List.getElem?_range f]at A;rw[r_,o_ t]; exact A
 obtain⟨i,d,p⟩:=s.mem _ H;obtain⟨q,o,r⟩:=h.g2 i d;have J:nR (L.g q)=nR (L.g k):=by rw[r,<- p,<- D]; rfl
 have:q=k:=by
  rcases Nat.lt_trichotomy q k with h5|h5|h5
  ·have:=u.up q k h5 f; omega
  ·exact h5
  ·have:=u.up k q h5 o; omega
 rw[p,<- r,this]
end
end Rt
end Go.Proofs.YtahbiajdgealnaaGreatDoor
namespace Go.Proofs.YtahbiajdgealnaaGreatDoor
open Go.RowKit Go.WideShapes Go.ChangeShapes Go.Deep
theorem Qk{w:World}{x:Addr}{v:Value}(h:w.cell? x=some v) : ∃ b a,x=⟨b,a,none⟩:=by
 obtain⟨b,a,c⟩:=x
 cases c with
 | none=>exact⟨b,a,rfl⟩
 | some q =>
   unfold World.cell? at h;simp at h;split at h <;> cases h
def At4(a k1 k2 c:IntKind)(w:World)(b off:Nat)(x0 x1 x2 d:Int):Prop :=
 w.cell? ⟨b,off,none⟩=some (.int a x0)/\w.cell? ⟨b,off+1,none⟩=some (.int k1 x1)/\w.cell? ⟨b,off+2,none⟩=some (.int k2 x2)/\w.cell? ⟨b,off+3,none⟩=some (.int c d)
def Wf4(a k1 k2 b:IntKind)(x0 x1 x2 c:Int):Prop:=(Lit.int a x0).wf=true/\(Lit.int k1 x1).wf=true/\(Lit.int k2 x2).wf=true/\(Lit.int b c).wf=true
def Sl4(g k1 k2 h:IntKind)(w:World)(a:Option Addr)(len:Nat)(c d e f:Nat->Int):Prop :=
 ∀ i,i<len->(∃ b j,a=some ⟨b,j,none⟩/\At4 g k1 k2 h w b (j+i*4) (c i) (d i) (e i) (f i))/\Wf4 g k1 k2 h (c i) (d i) (e i) (f i)
theorem Sl4.up{m k1 k2 n:IntKind}{w w':World}{a:Option Addr}{len:Nat}{g j k l:Nat->Int}(h:Sl4 m k1 k2 n w a len g j k l)(f:Below w.heap.size w w'):Sl4 m k1 k2 n w' a len g j k l:=by
 intro i q;obtain⟨⟨b,d,e,o,r,s,t⟩,hw⟩:=h i q;have c:=block_lt_of_cell o
 dsimp only at c
 exact⟨⟨b,d,e,(f.cell (p:=⟨b,d+i*4,none⟩) c).trans o,(f.cell (p:=⟨b,d+i*4+1,none⟩) c).trans r,(f.cell (p:=⟨b,d+i*4+2,none⟩) c).trans s,(f.cell (p:=⟨b,d+i*4+3,none⟩) c).trans t⟩,hw⟩
instance {g k1 k2 i:IntKind} {w w':World} {a:Option Addr} {len:Nat} {c d e f:Nat->Int}:Rt.Tr w w' (Sl4 g k1 k2 i w a len c d e f) (Sl4 g k1 k2 i w' a len c d e f):=⟨fun b h=>h.up b⟩
end Go.Proofs.YtahbiajdgealnaaGreatDoor
namespace Go.Proofs.YtahbiajdgealnaaGreatDoor
open Go.RowKit Go.WideShapes Go.ChangeShapes Go.Deep
def yc(P:Program):Nat->TypeId->Option (List (Option IntKind))
 | 0,_=>none
 | d+1,t=>match P.underlying t with
   | some (.int k)=>some [some k]
   | some .bool=>some [none]
   | some (.array n e)=>(yc P d e).bind fun a=>if P.cellsOf e=a.length/\P.cellsOf t=n*a.length then some (List.replicate n a).flatten else none
   | some (.struct fs)=>(fs.toList.foldlM (fun l f=>(yc P d f.type).bind fun a=>if f.offset=l.length/\P.cellsOf f.type=a.length then some (l++a)else none) []).bind fun l=>if P.cellsOf t=l.length then some l else none
   | _=>none
def QL(k:Option IntKind)(v:Value):Prop:=match k with|some k => ∃ n,v = .int k n/\(Lit.int k n).wf=true|none => ∃ b,v = .bool b
def ZJ(ks:List (Option IntKind))(cs:List Value):Prop:=cs.length=ks.length /\ ∀(j:Nat) (k:Option IntKind),ks[j]? = some k -> ∃ v,cs[j]? = some v/\QL k v
theorem Ca{ks:List (Option IntKind)}{k:Option IntKind} : ∀(n j:Nat),(List.replicate n ks).flatten[j]? = some k->ks[j % ks.length]? = some k/\j / ks.length<n
 | 0,j,h=>by simp at h
 | n+1,j,h=>by
   rw[List.replicate_succ,List.flatten_cons]at h;by_cases b:j<ks.length
   ·rw[List.getElem?_append_left b]at h;rw[Nat.mod_eq_of_lt b,Nat.div_eq_of_lt b]; exact⟨h,by omega⟩
   ·rw[List.getElem?_append_right (by omega)]at h;have c:0<ks.length:=by
     rcases Nat.eq_zero_or_pos ks.length with e|e
     ·obtain⟨a,_⟩:=Ca n _ h;have:=(List.getElem?_eq_some_iff.1 a).1; omega
     ·exact e
    obtain⟨a,d⟩:=Ca n _ h;rw[Nat.mod_eq_sub_mod (by omega),Nat.div_eq_sub_div c (by omega)];exact⟨a,by omega⟩
section
variable {H:Type} {enc:TypeId × Value->H} {P:Program} {w:World} {base:Nat} {spare:Nat->Bool} {held:Bool}
theorem Fz{ks:List (Option IntKind)}{cs:List Value}{o s j:Nat}{k:Option IntKind}(h:ZJ ks ((cs.drop o).take s))(e:s=ks.length)(b:ks[j]? = some k) : ∃ v,cs[o+j]? = some v/\QL k v:=by
 obtain⟨n,a,c⟩:=h.2 j k b;have d:=(List.getElem?_eq_some_iff.1 b).1;rw[List.getElem?_take_of_lt (by omega),List.getElem?_drop]at a;exact⟨n,a,c⟩
theorem Cb : ∀(d:Nat) (t:TypeId) (q:List (Option IntKind)),yc P d t=some q -> ∀(C:Nat) (p:List Value) (x:DataW H × List MemPlace),DataW.trod enc P w base spare held C t p=some x->ZJ q p
 | 0,_,_,h=>by simp[yc]at h
 | d+1,t,q,h=>by
   intro C p x z;unfold yc at h;split at h
   ·rename_i k hu;simp only[Option.some.injEq]at h; subst h;obtain⟨n,rfl,_,U⟩:=DataW.trod_int hu z;refine⟨rfl,fun j W a => ?_⟩
    match j,a with
    | 0,a=>simp at a; subst a; exact⟨_,rfl,n,rfl,U⟩
    | j+1,a=>simp at a
   ·rename_i hu;simp only[Option.some.injEq]at h; subst h;obtain⟨b,rfl,_⟩:=DataW.trod_bool hu z;refine⟨rfl,fun j W a => ?_⟩
    match j,a with
    | 0,a=>simp at a; subst a; exact⟨_,rfl,b,rfl⟩
    | j+1,a=>simp at a
   ·rename_i n e hu;obtain⟨I,S,h⟩:=Option.bind_eq_some_iff.1 h;split at h
    ·rename_i hc;simp only[Option.some.injEq]at h; subst h;obtain⟨Y,m,_,_,c,F,J⟩:=DataW.trod_array hu z;refine⟨by rw[c,hc.2]; simp,fun j k a => ?_⟩;obtain⟨r,A⟩:=Ca n j a;have u:=J (j / I.length) A;rw[o_ (by omega),hc.1]at u;have:=Fz (Cb d e I S _ _ _ u) rfl r;rw[Nat.mul_comm,Nat.div_add_mod]at this;exact this
    ·cases h
   ·rename_i fs hu;obtain⟨l,c,h⟩:=Option.bind_eq_some_iff.1 h;split at h
    ·rename_i hc;simp only[Option.some.injEq]at h; subst h;obtain⟨Y,m,_,_,T,F,K⟩:=DataW.trod_struct hu z;refine⟨by rw[T,hc],?_⟩;have M : ∀ f,f∈fs.toList -> ∃ y,DataW.trod enc P w base spare held m f.type ((p.drop f.offset).take (P.cellsOf f.type))=some y:=by
      intro f N;obtain⟨i,u,e⟩:=List.mem_iff_getElem.1 N;have E:i<fs.size:=(by simpa using u);have r:fs[i]? = some f:=(by rw[Array.getElem?_eq_getElem E]; simpa using e);have:=K i f r;rw[o_ (by rw[F]; exact E)]at this;exact⟨_,this⟩
     have X : ∀(L:List Field) (o:List (Option IntKind)),(∀ f,f∈L -> ∃ y,DataW.trod enc P w base spare held m f.type ((p.drop f.offset).take (P.cellsOf f.type))=some y)->(∀(j:Nat) (k:Option IntKind),o[j]? = some k -> ∃ v,p[j]? = some v/\QL k v) -> ∀ l,L.foldlM (fun l f=>(yc P d f.type).bind fun q=>if f.offset=l.length/\P.cellsOf f.type=q.length then some (l++q)else none) o=some l -> ∀(j:Nat) (k:Option IntKind),l[j]? = some k -> ∃ v,p[j]? = some v/\QL k v:=by
      intro L
      induction L with
      | nil=>intro o _ B l c; simp at c; subst c; exact B
      | cons f L ih =>
        intro o D B l c;rw[List.foldlM_cons]at c;obtain⟨Z,r,A⟩:=Option.bind_eq_some_iff.1 c;obtain⟨G,R,s⟩:=Option.bind_eq_some_iff.1 r;split at s
        ·rename_i hcc;simp only[Option.some.injEq]at s; subst s;refine ih (o++G) (fun g O=>D g (List.mem_cons_of_mem _ O)) (fun j k a => ?_) l A;by_cases Q:j<o.length
         ·rw[List.getElem?_append_left Q]at a; exact B j k a
         ·rw[List.getElem?_append_right (by omega)]at a;obtain⟨y,V⟩:=D f (List.mem_cons_self ..);have:=Fz (Cb d f.type G R _ _ _ V) hcc.2 a;rw[hcc.1,show o.length+(j-o.length)=j by omega]at this;exact this
        ·cases s
     exact X fs.toList [] M (fun j k a=>by simp at a) l c
    ·cases h
   ·cases h
end
section
variable {H:Type} {enc:TypeId × Value->H} {P:Program} {w:World} {base:Nat} {spare:Nat->Bool} {held:Bool}
theorem Ql{t e:TypeId}{ks:List (Option IntKind)}{fuel D:Nat}{cs:List Value}{x:DataW H × List MemPlace}(S:P.underlying t=some (.slice e))(O:yc P D e=some ks)(F:P.cellsOf e=ks.length)(C:0<ks.length)
 (h:DataW.trod enc P w base spare held fuel t cs=some x) : ∃ a c l,cs = [.slice a c l]/\c<=maxLen/\c<=l /\ ∃ X:Nat->Nat->Value,(∀ i,i<c -> ∀(j:Nat) (k:Option IntKind),ks[j]? = some k->QL k (X i j))/\Fx.ou w a c ks.length (Fx.flat ks.length X):=by
 rcases open_slice S h with ⟨rfl,_⟩|⟨a',c,l,m,n,D',Pl,rfl,_,hl,hm,hmm,_,hx⟩
 ·exact⟨none,0,0,rfl,by unfold maxLen; omega,z_ _,fun _ _=>undef,fun i d=>L_ d (by omega),fun h=>L_ h (by omega)⟩
 have W:c<=m:=by rw[hmm]; split <;> omega
 have r : ∀ i j:Nat,∃ q:Value,i<c -> ∀ k,ks[j]? = some k->w.cell? (a'.add (i*ks.length+j))=some q/\QL k q:=by
  intro i j;by_cases d:i<c/\j<ks.length
  ·obtain⟨U,A,J⟩:=hx i (by omega);rw[F]at A;obtain⟨_,V,M⟩:=World.cells?_some A;obtain⟨q,y,z⟩:=(Cb _ _ _ O _ _ _ J).2 j _ (o_ d.2);refine⟨q,fun _ k v => ?_⟩;rw[o_ d.2,Option.some.injEq]at v;subst v;have E:=M j (by omega);rw[add_add]at E;exact⟨by rw[<- y]; simpa using E,z⟩
  ·refine⟨undef,fun y k z=>L_ ⟨y,(List.getElem?_eq_some_iff.1 z).1⟩ d⟩
 refine⟨some a',c,l,rfl,by omega,hl,fun i j=>Classical.choose (r i j),fun i d j k v=>(Classical.choose_spec (r i j) d k v).2,fun K => ?_⟩;have G:a'.add (0*ks.length+0)=a':=by unfold Addr.add; simp
 obtain⟨Z,L⟩:=r 0 0;have Q:=o_ C;have B:=(L K _ Q);have g:=B.1;rw[G]at g;have o : ∃ b f,a'=⟨b,f,none⟩:=by
  have u:=B.2;unfold QL at u;split at u
  ·obtain⟨Y,rfl,_⟩:=u; exact Qk g
  ·obtain⟨T,rfl⟩:=u;unfold World.cell? at g
   cases a' with
   | mk b f sp =>
     cases sp with
     | none=>exact⟨b,f,rfl⟩
     | some s=>simp at g; split at g <;> simp_all
 obtain⟨b,f,o⟩:=o;refine⟨b,f,by rw[o],fun p R => ?_⟩;have N:p % ks.length<ks.length:=I_ _ C;have d:p / ks.length<c:=Nat.div_lt_of_lt_mul (by rw[Nat.mul_comm]; exact R);have:=(Classical.choose_spec (r (p / ks.length) (p % ks.length)) d _ (o_ N)).1;have I:a'.add (p / ks.length*ks.length+p % ks.length)=⟨b,f+p,none⟩:=by rw[o,addr_add,Nat.mul_comm,Nat.div_add_mod]
 exact(K_ w.cell? I).symm.trans this
end
section
variable {H:Type} {enc:TypeId × Value->H} {P:Program} {w:World}
theorem ou.uD{w:World}{a:Option Addr}{n s:Nat}{x y:Nat->Value}(h:Fx.ou w a n s x)(e : ∀ p,p<n*s->x p=y p):Fx.ou w a n s y:=fun f=>by
 obtain⟨b,j,d,g⟩:=h f;exact⟨b,j,d,fun i c=>by rw[<- e i c]; exact g i c⟩
end
end Go.Proofs.YtahbiajdgealnaaGreatDoor
namespace Go.Proofs.YtahbiajdgealnaaGreatDoor
open Go.RowKit Rt
open Fx (fD eP fJ bD gP gM dD dS gD jB eX jC fU jD je Lv sN Ln Ws Qv Wl Rp Wc Qs Wr Sb Lk Wk rC rV sR Rs Rn Rd Rk Wb Wx Wo Dy Wt qW I4 Qn FM Bc yN zh C9 Dw qo gY zi ng uq uo vO wZ zf Dk Ap rv aC aS bI aM ev cK Stp dH aW flat dA Mp fq aY gX iU bF down iN jO kI iW ou bK bJ cells_one iP bV xk unseen jK iB bY dM bM bQ cu cB gJ gT qb gQ)
set_option maxRecDepth 20000
set_option linter.unusedVariables false
namespace Rt
def Qm(L:fP)(c:Option Addr)(d:Nat)(a:Option Addr)(b:Nat):DL:=⟨L.inn,L.left,L.known,c,L.nn,d,a,L.gn,b⟩
def M9(L:fP):Nat->Nat->Value:=fun k=>lY (L.id k) (L.par k) (L.R k)
def OI(L:fP):Nat->Nat->Value:=fun k=>jf (L.g k)
structure LWf(L:fP):Prop where
 n : ∀ k,k<L.nn->kF (L.id k)/\kF (L.par k) /\ ∀ p,p<54->xB (L.R k p)
 g : ∀ k,k<L.gn->xB (L.g k 0)/\kF (L.g k 1)/\kF (L.g k 2)/\xB (L.g k 3)/\kF (L.g k 4)
 k : ∀ i,i<6->kF (L.known i)
 bn:L.nn<=900000
 bg:L.gn<=900000
theorem LWf.of{L:fP}{N:Nat}(a:Inv0 L N)(o:zY L)(m:za L)(A:N<=900000):LWf L where
 n:=fun k c=>by
  have y:=a.pos k c;have z:=a.top k c;have f:=iw (a.may k c);refine⟨⟨by omega,by omega⟩,?_,fun p r=>by have:=f p r; exact⟨by omega,by omega⟩⟩
  rcases a.up k c with e|⟨j,b,e⟩
  ·rw[e]; exact⟨by omega,by omega⟩
  ·have h:=a.pos j b;have l:=a.top j b;rw[<- e]; exact⟨by omega,by omega⟩
 g:=fun k c=>by
  obtain⟨d,u,v,w,x⟩:=o.gb k c;obtain⟨s,t⟩:=m.wf k c;obtain⟨j,b,e⟩:=iC.1 d;rw[a.BL]at b;rw[(a.tid j b).1]at e;have h:=a.pos j b;have l:=a.top j b;exact⟨⟨by omega,by omega⟩,s,by rw[<- e]; exact⟨by omega,by omega⟩,⟨by omega,by omega⟩,t⟩
 k:=fun i q=>by have:=a.kn i q; exact⟨by omega,by omega⟩
 bn:=by have:=a.nn; omega
 bg:=by have:=a.gn; omega
end Rt
structure OJ(w:World)(s:DL)(L:fP):Prop where
 e:s=Qm L s.na s.nc s.ga s.gc
 n:ou w s.na L.nn 56 (flat 56 (M9 L))
 g:ou w s.ga L.gn 5 (flat 5 (OI L))
theorem OJ.up{w w':World}{s:DL}{L:fP}(h:OJ w s L)(a:Below w.heap.size w w'):OJ w' s L:=⟨h.e,h.n.up a rfl,h.g.up a rfl⟩
instance {w w':World} {s:DL} {L:fP}:Rt.Tr w w' (OJ w s L) (OJ w' s L):=⟨fun b h=>h.up b⟩
theorem OJ.ldg{w:World}{p:Nat}{m:kX}(h:Cx w p m):OJ w m.s m.core:=⟨rfl,h.an,h.ag⟩
theorem OJ.of{w:World}{B:Nat}{m:dP}{s:DL}{l:List Int}{p:List I7}{L:fP}{N:Nat}(h:StQ w B m s l p)(d:fQ m L)(r:Inv0 L N)(q:za L):OJ w s L:=by
 have e:=StC.of d r q h.ls h.gs;have f:s.nn=L.nn:=by rw[h.nn,e.nn]
 have i:s.gn=L.gn:=by rw[h.gn,e.gn]
 refine⟨?_,?_,?_⟩
 ·cases s
  unfold Qm;have a:=h.inn;have b:=h.left;have c:=h.known;simp only at a b c f i ⊢;rw[a,b,c,d.inn,d.left,d.known,f,i]
 ·have:=h.n.arr;rw[f]at this;refine ou.uD this<|bK fun k o j _ => ?_;obtain⟨a,b,c⟩:=e.n k o;unfold Va M9;rw[b,c,a]
 have:=h.g.arr;rw[i]at this;refine ou.uD this<|bK fun k o j _ => ?_;unfold V6 OI;rw[e.g k o]
namespace Rt
def OL(x y:Value):Nat->Value:=fun q=>if q=0 then x else y
theorem agL(x y v:Value):dA (OL x y) 0 v=OL v y:=by funext q; unfold dA OL; split <;> rfl
theorem agM(x y v:Value) : ∀ j,j<2->dA (OL x y) 1 v j=OL x v j:=fun j a=>by
 unfold dA OL
 rcases j with _|_|j
 ·rfl
 ·rfl
 ·omega
def Hl(a:Nat->Nat):Nat->Value:=fun i=>(pt (a i))
def Dv(w:World)(B n:Nat)(b:Nat->Nat)(a:Nat->kX):Prop := ∀ i,i<n->vF w B (b i) (a i)
theorem Dv.up{w w':World}{B n:Nat}{b:Nat->Nat}{a:Nat->kX}(h:Dv w B n b a)(c:Below w.heap.size w w'):Dv w' B n b a:=fun i d=>(h i d).up c
instance {w w':World} {B n:Nat} {c:Nat->Nat} {a:Nat->kX}:Rt.Tr w w' (Dv w B n c a) (Dv w' B n c a):=⟨fun b h=>h.up b⟩
theorem Dv.jN{w w':World}{B n:Nat}{c:Nat->Nat}{b:Nat->kX}{a:List TypeId}(h:Dv w B n c b)(e:iP a w w')(f:(F4.all fun T => !a.contains T)=true):Dv w' B n c b:=fun i d=>(h i d).jN e f
instance {w w':World} {B n:Nat} {d:Nat->Nat} {c:Nat->kX} {a:List TypeId}:Rt.Tc a w w' (Dv w B n d c) (Dv w' B n d c) (F4.all fun T => !a.contains T):=⟨fun b h e=>h.jN b (by simpa using e)⟩
theorem Dv.put{w:World}{B n o p:Nat}{b:Nat->Nat}{a:Nat->kX}{m:kX}(h:Dv w B n b a)(d:vF w B p m):Dv w B n (aJ b o p) (aJ a o m):=fun i c=>by
 unfold aJ;by_cases e:i=o
 ·rw[d_ e,d_ e]; exact d
 ·rw[b_ e,b_ e]; exact h i c
theorem Dv.snoc{w:World}{B n p:Nat}{b:Nat->Nat}{a:Nat->kX}{m:kX}(h:Dv w B n b a)(c:vF w B p m):Dv w B (n+1) (aJ b n p) (aJ a n m):=fun i d=>by
 unfold aJ;by_cases e:i=n
 ·rw[d_ e,d_ e]; exact c
 ·rw[b_ e,b_ e]; exact h i (by omega)
theorem adw{n p:Nat}{a:Nat->Nat}{z:Nat->Value} : ∀ j,j<(n+1)*1->iB (Hl a) (n*1) (bI z (0*1) 1 (fun _=>(pt p))) j=Hl (aJ a n p) j:=by
 intro j b;unfold iB Hl aJ;by_cases h:j<n*1
 ·rw[d_ h,b_ (by omega)]
 rw[b_ h,d_ (by omega)];unfold bI;rw[d_ (by omega)]
theorem Vg{o p:Nat}{a:Nat->Nat}:dA (Hl a) o (pt p)=Hl (aJ a o p):=by
 funext j; unfold dA Hl aJ
 by_cases h:j=o
 ·rw[d_ h,d_ h]
 rw[b_ h,b_ h]
theorem adx{n:Nat}{e:Nat->EvM}{v:EvM}{z:Nat->Value} : ∀ j,j<(n+1)*14->iB (evX e) (n*14) (bI z (0*14) 14 (bS v)) j=evX (aJ e n v) j:=fun j a =>
 (Fx.xI j a).trans (bK (fun i _ q _=>by unfold Fx.qH aJ; split <;> rfl) j a)
structure WM where
 n:Nat
 la:Option Addr
 lc:Nat
 pl:Nat->Nat
 ml:Nat->kX
 an:Nat
 aa:Option Addr
 ac:Nat
 ev:Nat->EvM
end Rt
structure kJ(w:World)(B p:Nat)(M:WM)(T:Nat):Prop where
 c:aS w p 2 (OL (.slice M.la M.n M.lc) (.slice M.aa M.an M.ac)) 44
 l:Fx.Own w B 72 1 (.slice M.la M.n M.lc) M.n (Hl M.pl)
 a:Fx.Own w B 32 14 (.slice M.aa M.an M.ac) M.an (evX M.ev)
 g:Dv w B M.n M.pl M.ml
 inv : ∀ i,i<M.n->Inv (M.ml i).core T
 wf : ∀ k,k<M.an->gy (M.ev k)
 may : ∀ k,k<M.an->bO (M.ev k)=true
 sm : ∀ k,k<M.an->nY (M.ev k)
 cz:Cz M.n M.an M.ev fun o=>(M.ml o).s.known
 pB:B<=p
 n1:1<=M.n
 n6:M.n<=6
def Vh:List Nat := [44,72,32]++F4
theorem kJ.up{w w':World}{B p T:Nat}{M:WM}(h:kJ w B p M T)(b:Below w.heap.size w w'):kJ w' B p M T := { h with c:=h.c.cZ (Sb b) (t_ h.c.lt),l:=h.l.up b,a:=h.a.up b,g:=h.g.up b }
instance {w w':World} {B p T:Nat} {M:WM}:Rt.Tr w w' (kJ w B p M T) (kJ w' B p M T):=⟨fun b h=>h.up b⟩
theorem kJ.jN{w w':World}{B p T:Nat}{M:WM}{e:List TypeId}(h:kJ w B p M T)(b:iP e w w')(j:(Vh.all fun T => !e.contains T)=true):kJ w' B p M T:=by
 have i : ∀ d∈Vh,e.contains d=false:=fun d f=>by
  have:=List.all_eq_true.1 j d f
  simpa using this
 exact { h with c:=h.c.jN b (i _ (by decide)),l:=h.l.jN b (i _ (by decide)),a:=h.a.jN b (i _ (by decide)),g:=h.g.jN b (List.all_eq_true.2 fun T f=>List.all_eq_true.1 j T (List.mem_append_right _ f)) }
instance {w w':World} {B p T:Nat} {M:WM} {a:List TypeId}:Rt.Tc a w w' (kJ w B p M T) (kJ w' B p M T) (Vh.all fun T => !a.contains T):=⟨fun b h e=>h.jN b (by simpa using e)⟩
theorem Yq{w:World}{B p k a:Nat}(d:aS w p 27 (mF (jW k a)) 71)(f:aS w a 1 (fun _ => .slice none 0 0) 123)(h1:B<=p)(b:B<=a):vF w B p (jW k a) where
 c:=d
 n:=wZ _ _ _ _ _
 g:=wZ _ _ _ _ _
 tc:=f
 t:=wZ _ _ _ _ _
 r:=⟨fun _ _=>wZ _ _ _ _ _,fun _ _ _ _ _ _ e=>by cases e⟩
 pB:=h1
 tB:=b
 bn:=J_ _
 bg:=J_ _
 bt:=J_ _
 br:=fun _ _=>J_ _
theorem Rt.Ba(k a:Nat):Inv (jW k a).core 0 where
 BL:=rfl
 nn:=J_ _
 tid:=fun _ h=>L_ h (u_ _)
 rise:=fun _ _ _ h=>L_ h (u_ _)
 pos:=fun _ h=>L_ h (u_ _)
 top:=fun _ h=>L_ h (u_ _)
 up:=fun _ h=>L_ h (u_ _)
 dep:=fun _=>⟨0,J_ _,by show(-1:Int)<0; decide⟩
 gn:=z_ _
 rn:=fun _ _=>z_ _
 may:=fun _ h=>L_ h (u_ _)
 g47:=fun _ h=>L_ h (u_ _)
 kn:=fun _ _=>⟨M_ _,by show(0:Int)<_; decide⟩
 s:=⟨fun _ h=>L_ h (u_ _),fun _ h=>L_ h (u_ _)⟩
 b:=⟨fun _ _=>M_ _,fun _ h=>L_ h (u_ _),fun _ _ _ h=>L_ h (u_ _)⟩
set_option maxRecDepth 20000 in
theorem Na(n:Nat)(w:World)(V:1<=n)(W:n<=6) :
 Calls Tryz.prog 12 #[au (n:Int)] w fun e w' => ∃ p M,e = .returned (pt p)/\M.n=n/\M.an=0/\(∀ i,(M.ml i).core=(jW n 0).core)/\kJ w' w.heap.size p M 0/\Below w.heap.size w w':=by
 refine Kent Tryz.func12 30 ?_;refine ay<|av (.pointer none)<|aD<|ay<|av (.agg (aC 2 (fun _ => .slice none 0 0)))<|rU fun b P mD X s1 z1 => ?_;have b1:=bH s1.old (Below.refl w.heap.size w);have uG:=iE mD;have wO:=X.lt;refine av (pt b)<|aD<|Ws<|ay<|av (au 0)<|aD<|Wb ?_;have m2:aS P b 2 (OL (.slice none 0 0) (.slice none 0 0)) 44:=X.congr (fun j _=>by unfold OL; split <;> rfl)
 have m3:Fx.Own P w.heap.size 72 1 (.slice none 0 0) 0 (Hl (fun _=>0)):=wZ _ _ _ _ _;have m4:Dv P w.heap.size 0 (fun _=>0) (fun _=>jW n 0):=fun _ h=>L_ h (u_ _);refine Wo (fun f G => ∃ k:Nat,∃ a:Option Addr,∃ u:Nat,∃ t:Nat->Nat,∃ r:Nat->kX,k<=n/\(∀ i,∃ z,r i=jW n z)/\f 0=au (n:Int)/\f 3=(pt b)/\f 4=au (k:Int)/\aS G b 2 (OL (.slice a k u) (.slice none 0 0)) 44/\Fx.Own G w.heap.size 72 1 (.slice a (k) (u)) k (Hl t)/\Dv G w.heap.size k t r/\Below w.heap.size w G) (fun f _=>(n-(intOf (f 4)).toNat)) ⟨0,none,0,(fun _=>0),(fun _=>jW n 0),by omega,(fun _=>⟨0,rfl⟩),Fx.ic,(by rfl),Fx.ic,m2,m3,m4,b1⟩ ?_;rintro f1 w2 ⟨k,a,u,t,r,hk,F,J,E,K,m5,m6,m7,A⟩;refine Ws<|ay<|aX K<|aX J ?_;by_cases S:(k:Int)<(n:Int)
 ·refine Lv aH (gV S)<|aD<|aO<|Wk<|sN<|Ws<|Wb<|ay<|aX J<|lS (afn n _ V W) ?_;rintro e9 w3 ⟨d,O,T,hp3,_,hb3,hc3,ht3,aoG⟩;refine⟨.tuple #[(pt d),au 0],T,?_⟩;clear T;have⟨N,m9,m10,Q⟩:=oZ hb3 m5 m6 m7 A;have hL1:vF w3 w.heap.size d (jW n O):=Yq hc3 ht3 (m_ A.size hp3) (m_ A.size aoG);refine av (.tuple #[(pt d),au 0])<|av (pt d)<|av (au 0)<|av (pt d)<|av (au 0)<|aD<|Wl<|aX E<|aX E<|av (pt b)<|av (pt b)<|Lv (.slice a (k) (u)) (aN N.aI 0)<|av (pt d)<|yN (vs := [(0,(pt d))]) (s:=1) (zc:=fun _ => .pointer none) (y:=bI (fun j => .pointer none) (0*1) 1 (fun _=>(pt d))) (by rfl) rfl rfl Tryz.underlying41 (by kernel_rfl) (by rfl) (by rfl) (by kernel_rfl) (by rw[bF (off:=0*1) (s:=1) (y:=fun _=>(pt d)) rfl (cells_one (by rfl)) (by rfl)]; rfl) rfl fun g2 w4 I Y s3 z2 => ?_;have⟨m12,L,m14,m15,H⟩:=vP s3.old N m9 m10 hL1 Q;have sG:=jI I Q.size;have Fe:=cO I N.lt;have zZ:(.slice a (k) (u):Value).ownBlock≠some g2:=by rw[I]; exact m9.jT (z_ _)
  have Bg:=Y.lt;refine zh (B:=w.heap.size) (s:=1) (bytes:=8) (k:=k) (m:=1) (v := .slice a (k) (u)) (x:=Hl t) (by rfl) rfl rfl rfl Tryz.underlying41 (by kernel_rfl) (by kernel_rfl) rfl rfl L Y.aI (yD (fun _=>rfl)) (by omega) (by omega) (by omega) H.size fun D C w5 ho1 U vU hlt1 => ?_;have gK:=zi U L;have⟨Z,m18,m19⟩:=FW gK m12 m14 m15;have m16:Fx.Own w5 w.heap.size 72 1 (bL D (k+1) C) (k+1) (Hl (aJ t k d)):=(ho1.congr (fun j hj=>adw j hj));have R:Below w.heap.size w w5:=zf H U H.size (fun q hq=>(L.ge hq).1);refine av (pt b)<|av (pt b)<|jm Z 0 (bL D (k+1) C) fun w6 m20 s4 z3 => ?_;have m21:aS w6 b 2 (OL (bL D (k+1) C) (.slice none 0 0)) 44:=m20.to (agL _ _ _);have jV:=gY s4 Z.ty;have⟨m22,m23,m24⟩:=FW jV m18 m19 m16;have b6:=s4.below R R.size (by omega);refine Ln<|bQ<|sN<|Wl<|aX K<|Lv (au ((k:Int)+1)) eY<|av (au ((k:Int)+1))<|Ln ?_;have ni:Dv w6 w.heap.size (k+1) (aJ t k d) (aJ r k (jW n O)):=m22.snoc m23
  skip
  refine gT ⟨k+1,(some ⟨D,0,none⟩),C,(aJ t k d),(aJ r k (jW n O)),by omega,(fun i=>by unfold aJ; split <;> first|exact⟨_,rfl⟩|exact F i),(J.trans Fx.ic),E,Fx.ic,m21,m24,ni,b6⟩ ?_
  show(n-(intOf (au ((k:Int)+1))).toNat)<_;simp only[K,intOf]; omega
 refine Lv aG (gW S)<|aD<|aL<|Wx<|cu<|gJ<|cB<|sN<|ay<|aX E<|av (pt b)<|aD<|Wr<|aK (pt b) ?_;obtain rfl:k=n:=by omega
 exact⟨b,⟨k,a,u,t,r,0,none,0,fun _=>⟨0,0,fun _=>0,0,0,0,0,0,0⟩⟩,rfl,rfl,rfl,(fun i=>by obtain⟨z,e⟩:=F i; show(r i).core=_; rw[e]; rfl),{ c:=m5,l:=m6,a:=wZ _ _ _ _ _,g:=m7,inv:=fun i _=>by obtain⟨z,e⟩:=F i; show Inv (r i).core 0; rw[e]; exact Ba k z,wf:=fun _ h=>L_ h (u_ _),may:=fun _ h=>L_ h (u_ _),sm:=fun _ h=>L_ h (u_ _),cz:=Cz.zero k (fun o _=>by obtain⟨z,e⟩:=F o; show(r o).s.known=_; rw[e]; rfl),pB:=uG,n1:=V,n6:=W },A⟩
end Go.Proofs.YtahbiajdgealnaaGreatDoor
namespace Go.Proofs.YtahbiajdgealnaaGreatDoor
open Go.RowKit Go Rt
set_option linter.unusedVariables false
set_option maxRecDepth 20000
namespace Rt
section
variable {L:fP} {N:Nat} {v:EvM}
theorem Nb(b:Inv0 L N)(h:zY L):zY (aA L v):=by
 unfold aA;by_cases c:bP L v=0
 ·rw[d_ c];have a:=(E9 (iZ c)).1;have d:dR L v=0:=by
   unfold bP at c;rw[b_ (by rw[a]; decide)]at c;split at c; · cases c
   split at c; · cases c
   split at c; · cases c
   exact c
  have:=GQ b h a d;exact⟨this.us,this.gb⟩
 rw[b_ c]; exact h
def yg(L:fP)(x i:Int):Int:=if L.node x<0 then 0 else fE (L.R (L.node x).toNat) i
theorem Nc(i:Int):fE Fv i=0:=by
 unfold fE;by_cases c:(gH i&&may Fv)=true
 ·rw[d_ c];rw[R_]at c;obtain⟨a,d,e,b⟩:=oP c.1;have:=uP (iw c.2) a d;rw[b,this]; rfl
 rw[b_ c]
theorem fQ.local{m:dP}(h:fQ m L)(a:Inv0 L N)(x i:Int):fE (aZ m x) i=yg L x i:=by
 unfold aZ yg;by_cases c:L.node x<0
 ·rw[b_ (by rw[(h.KU a x).2 c]; decide),d_ c]; exact Nc i
 rw[d_ ((h.node a x).2 (by omega)),b_ c,h.rk a (by omega)]
structure Ho(m m':dP):Prop where
 et:m'.tp=m.tp
 em:m'.mb=m.mb
 ep:m'.pb=m.pb
 er:m'.rb=m.rb
 eg:m'.gb=m.gb
 ea:m'.ab=m.ab
theorem Ho.refl(m:dP):Ho m m:=⟨rfl,rfl,rfl,rfl,rfl,rfl⟩
theorem Ho.trans{a b c:dP}(h:Ho a b)(k:Ho b c):Ho a c:=⟨k.et.trans h.et,k.em.trans h.em,k.ep.trans h.ep,k.er.trans h.er,k.eg.trans h.eg,k.ea.trans h.ea⟩
end
end Rt
structure Ac(w:World)(B lp:Nat)(m:dP)(L:fP)(N:Nat):Prop where
 q:lD w B lp m
 s:fQ m L
 i:Inv0 L N
 u:zY L
 g:za L
section
variable {w w':World} {B lp:Nat} {m:dP} {L:fP} {N:Nat} {v:EvM}
theorem Ac.up(h:Ac w B lp m L N)(a:Below w.heap.size w w'):Ac w' B lp m L N := { h with q:=h.q.up a }
instance:Rt.Tr w w' (Ac w B lp m L N) (Ac w' B lp m L N):=⟨fun b h=>h.up b⟩
theorem Ac.jN{a:List TypeId}(h:Ac w B lp m L N)(b:Fx.iP a w w')(c:(a.contains 106 || a.contains 135)=false):Ac w' B lp m L N := { h with q:=h.q.jN b c }
instance {a:List TypeId}:Rt.Tc a w w' (Ac w B lp m L N) (Ac w' B lp m L N) (!(a.contains 106 || a.contains 135)):=⟨fun b h e=>h.jN b (by simpa using e)⟩
theorem Ac.weak{a:Nat}(h:Ac w B lp m L N)(b:a<=B):Ac w a lp m L N := { h with q:=h.q.weak b }
theorem Ac.mono{N':Nat}(h:Ac w B lp m L N)(a:N<=N'):Ac w B lp m L N' := { h with i:=h.i.mono a }
theorem Ac.wf(h:Ac w B lp m L N)(a:N<=900000):LWf L:=LWf.of h.i h.u h.g a
theorem lD.Cc(h:lD w B lp m)(a:Fx.jO (Uj m lp w.heap.size) w w')(c:B<=w.heap.size):Below B w w':=⟨a.os,a.tape,a.output,a.size,fun k d=>a.block k (by omega) fun b=>by
 rcases b with b|b
 ·have:=(h.ltS b).1; omega
 ·omega⟩
theorem lD.typed(h:lD w B lp m)(d:Fx.jO (Uj m lp w.heap.size) w w'):Fx.Dz [106] w w':=⟨d.os,d.tape,d.output,d.size,fun k T b e=>d.block k b.ltw fun f=>by
 rcases f with (rfl|rfl|rfl|rfl|rfl|rfl)|f
 ·have:=Fx.Ty.only h.c.ty b;rw[this]at e; simp at e
 ·exact h.t.map.qY b
 ·exact h.p.qY b
 ·exact h.r.qY b
 ·exact h.g.qY b
 ·exact h.a.qY b
 ·have:=b.ltw; omega⟩
theorem Yr{B:Nat}{a b c:World}(h:Below a.heap.size a b)(e:Below B b c)(d:a.heap.size<=B):Below a.heap.size a c:=h.trans (e.mono d)
theorem Ce{P:Program}{g:Nat}{a b:Array Value}{w:World}{R:Ending->World->Prop}(h:Calls P g b w R)(e:a=b):Calls P g a w R:=e ▸ h
theorem OM{x:Value}{y:Nat->Value}(hy : ∀ j,j<14->y j=bS v j):(#[x,.agg (Fx.aC 14 y)]:Array Value) = #[x,.agg (Fx.aC 14 (bS v))]:=K_ (fun z=>(#[x,.agg z]:Array Value)) (Fx.eU hy)
theorem ZK(k:Nat)(d:1<=k/\k<=6)(w:World):Calls Tryz.prog 14 #[au (k:Int)] w fun e w' => ∃ lp m,e = .returned (.tuple #[(pt lp),au 0])/\Ac w' w.heap.size lp m (jW k 0).core 0/\Below w.heap.size w w' :=
 (agF k d w).mono fun e w' ⟨lp,m,c,⟨n,i,j,l,h,g,a⟩,f,b⟩=>⟨lp,m,c,⟨f,by rw[a]; exact fQ.new ..,(Ba k 0).toInv0,(Ba k 0).s,Vf k 0⟩,b⟩
theorem D9(h:Ac w B lp m L N)(b:gy v)(c:1<=B)(d:Fx.iU w 0 0 8 I6){y:Nat->Value}(hy : ∀ j,j<14->y j=bS v j) :
 Calls Tryz.prog 15 #[(pt lp),.agg (Fx.aC 14 y)] w fun e w'=>e = .returned (au (bP L v))/\Ac w' B lp (iA m v) (aA L v) (N+1)/\Fx.jO (Uj m lp w.heap.size) w w':=by
 have a:=h.s.apply h.q.t.inv h.i v;refine Ce ((Ya m lp B w h.q v b (h.s.sound h.q.t.inv h.i) c d).mono fun e w' ⟨k,l,f⟩=>⟨by rw[k,a.1],⟨l,a.2,zW h.i,Nb h.i h.u,M8 h.g b⟩,f⟩) (OM hy)
theorem Yt(h:Ac w B lp m L N)(g:gy v)(a:1<=B)(b:Fx.iU w 0 0 8 I6){y:Nat->Value}(hy : ∀ j,j<14->y j=bS v j) :
 Calls Tryz.prog 22 #[(pt lp),.agg (Fx.aC 14 y)] w fun e w'=>e = .returned (au (bP L v))/\Below w.heap.size w w':=by
 have f:=h.s.apply h.q.t.inv h.i v;refine Ce ((aon m lp B w h.q v g (h.s.sound h.q.t.inv h.i) a b).mono fun e w' ⟨d,c⟩=>⟨by rw[d,f.1],c⟩) (OM hy)
theorem I8(h:Ac w B lp m L N)(i x:Int)(hi : -9223372036854775808<=i/\i<=9223372036854775807):Calls Tryz.prog 19 #[(pt lp),au i,aF x] w fun e w'=>e = .returned (au (yg L x i))/\Below w.heap.size w w':=by
 rw[<- h.s.local h.i]; exact Yb m lp B w h.q i x hi
def lsP(L:fP)(x:Int):Nat->Value:=Fx.rv .u64 fun q=>bA L.t L.tn q x
theorem ady(h:Ac w B lp m L N)(x:Int):Calls Tryz.prog 20 #[(pt lp),aF x] w fun e w' => ∃ a c,e = .returned (.slice a (bT L.t L.tn x) c)/\Fx.Own w' w.heap.size 28 1 (.slice a (bT L.t L.tn x) c) (bT L.t L.tn x) (lsP L x)/\Below w.heap.size w w':=by
 obtain⟨d,l⟩:=h.s.T.path h.q.t.inv h.i x;refine(adk m lp B w h.q x).mono fun e w' ⟨a,c,g,b,f⟩=>⟨a,c,by rw[g,d],?_,f⟩;unfold VW at b;rw[d]at b;exact b.congr fun j k=>by
  rw[Nat.mul_one]at k;show Value.int .u64 ((m.T.path x).getD j 0)=aF (bA L.t L.tn j x);rw[l j (by omega)]
structure Ls(w:World)(B:Nat)(s:DL)(L:fP):Prop where
 e:s=Qm L s.na s.nc s.ga s.gc
 n:Fx.Own w B 61 56 (.slice s.na L.nn s.nc) L.nn (Fx.flat 56 (M9 L))
 g:Fx.Own w B 66 5 (.slice s.ga L.gn s.gc) L.gn (Fx.flat 5 (OI L))
theorem Ls.r{s:DL}(h:Ls w B s L):OJ w s L:=⟨h.e,h.n.arr,h.g.arr⟩
theorem Ls.up{s:DL}(h:Ls w B s L)(a:Below w.heap.size w w'):Ls w' B s L:=⟨h.e,h.n.up a,h.g.up a⟩
instance {s:DL}:Rt.Tr w w' (Ls w B s L) (Ls w' B s L):=⟨fun b h=>h.up b⟩
theorem Ls.jN{s:DL}{a:List TypeId}(h:Ls w B s L)(c:Fx.iP a w w')(b:(a.contains 61 || a.contains 66)=false):Ls w' B s L:=by
 rw[Bool.or_eq_false_iff]at b;exact⟨h.e,h.n.jN c b.1,h.g.jN c b.2⟩
instance {s:DL} {a:List TypeId}:Rt.Tc a w w' (Ls w B s L) (Ls w' B s L) (!(a.contains 61 || a.contains 66)):=⟨fun b h e=>h.jN b (by simpa using e)⟩
theorem Ls.FN{s:DL}{a:List TypeId}(h:Ls w B s L)(c:Fx.Dz a w w')(b:(a.contains 61 || a.contains 66)=false):Ls w' B s L:=by
 rw[Bool.or_eq_false_iff]at b;exact⟨h.e,h.n.FN c b.1,h.g.FN c b.2⟩
theorem OO(h:Ac w B lp m L N)(z:N<=900000):Calls Tryz.prog 18 #[(pt lp)] w fun e w' => ∃ s,e = .returned (.agg (Fx.aC 20 (pX s)))/\Ls w' w.heap.size s L/\Below w.heap.size w w':=by
 refine(Yn m lp B w h.q (by rw[h.s.gn]; have:=h.i.gn; omega)).mono fun e w' ⟨s,l,y,x,a,v⟩=>⟨s,x,?_,v⟩;have b:=StC.of h.s h.i h.g a.ls a.gs;have o:s.nn=L.nn:=by rw[a.nn,b.nn]
 have p:s.gn=L.gn:=by rw[a.gn,b.gn]
 have f:=a.n;have d:=a.g;rw[o]at f;rw[p]at d;refine⟨(OJ.of a h.s h.i h.g).e,f.congr (Fx.bK fun k c j _ => ?_),d.congr (Fx.bK fun k c j _ => ?_)⟩
 ·obtain⟨r,t,u⟩:=b.n k c;unfold Va M9;rw[t,u,r]
 unfold V6 OI;rw[b.g k c]
end
end Go.Proofs.YtahbiajdgealnaaGreatDoor
namespace Go.Proofs.YtahbiajdgealnaaGreatDoor
open Go.RowKit Rt
open Fx (fD eP fJ bD gP gM dD dS gD jB eX jC fU jD je Lv sN Ln Ws Qv Wl Rp Wc Qs Wr Sb Lk Wk rC rV sR Rs Rn Rd Rk Wb Wx Wo Dy Wt qW I4 Qn FM Bc yN zh C9 Dw qo gY zi ng uq uo vO wZ zf Dk Ap rv aC aS bI aM ev cK Stp dH aW flat dA Mp fq aY gX iU bF down iN jO kI iW ou bK bJ cells_one iP bV xk unseen jK iB bY dM bM bQ cu cB gJ gT qb gQ)
set_option maxRecDepth 20000
set_option linter.unusedVariables false
namespace Rt
def OP:Int:=1099511627777
def Vi(n:Int)(i:Nat):Int:=if i=0 then n else 0
def vA:EvM:=⟨1,1,fun _=>0,1,0,0,10,0,0⟩
def vB:EvM:=⟨2,1,Vi 1,3,OP,0,4,1,0⟩
def vC:EvM:=⟨1,2,Vi 1,5,OP,2,4,0,0⟩
def vD:EvM:=⟨2,1,Vi 2,3,OP,0,4,1,0⟩
theorem Nf{n:Int}(h:kF n)(i:Nat):kF (Vi n i):=by
 unfold Vi;split
 ·exact h
 exact⟨by decide,by decide⟩
theorem agN:gy vA:=⟨⟨by decide,by decide⟩,⟨by decide,by decide⟩,fun _ _=>⟨M_ 0,(by decide:(0:Int)<=18446744073709551615)⟩,⟨by decide,by decide⟩,⟨by decide,by decide⟩,⟨by decide,by decide⟩,⟨by decide,by decide⟩,⟨by decide,by decide⟩,⟨by decide,by decide⟩⟩
theorem agO:gy vB:=⟨⟨by decide,by decide⟩,⟨by decide,by decide⟩,fun i _=>Nf ⟨by decide,by decide⟩ i,⟨by decide,by decide⟩,⟨by decide,by decide⟩,⟨by decide,by decide⟩,⟨by decide,by decide⟩,⟨by decide,by decide⟩,⟨by decide,by decide⟩⟩
theorem agP:gy vC:=⟨⟨by decide,by decide⟩,⟨by decide,by decide⟩,fun i _=>Nf ⟨by decide,by decide⟩ i,⟨by decide,by decide⟩,⟨by decide,by decide⟩,⟨by decide,by decide⟩,⟨by decide,by decide⟩,⟨by decide,by decide⟩,⟨by decide,by decide⟩⟩
theorem agQ:gy vD:=⟨⟨by decide,by decide⟩,⟨by decide,by decide⟩,fun i _=>Nf ⟨by decide,by decide⟩ i,⟨by decide,by decide⟩,⟨by decide,by decide⟩,⟨by decide,by decide⟩,⟨by decide,by decide⟩,⟨by decide,by decide⟩,⟨by decide,by decide⟩⟩
theorem Vj{m:dP}(b:m.T.ok)(v:EvM):(iA m v).T.ok:=by
 unfold iA;by_cases c:bZ m v=0
 ·rw[d_ c];have f:=pO c;have a:=(pQ c).2.1;have g:=nP f;show(iJ m v).T.ok;unfold fB at a;unfold iJ;by_cases d:v.kind=1
  ·rw[d_ d]at a ⊢;have e:m.T.err (mZ v) v.node=0:=by
    unfold iT at a;split at a
    ·cases a
    ·exact a
   exact Bf.put b e (by unfold mZ; omega)
  rw[b_ d]
  repeat' split
  all_goals exact b
 rw[b_ c]; exact b
structure Ah(m:dP)(L:fP)(N:Nat):Prop where
 s:fQ m L
 t:m.T.ok
 i:Inv0 L N
theorem Ah.new(k:Nat):Ah (xZ k 0 0 0 0 0 0) (jW k 0).core 0:=⟨fQ.new ..,Bf.zero _ _,(Ba k 0).toInv0⟩
theorem Ah.apply{m:dP}{L:fP}{N:Nat}(h:Ah m L N)(v:EvM):Ah (iA m v) (aA L v) (N+1):=⟨(h.s.apply h.t h.i v).2,Vj h.t v,zW h.i⟩
theorem Ah.err{m:dP}{L:fP}{N:Nat}(h:Ah m L N)(v:EvM){c:Int}(e:bZ m v=c):bP L v=c:=(h.s.apply h.t h.i v).1.symm.trans e
theorem Ah.loc{m:dP}{L:fP}{N:Nat}(h:Ah m L N)(x i:Int){c:Int}(e:fE (aZ m x) i=c):yg L x i=c:=(h.s.local h.i x i).symm.trans e
noncomputable def wq0:dP:=xZ 2 0 0 0 0 0 0
noncomputable def Cw:dP:=iA wq0 vA
noncomputable def wq2:dP:=iA Cw vC
noncomputable def Jm:dP:=iA wq2 vD
theorem tw0:Ah wq0 (jW 2 0).core 0 := .new 2
theorem tw1:Ah Cw (aA (jW 2 0).core vA) 1:=tw0.apply vA
theorem tw2:Ah wq2 (aA (aA (jW 2 0).core vA) vC) 2:=tw1.apply vC
theorem tw3:Ah Jm (aA (aA (aA (jW 2 0).core vA) vC) vD) 3:=tw2.apply vD
theorem Yu:bP (jW 2 0).core vA=0:=tw0.err vA (by kernel_rfl)
theorem Yv:bP (aA (jW 2 0).core vA) vB=11:=tw1.err vB (by kernel_rfl)
theorem Yw:bP (aA (jW 2 0).core vA) vC=0:=tw1.err vC (by kernel_rfl)
theorem Yx:bP (aA (aA (jW 2 0).core vA) vC) vD=0:=tw2.err vD (by kernel_rfl)
theorem OQ:aZ Jm OP=(bC (wq2.R 0) 2 4).1:=by
 unfold aZ;rw[d_ (show Jm.T.has OP=true by kernel_rfl)];unfold CS;rw[show Jm.idx OP=0 by kernel_rfl,show Jm.R 0=(oK wq2 (fun x=>bC x 2 4) (wq2.T.path OP)).R 0 by kernel_rfl];show(if wq2.T.x 0∈wq2.T.path OP then(bC (wq2.R 0) 2 4).1 else wq2.R 0)=_;rw[d_];rw[show wq2.T.path OP = [OP] by kernel_rfl];exact List.mem_singleton.2 (by kernel_rfl)
theorem Yy:yg (aA (aA (aA (jW 2 0).core vA) vC) vD) OP 1=6:=tw3.loc _ _ (by rw[OQ]; kernel_rfl)
theorem Yz:yg (aA (aA (aA (jW 2 0).core vA) vC) vD) OP 2=0:=tw3.loc _ _ (by rw[OQ]; kernel_rfl)
theorem YA:(aA (aA (aA (jW 2 0).core vA) vC) vD).gn=1:=tw3.s.gn.symm.trans (by kernel_rfl)
end Rt
theorem CX(w:World)(c:iU w 0 0 8 I6) :
 Calls Tryz.prog 11 #[] w fun e w'=>e = .returned (.bool true)/\Below w.heap.size w w':=by
 have g:=c.lt (by omega);have f:1<=w.heap.size:=by omega
 refine Kent Tryz.func11 69 ?_;refine ay<|av aG<|aD<|ay<|lS (ZK 2 (by omega) _) ?_;rintro H Y ⟨lp,X,d,R,I⟩;refine⟨_,d,?_⟩;clear d;have n:=R.weak (Below.refl w.heap.size w).size;have h:=bH I (Below.refl w.heap.size w);refine av (.tuple #[(pt lp),au 0])<|av (pt lp)<|av (au 0)<|av (pt lp)<|av (au 0)<|aD<|Ws<|ay<|av (au 0)<|Lv aG (kr rfl)<|av aG<|av (pt lp)<|Lv aG (Fx.qG rfl rfl rfl (by kernel_rfl))<|av aG<|aD<|aL<|Wk<|sN<|ay<|av (aF 1099511627777)<|aD<|ay<|av (pt lp)<|av (.agg (aC 14 (bI (bI (bI (bI (fun a=>if a<1 then au 0 else if a<8 then aF 0 else if a<9 then .int .u8 (0)else if a<10 then aF 0 else if a<12 then au 0 else aF 0) 0 1 (fun _=>au 1)) 1 1 (fun _=>aF 1)) 8 1 (fun _ => .int .u8 (1))) 11 1 (fun _=>au 10))))<|eB (D9 (v:=vA) n agN f (c.below h g) (fun j l=>by rcases j with _|_|_|_|_|_|_|_|_|_|_|_|_|_|j <;> first|rfl|omega)) (au 0) (by rw[Yu]) ?_
 rintro Z ⟨A,t⟩;have U:=n.q.typed t;have N:=n.q.Cc t h.size;have r:=Yr h N (z_ _);refine av (au 0)<|aD<|ay<|av (pt lp)<|Lv (.agg (aC 6 (bI (rv .u64 (fun _=>0)) 0 1 (fun _=>aF 1)))) (Fx.vL (vs := [(0,aF 1)]) (s:=1) (m:=6) (x:=rv .u64 (fun _=>0)) rfl rfl Tryz.underlying30 (by kernel_rfl) (by kernel_rfl) (by rw[bF (off:=0) (s:=1) (y:=fun _=>aF 1) (by kernel_rfl) (cells_one (by rfl)) (by rfl)]; rfl))<|av (aF 1099511627777)<|av (.agg (aC 14 (bI (bI (bI (bI (bI (bI (bI (fun a=>if a<1 then au 0 else if a<8 then aF 0 else if a<9 then .int .u8 (0)else if a<10 then aF 0 else if a<12 then au 0 else aF 0) 0 1 (fun _=>au 2)) 1 1 (fun _=>aF 1)) 2 6 (bI (rv .u64 (fun _=>0)) 0 1 (fun _=>aF 1))) 8 1 (fun _ => .int .u8 (3))) 9 1 (fun _=>aF 1099511627777)) 11 1 (fun _=>au 4)) 12 1 (fun _=>aF 1))))<|eB (Yt (v:=vB) A agO f (c.below r g) (fun j l=>by rcases j with _|_|_|_|_|_|_|_|_|_|_|_|_|_|j <;> first|rfl|omega)) (au 11) (by rw[Yv]) ?_
 intro w3 J;have⟨p,i⟩:=fC J A r;refine av (au 11)<|aD<|ay<|av (pt lp)<|Lv (.agg (aC 6 (bI (rv .u64 (fun _=>0)) 0 1 (fun _=>aF 1)))) (Fx.vL (vs := [(0,aF 1)]) (s:=1) (m:=6) (x:=rv .u64 (fun _=>0)) rfl rfl Tryz.underlying30 (by kernel_rfl) (by kernel_rfl) (by rw[bF (off:=0) (s:=1) (y:=fun _=>aF 1) (by kernel_rfl) (cells_one (by rfl)) (by rfl)]; rfl))<|av (aF 1099511627777)<|av (.agg (aC 14 (bI (bI (bI (bI (bI (bI (bI (fun a=>if a<1 then au 0 else if a<8 then aF 0 else if a<9 then .int .u8 (0)else if a<10 then aF 0 else if a<12 then au 0 else aF 0) 0 1 (fun _=>au 1)) 1 1 (fun _=>aF 2)) 2 6 (bI (rv .u64 (fun _=>0)) 0 1 (fun _=>aF 1))) 8 1 (fun _ => .int .u8 (5))) 9 1 (fun _=>aF 1099511627777)) 10 1 (fun _=>au 2)) 11 1 (fun _=>au 4))))<|eB (D9 (v:=vC) p agP f (c.below i g) (fun j l=>by rcases j with _|_|_|_|_|_|_|_|_|_|_|_|_|_|j <;> first|rfl|omega)) (au 0) (by rw[Yw]) ?_
 rintro w4 ⟨o,u⟩;have V:=p.q.typed u;have O:=p.q.Cc u i.size;have k:=Yr i O (z_ _);refine av (au 0)<|aD<|ay<|av (pt lp)<|Lv (.agg (aC 6 (bI (rv .u64 (fun _=>0)) 0 1 (fun _=>aF 2)))) (Fx.vL (vs := [(0,aF 2)]) (s:=1) (m:=6) (x:=rv .u64 (fun _=>0)) rfl rfl Tryz.underlying30 (by kernel_rfl) (by kernel_rfl) (by rw[bF (off:=0) (s:=1) (y:=fun _=>aF 2) (by kernel_rfl) (cells_one (by rfl)) (by rfl)]; rfl))<|av (aF 1099511627777)<|av (.agg (aC 14 (bI (bI (bI (bI (bI (bI (bI (fun a=>if a<1 then au 0 else if a<8 then aF 0 else if a<9 then .int .u8 (0)else if a<10 then aF 0 else if a<12 then au 0 else aF 0) 0 1 (fun _=>au 2)) 1 1 (fun _=>aF 1)) 2 6 (bI (rv .u64 (fun _=>0)) 0 1 (fun _=>aF 2))) 8 1 (fun _ => .int .u8 (3))) 9 1 (fun _=>aF 1099511627777)) 11 1 (fun _=>au 4)) 12 1 (fun _=>aF 1))))<|eB (D9 (v:=vD) o agQ f (c.below k g) (fun j l=>by rcases j with _|_|_|_|_|_|_|_|_|_|_|_|_|_|j <;> first|rfl|omega)) (au 0) (by rw[Yx]) ?_
 rintro w5 ⟨B,z⟩;have W:=o.q.typed z;have P:=o.q.Cc z k.size;have D:=Yr k P (z_ _);refine av (au 0)<|aD<|ay<|av (au 0)<|Lv aH (eZ rfl)<|av aH<|av (au 11)<|Lv aH (eZ rfl)<|av aH<|av aH<|av (au 0)<|Lv aH (eZ rfl)<|av aH<|av aH<|av (au 0)<|Lv aH (eZ rfl)<|av aH<|av aH<|av (pt lp)<|av (aF 1099511627777)<|eB (I8 B 1 OP (by omega)) (au 6) (by rw[Yy]) ?_;intro w6 K;have⟨C,E⟩:=fC K B D;refine Lv aH (eZ rfl)<|av aH<|av aH<|av (pt lp)<|av (aF 1099511627777)<|eB (I8 C 2 OP (by omega)) (au 0) (by rw[Yz]) ?_;intro w7 L;have⟨T,F⟩:=fC L C E;refine Lv aH (eZ rfl)<|av aH<|av aH<|av (pt lp)<|lS (OO T (by omega)) ?_;rintro H w8 ⟨b,d,S,M⟩;refine⟨_,d,?_⟩;clear d;have G:=bH M F;have Q:b.gn=1:=(K_ DL.gn S.e).trans YA;refine Lv (.slice b.ga (b.gn) (b.gc)) (Fx.OW (y:=pX b) rfl rfl Tryz.underlying53 rfl (by kernel_rfl) (by kernel_rfl) rfl)<|av (au b.gn)<|Lv aH (je rfl rfl rfl (by rw[Q]; rfl))<|av aH<|av aH<|aD<|Wr<|aK aH ?_;exact⟨rfl,G⟩
namespace Rt
structure F9 where
 who:Nat
 meet:Bool
 other:Nat
 kind:Nat
 node:Nat
 dst:Nat
 aU:Nat
 req:Nat
 of:Nat
structure KW(x:F9):Prop where
 who:x.who<=255
 other:x.other<=255
 kind:x.kind<=255
 node:x.node<=255
 dst:x.dst<=255
 aU:x.aU<=65535
 req:x.req<=255
 of:x.of<=255
def I9(x:F9):Nat->Value:=fun p=>if p=0 then .int .u8 (x.who:Int)else if p=1 then .bool x.meet else if p=2 then .int .u8 (x.other:Int)else if p=3 then .int .u8 (x.kind:Int)else if p=4 then .int .u8 (x.node:Int)else if p=5 then .int .u8 (x.dst:Int)else if p=6 then .int .u16 (x.aU:Int)else if p=7 then .int .u8 (x.req:Int)else .int .u8 (x.of:Int)
theorem Ja{k n r:Nat}(e:r=k % n):Int.tmod (k:Int) (n:Int)=(r:Int):=by
 rw[Int.tmod_eq_emod_of_nonneg (by omega),e];exact(Int.natCast_emod k n).symm
theorem Ea(V:EvM)(x:Int) : ∀ j,j<14->dA (bS V) 9 (aF x) j=bS { V with node:=x } j:=fun j a=>by
 rcases j with _|_|_|_|_|_|_|_|_|_|_|_|_|_|j <;> first|rfl|omega
theorem Vk(V:EvM)(x:Int) : ∀ j,j<14->dA (bS V) 10 (au x) j=bS ⟨V.o,V.seq,V.deps,V.kind,V.node,x,V.aU,V.req,V.of⟩ j:=fun j a=>by
 rcases j with _|_|_|_|_|_|_|_|_|_|_|_|_|_|j <;> first|rfl|omega
theorem FB(V:EvM)(x:Int) : ∀ j,j<14->dA (bS V) 11 (au x) j=bS { V with aU:=x } j:=fun j a=>by
 rcases j with _|_|_|_|_|_|_|_|_|_|_|_|_|_|j <;> first|rfl|omega
theorem Vl(V:EvM)(x:Int) : ∀ j,j<14->dA (bS V) 12 (aF x) j=bS { V with req:=x } j:=fun j a=>by
 rcases j with _|_|_|_|_|_|_|_|_|_|_|_|_|_|j <;> first|rfl|omega
theorem agR(V:EvM)(x:Int) : ∀ j,j<14->dA (bS V) 13 (aF x) j=bS { V with of:=x } j:=fun j a=>by
 rcases j with _|_|_|_|_|_|_|_|_|_|_|_|_|_|j <;> first|rfl|omega
end Rt
set_option maxRecDepth 20000 in
set_option maxHeartbeats 2000000 in
theorem YB(M:WM)(B p T:Nat)(x:F9)(w:World)(Z:kJ w B p M T)(hx:KW x) :
 Calls Tryz.prog 38 #[(pt p),.agg (aC 9 (I9 x))] w fun e w' => ∃ V,gy V/\nY V/\(V.o=((x.who % M.n:Nat):Int)+1/\V.seq=(M.ml (x.who % M.n)).s.known (x.who % M.n)+1/\V.deps=(M.ml (x.who % M.n)).s.known)/\e = .returned (.agg (aC 14 (bS V)))/\Below w.heap.size w w':=by
 have hWc:=Z.c;have hWl:=Z.l;have hWa:=Z.a;have hWg:=Z.g;have hn1:=Z.n1;have hn6:=Z.n6;have hpB:=Z.pB;have lpp:p<w.heap.size:=hWc.lt;have hxw:=hx.who;have hxo:=hx.other;have hxk:=hx.kind;have hxn:=hx.node;have hxt:=hx.dst;have hxa:=hx.aU;have hxr:=hx.req;have hxf:=hx.of;refine Kent Tryz.func38 143 ?_;refine ay<|rU fun G w1 mD m1 s1 z1 => ?_;have⟨m2,m3,m4,m5,b1⟩:=vP s1.old hWc hWl hWa hWg (Below.refl w.heap.size w);have uG:=iE mD;have nI:=cO mD hWc.lt;have wO:=m1.lt;refine xg 14 (fun h=>if h<1 then au 0 else if h<8 then aF 0 else if h<9 then .int .u8 (0)else if h<10 then aF 0 else if h<12 then au 0 else aF 0) fun U w2 yA m6 s2 z2 => ?_;have⟨m7,m8,m9,m10,m11,b2⟩:=uy s2.old m2 m3 m4 m5 m1 b1;have sG:=jI yA b1.size;have Tg:=cO yA m2.lt;have Oq:(.slice M.aa (M.an) (M.ac):Value).ownBlock≠some U:=by rw[yA]; exact m4.jT (z_ _)
 have Fb:=cO yA m1.lt;have Bg:=m6.lt;refine aD<|Ws ?_;obtain⟨o,eo⟩ : ∃ r,r=x.who % M.n:=⟨_,rfl⟩;have ho:o<M.n:=by rw[eo]; exact I_ _ (by omega)
 refine xL<|aT (pt G)<|Qv (.int .u8 (x.who:Int)) (fun E D=>aN (m11.aI.dr D) 0)<|Qv (au x.who) (fun E D=>dD rfl rfl (by kernel_rfl) Tryz.underlying3 (iW (by omega) rfl))<|aT (pt p)<|aT (pt p)<|aT (pt p)<|Qv (.slice M.la (M.n) (M.lc)) (fun E D=>aN (m7.aI.dr D) 0)<|aT (au M.n)<|Qv (au o) (fun E D=>Fx.Ak rfl rfl rfl (by omega) (Ja eo))<|aT (au o)<|Qn ?_;rintro _ ⟨qd,rfl⟩;obtain⟨Cw,oG⟩ : ∃ E,E=World.drewN w2 qd:=⟨_,rfl⟩;rw[<- oG];have s3:Stp w2.heap.size w2 Cw:=by rw[oG]; exact Sb (jl w2 qd)
 have⟨m12,m13,m14,m15,m16,m17,b3⟩:=jo s3.old m7 m8 m9 m10 m11 m6 b2;clear oG;refine sN<|ay<|av (pt p)<|av (pt p)<|av (pt p)<|Lv (.slice M.la (M.n) (M.lc)) (aN m12.aI 0)<|av (au o) ?_;obtain⟨EC,eq1⟩:=m13.addr (by omega);have m18:Fx.Own Cw B 72 1 (bL EC M.n M.lc) M.n (Hl M.pl):=m13.dL (K_ (fun q=>Value.slice q M.n M.lc) eq1);refine Lv (pf EC o) (dh 1 (hx:=(rfl.trans (K_ (fun q=>Value.slice q (M.n) (M.lc)) eq1))))<|Lv (pt (M.pl o)) (aN m18.aI o)<|av (pt (M.pl o))<|aD<|Ws ?_;obtain⟨H,agS⟩ : ∃ r,r=x.kind % 7:=⟨_,rfl⟩;have avj:H<7:=by rw[agS]; exact I_ _ (by omega)
 have YC:=m15 o (by omega);have FC:=YC.c;have agT:=YC.n;have hkn:=(Z.inv o (by omega)).kn;have hko:=hkn o (by omega);have hko:0<=(M.ml o).s.known o/\(M.ml o).s.known o<1099511627776:=hko;have hU : ∀ k,k<(M.ml o).s.nn->kF ((M.ml o).id k):=fun k hk=>by have Y:=(Z.inv o (by omega)).pos k hk; have I:=(Z.inv o (by omega)).top k hk; exact⟨by show(0:Int)<=(M.ml o).core.id k; omega,by show(M.ml o).core.id k<=_; omega⟩
 have hbn:=(Z.g o (by omega)).bn;refine qW (T:=32) (T':=32) (a := .tmp 7) (v := .tmp 44) (m:=14) (z:=fun h=>if h<1 then au 0 else if h<8 then aF 0 else if h<9 then .int .u8 (0)else if h<10 then aF 0 else if h<12 then au 0 else aF 0) (y:=bI (bI (bI (bI (fun h=>if h<1 then au 0 else if h<8 then aF 0 else if h<9 then .int .u8 (0)else if h<10 then aF 0 else if h<12 then au 0 else aF 0) 0 1 (fun _=>au ((o:Int)+1))) 1 1 (fun _=>aF ((M.ml o).s.known o+1))) 2 6 (rv .u64 ((M.ml o).s.known))) 8 1 (fun _ => .int .u8 ((H:Int)+1))) (u := .agg (aC 14 (bI (bI (bI (bI (fun h=>if h<1 then au 0 else if h<8 then aF 0 else if h<9 then .int .u8 (0)else if h<10 then aF 0 else if h<12 then au 0 else aF 0) 0 1 (fun _=>au ((o:Int)+1))) 1 1 (fun _=>aF ((M.ml o).s.known o+1))) 2 6 (rv .u64 ((M.ml o).s.known))) 8 1 (fun _ => .int .u8 ((H:Int)+1))))) 20 21 (List.replicate 22 (0,2,[],[])) #[au (o:Int),au ((o:Int)+1),(pt (M.pl o)),au (o:Int),(pt (M.pl o)),(pt (M.pl o)),(pf (M.pl o) 12),(pf (M.pl o) (o+12)),aF ((M.ml o).s.known o),aF ((M.ml o).s.known o+1),(pt (M.pl o)),(pt (M.pl o)),(pt (M.pl o)),(pf (M.pl o) 12),.agg (aC 6 (rv .u64 ((M.ml o).s.known))),(pf G 3),.int .u8 (x.kind:Int),.int .u8 (H:Int),.int .u8 ((H:Int)+1),.agg (aC 14 (bI (bI (bI (bI (fun h=>if h<1 then au 0 else if h<8 then aF 0 else if h<9 then .int .u8 (0)else if h<10 then aF 0 else if h<12 then au 0 else aF 0) 0 1 (fun _=>au ((o:Int)+1))) 1 1 (fun _=>aF ((M.ml o).s.known o+1))) 2 6 (rv .u64 ((M.ml o).s.known))) 8 1 (fun _ => .int .u8 ((H:Int)+1)))),undef,undef] (by kernel_rfl) (by kernel_rfl) (by kernel_rfl) (by kernel_rfl) (by kernel_rfl) (by kernel_rfl) rfl (by kernel_rfl) rfl rfl (by kernel_rfl) (fun A=>(show ev _ (.tmp 7)=(pt A)from by kernel_rfl)) (fun A=>(show ev _ (.tmp 44) = .agg (aC 14 (bI (bI (bI (bI (fun h=>if h<1 then au 0 else if h<8 then aF 0 else if h<9 then .int .u8 (0)else if h<10 then aF 0 else if h<12 then au 0 else aF 0) 0 1 (fun _=>au ((o:Int)+1))) 1 1 (fun _=>aF ((M.ml o).s.known o+1))) 2 6 (rv .u64 ((M.ml o).s.known))) 8 1 (fun _ => .int .u8 ((H:Int)+1))))from by kernel_rfl)) (bJ _ _) (bV (bV (bV (bV (fun jq _=>by show((fun h=>if h<1 then au 0 else if h<8 then aF 0 else if h<9 then .int .u8 (0)else if h<10 then aF 0 else if h<12 then au 0 else aF 0:Nat->Value) jq).oneCell'=true; simp only[]; repeat (first|rfl|split)) (fun _ _=>rfl)) (fun _ _=>rfl)) (fun _ _=>rfl)) (fun _ _=>rfl)) (by kernel_rfl) (fun A => ?_) ?_
 ·refine⟨?_,?_,?_,?_,?_,?_,?_,?_,?_,?_,?_,?_,?_,?_,?_,?_,?_,?_,?_,?_,?_,?_,trivial⟩
  ·exact .inr (.inr pV)
  ·exact .inr (.inr (rZ (au ((o:Int)+1)) fun E D=>Fx.Jr rfl (show ev _ (.tmp 25)=au (o:Int)from by kernel_rfl) (show ev _ (.const (au 1))=au 1 from by kernel_rfl) Fx.io))
  ·exact .inr (.inr pV)
  ·exact .inr (.inr pV)
  ·exact .inr (.inr pV)
  ·exact .inr (.inr pV)
  ·exact .inr (.inr pV)
  ·exact .inr (.inr (rZ (pf (M.pl o) (o+12)) fun E D=>gD rfl (show ev _ (.tmp 31)=(pf (M.pl o) 12)from by kernel_rfl) (show ev _ (.tmp 28)=au (o:Int)from by kernel_rfl) Tryz.underlying30 (s:=1) (by kernel_rfl) (by omega) (by omega) (by omega)))
  ·exact .inr (.inr (rZ (aF ((M.ml o).s.known o)) fun E D=>bD (x:=mF (M.ml o)) rfl (show ev _ (.tmp 32)=(pf (M.pl o) (o+12))from by kernel_rfl) (by kernel_rfl) (FC.aI.below D (by have:=FC.lt; omega)) (i:=o+12) (by omega) (by omega) (lM _ (by omega) (mW _ (by omega) (by omega)))))
  ·exact .inr (.inr (rZ (aF ((M.ml o).s.known o+1)) fun E D=>Fx.Jr rfl (show ev _ (.tmp 33)=aF ((M.ml o).s.known o)from by kernel_rfl) (show ev _ (.const (aF 1))=aF 1 from by kernel_rfl) (jK (by omega) (by omega))))
  ·exact .inr (.inr pV)
  ·exact .inr (.inr pV)
  ·exact .inr (.inr pV)
  ·exact .inr (.inr pV)
  ·exact .inr (.inr (rZ (.agg (aC 6 (rv .u64 ((M.ml o).s.known)))) fun E D=>eX (x:=mF (M.ml o)) (y:=rv .u64 ((M.ml o).s.known)) rfl (show ev _ (.tmp 38)=(pf (M.pl o) 12)from by kernel_rfl) (by kernel_rfl) (by kernel_rfl) (FC.aI.below D (by have:=FC.lt; omega)) (i:=12) (by omega) (by omega) (fun j C=>lM _ (by omega) (mW _ C (by omega)))))
  ·exact .inr (.inr pV)
  ·exact .inr (.inr (rZ (.int .u8 (x.kind:Int)) fun E D=>bD (x:=I9 x) rfl (show ev _ (.tmp 40)=(pf G 3)from by kernel_rfl) (by kernel_rfl) (m16.aI.below D (by have:=m16.lt; omega)) (i:=3) (by omega) (by omega) rfl))
  ·exact .inr (.inr (rZ (.int .u8 (H:Int)) fun E D=>Fx.Ak rfl (show ev _ (.tmp 41) = .int .u8 (x.kind:Int)from by kernel_rfl) (show ev _ (.const (.int .u8 (7))) = .int .u8 (7)from by kernel_rfl) (by omega) (Ja agS)))
  ·exact .inr (.inr (rZ (.int .u8 ((H:Int)+1)) fun E D=>Fx.Jr rfl (show ev _ (.const (.int .u8 (1))) = .int .u8 (1)from by kernel_rfl) (show ev _ (.tmp 42) = .int .u8 (H:Int)from by kernel_rfl) (Fx.u8e (by omega) (by omega))))
  ·exact .inr (.inr (rZ (.agg (aC 14 (bI (bI (bI (bI (fun h=>if h<1 then au 0 else if h<8 then aF 0 else if h<9 then .int .u8 (0)else if h<10 then aF 0 else if h<12 then au 0 else aF 0) 0 1 (fun _=>au ((o:Int)+1))) 1 1 (fun _=>aF ((M.ml o).s.known o+1))) 2 6 (rv .u64 ((M.ml o).s.known))) 8 1 (fun _ => .int .u8 ((H:Int)+1))))) fun E D=>fU (vs := [(0,au ((o:Int)+1)),(1,aF ((M.ml o).s.known o+1)),(2,.agg (aC 6 (rv .u64 ((M.ml o).s.known)))),(3,.int .u8 ((H:Int)+1))]) (places := #[(0,1),(1,1),(2,6),(8,1),(9,1),(10,1),(11,1),(12,1),(13,1)]) (m:=14) (x:=fun h=>if h<1 then au 0 else if h<8 then aF 0 else if h<9 then .int .u8 (0)else if h<10 then aF 0 else if h<12 then au 0 else aF 0) rfl (Fx.aah (show ev _ (.tmp 26)=au ((o:Int)+1)from by kernel_rfl) (show ev _ (.tmp 34)=aF ((M.ml o).s.known o+1)from by kernel_rfl) (show ev _ (.tmp 39) = .agg (aC 6 (rv .u64 ((M.ml o).s.known)))from by kernel_rfl) (show ev _ (.tmp 43) = .int .u8 ((H:Int)+1)from by kernel_rfl)) Tryz.underlying32 (by kernel_rfl) (by kernel_rfl) (by rw[bF (off:=0) (s:=1) (y:=fun _=>au ((o:Int)+1)) (by kernel_rfl) (cells_one (by rfl)) (by rfl)]; rw[bF (off:=1) (s:=1) (y:=fun _=>aF ((M.ml o).s.known o+1)) (by kernel_rfl) (cells_one (by rfl)) (by rfl)]; rw[bF (off:=2) (s:=6) (y:=rv .u64 ((M.ml o).s.known)) (by kernel_rfl) (bJ _ _) (by rfl)]; rw[bF (off:=8) (s:=1) (y:=fun _ => .int .u8 ((H:Int)+1)) (by kernel_rfl) (cells_one (by rfl)) (by rfl)]; rfl)))
  ·exact .inl rfl
  exact .inr (.inl rfl)
 rintro A w3 f1 hf1 Eo m19 hb1;have adg:p≠A:=t_ (n_ (m12.lt) Eo);have aoL:G≠A:=t_ (n_ (m16.lt) Eo);have ade:U≠A:=t_ (n_ (m17.lt) Eo);have aoM:EC≠A:=t_ (n_ (m18.lt) Eo);have agU:(M.pl o)≠A:=t_ (n_ (FC.lt) Eo);have adh:(.slice M.aa (M.an) (M.ac):Value).ownBlock≠some A:=fun e=>by have:=(m14.ge e).2; omega
 have⟨m22,m23,m24,ni,oz,b4⟩:=uy hb1 m15 m16 m17 m18 agT b3;have Eo:w.heap.size<=A:=m_ b3.size Eo;have Ma:=m19.lt;have q1:f1 3=(pt G):=by rw[hf1]; kernel_rfl
 have q2:f1 4=(pt U):=by rw[hf1]; kernel_rfl
 have q3:f1 6=(pt (M.pl o)):=by rw[hf1]; kernel_rfl
 have q4:f1 7=(pt A):=by rw[hf1]; kernel_rfl
 clear hf1;refine sN<|Ws ?_;obtain⟨d,eV0⟩ : ∃ V:EvM,V=(⟨(o:Int)+1,(M.ml o).s.known o+1,(M.ml o).s.known,(H:Int)+1,0,0,0,0,0⟩:EvM):=⟨_,rfl⟩;have hz1:kF 0:=⟨by decide,by decide⟩;have hz2:xB 0:=⟨by decide,by decide⟩;have t:gy d:=by rw[eV0]; exact⟨⟨by show(_:Int)<=(o:Int)+1; omega,by show(o:Int)+1<=_; omega⟩,⟨by show(0:Int)<=(M.ml o).s.known o+1; omega,by show(M.ml o).s.known o+1<=_; omega⟩,fun i hi=>⟨(hkn i hi).1,by have q:(M.ml o).s.known i<1099511627776:=(hkn i hi).2; show(M.ml o).s.known i<=_; omega⟩,⟨by show(0:Int)<=(H:Int)+1; omega,by show(H:Int)+1<=255; omega⟩,hz1,hz2,hz2,hz1,hz1⟩
 have og:aS w3 A 14 (bS d) 32:=m19.congr (fun j C=>by rw[eV0]; rcases j with _|_|_|_|_|_|_|_|_|_|_|_|_|_|j <;> first|rfl|omega|exact K_ (Value.int .u8) (by omega))
 have X:nY d:=by rw[eV0]; exact⟨by show(0:Int)<=_; decide,by show(0:Int)<=_; decide⟩
 have hd0:d.o=(o:Int)+1/\d.seq=(M.ml o).s.known o+1/\d.deps=(M.ml o).s.known:=by rw[eV0]; exact⟨rfl,rfl,rfl⟩
 have ek0:d.kind=(H:Int)+1:=by rw[eV0]
 refine Wl<|av (aF 0)<|aD ?_;have oC:Fx.Own w3 B 72 1 (.slice M.la (M.n) (M.lc)) M.n (Hl M.pl):=ni.dL (K_ (fun q=>Value.slice q M.n M.lc) eq1.symm);refine Dk (fun f w_ => ∃ nd:Int,kF nd/\f 3=(pt G)/\f 4=(pt U)/\f 7=(pt A)/\f 8=aF nd/\aS w_ G 9 (I9 x) 36/\aS w_ U 14 (fun h=>if h<1 then au 0 else if h<8 then aF 0 else if h<9 then .int .u8 (0)else if h<10 then aF 0 else if h<12 then au 0 else aF 0) 32/\aS w_ A 14 (bS d) 32/\Below w.heap.size w w_) ?_ ?_
 ·refine Ws ?_;have YD:=m22 o (by omega);have Vm:=YD.c;have ark:=YD.n;refine Wl<|aX q3<|av (pt (M.pl o))<|av (pt (M.pl o))<|av (pf (M.pl o) 18)<|Lv (.slice (M.ml o).s.na ((M.ml o).s.nn) ((M.ml o).s.nc)) (aN Vm.aI 18)<|av (au (((M.ml o).s.nn:Nat):Int))<|Lv (.bool (decide (0<(((M.ml o).s.nn:Nat):Int)))) (Fx.QU rfl rfl rfl)<|aD<|Wc (b:=decide (0<(((M.ml o).s.nn:Nat):Int))) rfl (fun c51 => ?_)<|fun c51 => ?_
  ·have c51:=h_ c51;obtain⟨V7,agW⟩ : ∃ r,r=x.node % (M.ml o).s.nn:=⟨_,rfl⟩;have aoN:V7<(M.ml o).s.nn:=(by rw[agW]; exact I_ _ (by omega));refine xL<|dX q3<|aT (pt (M.pl o))<|aT (pt (M.pl o))<|aT (pf (M.pl o) 18)<|Qv (.slice (M.ml o).s.na ((M.ml o).s.nn) ((M.ml o).s.nc)) (fun E D=>aN (Vm.aI.dr D) 18)<|Qv (pf G 4) (fun E D=>iV q1 4)<|Qv (.int .u8 (x.node:Int)) (fun E D=>aN (m23.aI.dr D) 4)<|Qv (au x.node) (fun E D=>dD rfl rfl (by kernel_rfl) Tryz.underlying3 (iW (by omega) rfl))<|dX q3<|aT (pt (M.pl o))<|aT (pt (M.pl o))<|aT (pf (M.pl o) 18)<|Qv (.slice (M.ml o).s.na ((M.ml o).s.nn) ((M.ml o).s.nc)) (fun E D=>aN (Vm.aI.dr D) 18)<|aT (au (((M.ml o).s.nn:Nat):Int))<|Qv (au V7) (fun E D=>Fx.Ak rfl rfl rfl (by omega) (Ja agW)) ?_;obtain⟨Lp,DW⟩:=oz.addr (by omega);have pE:Fx.Own w3 B 61 56 (.slice (some ⟨Lp,0,none⟩) ((M.ml o).s.nn) ((M.ml o).s.nc)) ((M.ml o).s.nn) (Jk (M.ml o)):=oz.dL (K_ (fun q=>Value.slice q ((M.ml o).s.nn) ((M.ml o).s.nc)) DW);refine Qv (pf Lp (56*V7)) (fun E D=>dh 56 (hx:=(rfl.trans (K_ (fun q=>Value.slice q ((M.ml o).s.nn) ((M.ml o).s.nc)) DW))))<|aT (pf Lp (56*V7))<|Qv (aF ((M.ml o).id V7)) (fun E D=>aN (pE.aI.dr D) (56*V7) (Fx.dW (k:=V7) (j:=0) (by omega) (by omega) rfl))<|aT (aF ((M.ml o).id V7))<|Qn ?_;rintro _ ⟨qd,rfl⟩;obtain⟨wq2,rJ⟩ : ∃ E,E=World.drewN w3 qd:=⟨_,rfl⟩;rw[<- rJ];have s5:Stp w3.heap.size w3 wq2:=(by rw[rJ]; exact Sb (jl w3 qd));have⟨oN,pW,rW,sj,b5⟩:=vP s5.old m23 m24 og pE b4;clear rJ;have nk:Fx.Own wq2 B 61 56 (.slice (M.ml o).s.na ((M.ml o).s.nn) ((M.ml o).s.nc)) ((M.ml o).s.nn) (Jk (M.ml o)):=sj.dL (K_ (fun q=>Value.slice q ((M.ml o).s.nn) ((M.ml o).s.nc)) DW.symm);exact xk ⟨((M.ml o).id V7),(hU V7 aoN),q1,q2,q4,Fx.ic,oN,pW,rW,b5⟩
  have c51:=j_ c51;refine Wk ?_;exact xk ⟨0,⟨by decide,by decide⟩,q1,q2,q4,Fx.ic,m23,m24,og,b4⟩
 rintro f2 w4 ⟨nd,OT,Y,I,F,h4,mV,nu,K,J⟩;refine Ws<|ay<|Lv (pf A 8) (iV F 8)<|Lv (.int .u8 (d.kind)) (aN K.aI 8)<|aD<|Wb<|ay ?_;by_cases c73:d.kind=1
 ·refine Lv aH (eZ c73)<|av aH<|aD<|aO<|Ws<|Ws ?_;obtain⟨r76,agX⟩ : ∃ r,r=x.node % 2:=⟨_,rfl⟩;have avk:r76<2:=by rw[agX]; exact I_ _ (by omega)
  refine Wl<|Lv (pf G 4) (iV Y 4)<|Lv (.int .u8 (x.node:Int)) (aN mV.aI 4)<|Lv (.int .u8 (r76:Int)) (Fx.Ak rfl rfl rfl (by omega) (Ja agX)) ?_;by_cases c77:(r76:Int)=1
  ·refine Lv aH (eZ c77)<|aD<|aO<|Wl<|aX h4<|Lv (pf A 9) (iV F 9)<|jm K 9 (aF nd) fun w5 qK s6 z3 => ?_;obtain⟨L,eV1⟩ : ∃ V:EvM,V=⟨d.o,d.seq,d.deps,d.kind,nd,d.dst,d.aU,d.req,d.of⟩:=⟨_,rfl⟩;have KX:gy L:=(by rw[eV1]; exact⟨t.o,t.seq,t.deps,t.kind,OT,t.dst,t.aU,t.req,t.of⟩);have aoP:L.o=(o:Int)+1/\L.seq=(M.ml o).s.known o+1/\L.deps=(M.ml o).s.known:=(by rw[eV1]; exact hd0);have aoQ:nY L:=(by rw[eV1]; exact⟨X.aU,X.req⟩);have nU:aS w5 A 14 (bS L) 32:=qK.congr (fun j C=>by rw[eV1]; exact Ea _ _ j C);have gK:=gY s6 K.ty;have ru:=lJ gK mV;have xq:=nu.cZ s6 (by omega);have b7:=s6.below J J.size (by omega);refine aD<|Wl<|Lv (pf G 6) (iV Y 6)<|Lv (.int .u16 (x.aU:Int)) (aN ru.aI 6)<|Lv (au x.aU) (dD rfl rfl (by kernel_rfl) Tryz.underlying2 (iW (by omega) rfl))<|Lv (pf A 11) (iV F 11)<|jm nU 11 (au x.aU) fun w6 su s7 z4 => ?_;obtain⟨V2,eV2⟩ : ∃ V:EvM,V=⟨L.o,L.seq,L.deps,L.kind,L.node,L.dst,(x.aU:Int),L.req,L.of⟩:=⟨_,rfl⟩;have aoR:gy V2:=(by rw[eV2]; exact⟨KX.o,KX.seq,KX.deps,KX.kind,KX.node,KX.dst,(show xB (x.aU:Int)from⟨by omega,by omega⟩),KX.req,KX.of⟩);have aoS:V2.o=(o:Int)+1/\V2.seq=(M.ml o).s.known o+1/\V2.deps=(M.ml o).s.known:=(by rw[eV2]; exact aoP);have aoT:nY V2:=(by rw[eV2]; exact⟨by show(x.aU:Int)<=65536; omega,aoQ.req⟩);have sS:aS w6 A 14 (bS V2) 32:=su.congr (fun j C=>by rw[eV2]; exact FB _ _ j C);have uH:=xq.cZ s7 (by omega);have b8:=s7.below b7 b7.size (by omega);refine Ln<|bQ<|sN<|ay<|Lv (.agg (aC 14 (bS V2))) (gI sS.aI 0 (ha:=F))<|fH uH 0 (ha:=I) (h1:=(iK _)) fun w7 uh s8 z5 => ?_;have uI:aS w7 U 14 (bS V2) 32:=aW uh;have tL:=sS.cZ s8 (by omega);have b9:=s8.below b8 b8.size (by omega);refine aD (Wr (⟨.agg (aC 14 (bS V2)),rV Tryz.results38 ⟨_,I,aY uI.aI (by kernel_rfl) (by kernel_rfl)⟩,?_⟩));exact⟨V2,aoR,aoT,by rw[<- eo]; exact aoS,rfl,b9⟩
  refine Lv aG (fM c77)<|aD<|aL<|Wk<|sN<|Wl<|Lv (pf G 6) (iV Y 6)<|Lv (.int .u16 (x.aU:Int)) (aN mV.aI 6)<|Lv (au x.aU) (dD rfl rfl (by kernel_rfl) Tryz.underlying2 (iW (by omega) rfl))<|Lv (pf A 11) (iV F 11)<|jm K 11 (au x.aU) fun w8 rY s9 z6 => ?_;obtain⟨V3,eV3⟩ : ∃ V:EvM,V=⟨d.o,d.seq,d.deps,d.kind,d.node,d.dst,(x.aU:Int),d.req,d.of⟩:=⟨_,rfl⟩;have aoU:gy V3:=by rw[eV3]; exact⟨t.o,t.seq,t.deps,t.kind,t.node,t.dst,(show xB (x.aU:Int)from⟨by omega,by omega⟩),t.req,t.of⟩
  have aoV:V3.o=(o:Int)+1/\V3.seq=(M.ml o).s.known o+1/\V3.deps=(M.ml o).s.known:=by rw[eV3]; exact hd0
  have aoW:nY V3:=by rw[eV3]; exact⟨by show(x.aU:Int)<=65536; omega,X.req⟩
  have rz:aS w8 A 14 (bS V3) 32:=rY.congr (fun j C=>by rw[eV3]; exact FB _ _ j C);have pG:=nu.cZ s9 (by omega);have b10:=s9.below J J.size (by omega);refine Ln<|bQ<|sN<|ay<|Lv (.agg (aC 14 (bS V3))) (gI rz.aI 0 (ha:=F))<|fH pG 0 (ha:=I) (h1:=(iK _)) fun w9 uJ s10 z7 => ?_;have nS:aS w9 U 14 (bS V3) 32:=aW uJ;have m64:=rz.cZ s10 (by omega);have b11:=s10.below b10 b10.size (by omega);refine aD (Wr (⟨.agg (aC 14 (bS V3)),rV Tryz.results38 ⟨_,I,aY nS.aI (by kernel_rfl) (by kernel_rfl)⟩,?_⟩));exact⟨V3,aoU,aoW,by rw[<- eo]; exact aoV,rfl,b11⟩
 refine Lv aG (fM c73)<|av aG<|aD<|aL<|ay ?_;by_cases c85:d.kind=2
 ·refine Lv aH (eZ c85)<|av aH<|aD<|aO<|ay<|aX h4<|Lv (pf A 9) (iV F 9)<|jm K 9 (aF nd) fun sQ vV s11 z8 => ?_;obtain⟨P,eV4⟩ : ∃ V:EvM,V=⟨d.o,d.seq,d.deps,d.kind,nd,d.dst,d.aU,d.req,d.of⟩:=⟨_,rfl⟩;have KY:gy P:=by rw[eV4]; exact⟨t.o,t.seq,t.deps,t.kind,OT,t.dst,t.aU,t.req,t.of⟩
  have aoX:P.o=(o:Int)+1/\P.seq=(M.ml o).s.known o+1/\P.deps=(M.ml o).s.known:=by rw[eV4]; exact hd0
  have aoY:nY P:=by rw[eV4]; exact⟨X.aU,X.req⟩
  have vE:aS sQ A 14 (bS P) 32:=vV.congr (fun j C=>by rw[eV4]; exact Ea _ _ j C);have yQ:=gY s11 K.ty;have vW:=lJ yQ mV;have vX:=nu.cZ s11 (by omega);have b12:=s11.below J J.size (by omega);refine aD<|Wl<|Lv (pf G 6) (iV Y 6)<|Lv (.int .u16 (x.aU:Int)) (aN vW.aI 6)<|Lv (au x.aU) (dD rfl rfl (by kernel_rfl) Tryz.underlying2 (iW (by omega) rfl))<|Lv (au ((x.aU:Int)+1)) eY<|Lv (pf A 11) (iV F 11)<|jm vE 11 (au ((x.aU:Int)+1)) fun FP qz s12 z9 => ?_;obtain⟨V5,eV5⟩ : ∃ V:EvM,V=⟨P.o,P.seq,P.deps,P.kind,P.node,P.dst,(x.aU:Int)+1,P.req,P.of⟩:=⟨_,rfl⟩;have aoZ:gy V5:=by rw[eV5]; exact⟨KY.o,KY.seq,KY.deps,KY.kind,KY.node,KY.dst,(show xB ((x.aU:Int)+1)from⟨by omega,by omega⟩),KY.req,KY.of⟩
  have apa:V5.o=(o:Int)+1/\V5.seq=(M.ml o).s.known o+1/\V5.deps=(M.ml o).s.known:=by rw[eV5]; exact aoX
  have apb:nY V5:=by rw[eV5]; exact⟨by show(x.aU:Int)+1<=65536; omega,aoY.req⟩
  have sD:aS FP A 14 (bS V5) 32:=qz.congr (fun j C=>by rw[eV5]; exact FB _ _ j C);have sF:=vX.cZ s12 (by omega);have b13:=s12.below b12 b12.size (by omega);refine Ln<|bQ<|sN<|ay<|Lv (.agg (aC 14 (bS V5))) (gI sD.aI 0 (ha:=F))<|fH sF 0 (ha:=I) (h1:=(iK _)) fun Ag sV s13 z10 => ?_;have xu:aS Ag U 14 (bS V5) 32:=aW sV;have wT:=sD.cZ s13 (by omega);have b14:=s13.below b13 b13.size (by omega);refine aD (Wr (⟨.agg (aC 14 (bS V5)),rV Tryz.results38 ⟨_,I,aY xu.aI (by kernel_rfl) (by kernel_rfl)⟩,?_⟩));exact⟨V5,aoZ,apb,by rw[<- eo]; exact apa,rfl,b14⟩
 refine Lv aG (fM c85)<|av aG<|aD<|aL<|ay ?_;by_cases c94:d.kind=3
 ·refine Lv aH (eZ c94)<|av aH<|aD<|aO<|ay<|aX h4<|Lv (pf A 9) (iV F 9)<|jm K 9 (aF nd) fun FZ wU Dl z11 => ?_;obtain⟨Q,eV6⟩ : ∃ V:EvM,V=⟨d.o,d.seq,d.deps,d.kind,nd,d.dst,d.aU,d.req,d.of⟩:=⟨_,rfl⟩;have KZ:gy Q:=by rw[eV6]; exact⟨t.o,t.seq,t.deps,t.kind,OT,t.dst,t.aU,t.req,t.of⟩
  have apc:Q.o=(o:Int)+1/\Q.seq=(M.ml o).s.known o+1/\Q.deps=(M.ml o).s.known:=by rw[eV6]; exact hd0
  have apd:nY Q:=by rw[eV6]; exact⟨X.aU,X.req⟩
  have xw:aS FZ A 14 (bS Q) 32:=wU.congr (fun j C=>by rw[eV6]; exact Ea _ _ j C);have abP:=gY Dl K.ty;have wV:=lJ abP mV;have vY:=nu.cZ Dl (by omega);have b15:=Dl.below J J.size (by omega);refine aD<|ay<|Lv (pf G 6) (iV Y 6)<|Lv (.int .u16 (x.aU:Int)) (aN wV.aI 6)<|Lv (au x.aU) (dD rfl rfl (by kernel_rfl) Tryz.underlying2 (iW (by omega) rfl))<|Lv (au ((x.aU:Int)+1)) eY<|Lv (pf A 11) (iV F 11)<|jm xw 11 (au ((x.aU:Int)+1)) fun Gt uL s15 z12 => ?_;obtain⟨R,eV7⟩ : ∃ V:EvM,V=⟨Q.o,Q.seq,Q.deps,Q.kind,Q.node,Q.dst,(x.aU:Int)+1,Q.req,Q.of⟩:=⟨_,rfl⟩;have K3:gy R:=by rw[eV7]; exact⟨KZ.o,KZ.seq,KZ.deps,KZ.kind,KZ.node,KZ.dst,(show xB ((x.aU:Int)+1)from⟨by omega,by omega⟩),KZ.req,KZ.of⟩
  have ape:R.o=(o:Int)+1/\R.seq=(M.ml o).s.known o+1/\R.deps=(M.ml o).s.known:=by rw[eV7]; exact apc
  have apf:nY R:=by rw[eV7]; exact⟨by show(x.aU:Int)+1<=65536; omega,apd.req⟩
  have wW:aS Gt A 14 (bS R) 32:=uL.congr (fun j C=>by rw[eV7]; exact FB _ _ j C);have agY:=gY s15 xw.ty;have yR:=lJ agY wV;have xA:=vY.cZ s15 (by omega);have b16:=s15.below b15 b15.size (by omega);refine aD<|Wl<|Lv (pf G 7) (iV Y 7)<|Lv (.int .u8 (x.req:Int)) (aN yR.aI 7)<|Lv (aF x.req) (dD rfl rfl (by kernel_rfl) Tryz.underlying28 (jK (by omega) rfl))<|Lv (aF ((x.req:Int)+1)) eY<|Lv (pf A 12) (iV F 12)<|jm wW 12 (aF ((x.req:Int)+1)) fun L9 zu s16 z13 => ?_;obtain⟨V8,eV8⟩ : ∃ V:EvM,V=⟨R.o,R.seq,R.deps,R.kind,R.node,R.dst,R.aU,(x.req:Int)+1,R.of⟩:=⟨_,rfl⟩;have apg:gy V8:=by rw[eV8]; exact⟨K3.o,K3.seq,K3.deps,K3.kind,K3.node,K3.dst,K3.aU,(show kF ((x.req:Int)+1)from⟨by omega,by omega⟩),K3.of⟩
  have aph:V8.o=(o:Int)+1/\V8.seq=(M.ml o).s.known o+1/\V8.deps=(M.ml o).s.known:=by rw[eV8]; exact ape
  have apj:nY V8:=by rw[eV8]; exact⟨apf.aU,by show(x.req:Int)+1<=256; omega⟩
  have zL:aS L9 A 14 (bS V8) 32:=zu.congr (fun j C=>by rw[eV8]; exact Vl _ _ j C);have yS:=xA.cZ s16 (by omega);have b17:=s16.below b16 b16.size (by omega);refine Ln<|bQ<|sN<|ay<|Lv (.agg (aC 14 (bS V8))) (gI zL.aI 0 (ha:=F))<|fH yS 0 (ha:=I) (h1:=(iK _)) fun w16 yT Ji z14 => ?_;have zM:aS w16 U 14 (bS V8) 32:=aW yT;have Bz:=zL.cZ Ji (by omega);have b18:=Ji.below b17 b17.size (by omega);refine aD (Wr (⟨.agg (aC 14 (bS V8)),rV Tryz.results38 ⟨_,I,aY zM.aI (by kernel_rfl) (by kernel_rfl)⟩,?_⟩));exact⟨V8,apg,apj,by rw[<- eo]; exact aph,rfl,b18⟩
 refine Lv aG (fM c94)<|av aG<|aD<|aL<|ay ?_;by_cases agZ:d.kind=4
 ·refine Lv aH (eZ agZ)<|av aH<|aD<|aO<|ay<|Lv (pf G 7) (iV Y 7)<|Lv (.int .u8 (x.req:Int)) (aN mV.aI 7)<|Lv (aF x.req) (dD rfl rfl (by kernel_rfl) Tryz.underlying28 (jK (by omega) rfl))<|Lv (aF ((x.req:Int)+1)) eY<|Lv (pf A 12) (iV F 12)<|jm K 12 (aF ((x.req:Int)+1)) fun RV AA Lm z15 => ?_;obtain⟨S,eV9⟩ : ∃ V:EvM,V=⟨d.o,d.seq,d.deps,d.kind,d.node,d.dst,d.aU,(x.req:Int)+1,d.of⟩:=⟨_,rfl⟩;have K4:gy S:=by rw[eV9]; exact⟨t.o,t.seq,t.deps,t.kind,t.node,t.dst,t.aU,(show kF ((x.req:Int)+1)from⟨by omega,by omega⟩),t.of⟩
  have apk:S.o=(o:Int)+1/\S.seq=(M.ml o).s.known o+1/\S.deps=(M.ml o).s.known:=by rw[eV9]; exact hd0
  have aha:nY S:=by rw[eV9]; exact⟨X.aU,by show(x.req:Int)+1<=256; omega⟩
  have Bh:aS RV A 14 (bS S) 32:=AA.congr (fun j C=>by rw[eV9]; exact Vl _ _ j C);have ahb:=gY Lm K.ty;have yU:=lJ ahb mV;have DR:=nu.cZ Lm (by omega);have b19:=Lm.below J J.size (by omega);refine aD<|Wl<|Lv (pf G 8) (iV Y 8)<|Lv (.int .u8 (x.of:Int)) (aN yU.aI 8)<|Lv (aF x.of) (dD rfl rfl (by kernel_rfl) Tryz.underlying28 (jK (by omega) rfl))<|Lv (aF ((x.of:Int)+1)) eY<|Lv (pf A 13) (iV F 13)<|jm Bh 13 (aF ((x.of:Int)+1)) fun RX CB s19 z16 => ?_;obtain⟨V9,YE⟩ : ∃ V:EvM,V=⟨S.o,S.seq,S.deps,S.kind,S.node,S.dst,S.aU,S.req,(x.of:Int)+1⟩:=⟨_,rfl⟩;have ahc:gy V9:=by rw[YE]; exact⟨K4.o,K4.seq,K4.deps,K4.kind,K4.node,K4.dst,K4.aU,K4.req,(show kF ((x.of:Int)+1)from⟨by omega,by omega⟩)⟩
  have ahd:V9.o=(o:Int)+1/\V9.seq=(M.ml o).s.known o+1/\V9.deps=(M.ml o).s.known:=by rw[YE]; exact apk
  have ahe:nY V9:=by rw[YE]; exact⟨aha.aU,aha.req⟩
  have DT:aS RX A 14 (bS V9) 32:=CB.congr (fun j C=>by rw[YE]; exact agR _ _ j C);have tN:=DR.cZ s19 (by omega);have b20:=s19.below b19 b19.size (by omega);refine Ln<|bQ<|sN<|ay<|Lv (.agg (aC 14 (bS V9))) (gI DT.aI 0 (ha:=F))<|fH tN 0 (ha:=I) (h1:=(iK _)) fun w19 wB s20 z17 => ?_;have tO:aS w19 U 14 (bS V9) 32:=aW wB;have nV:=DT.cZ s20 (by omega);have L8:=s20.below b20 b20.size (by omega);refine aD (Wr (⟨.agg (aC 14 (bS V9)),rV Tryz.results38 ⟨_,I,aY tO.aI (by kernel_rfl) (by kernel_rfl)⟩,?_⟩));exact⟨V9,ahc,ahe,by rw[<- eo]; exact ahd,rfl,L8⟩
 refine Lv aG (fM agZ)<|av aG<|aD<|aL<|ay ?_;by_cases Vn:d.kind=5
 ·refine Lv aH (eZ Vn)<|av aH<|aD<|aO<|ay<|aX h4<|Lv (pf A 9) (iV F 9)<|jm K 9 (aF nd) fun VT nN s21 z18 => ?_;obtain⟨N,YF⟩ : ∃ V:EvM,V=⟨d.o,d.seq,d.deps,d.kind,nd,d.dst,d.aU,d.req,d.of⟩:=⟨_,rfl⟩;have CY:gy N:=by rw[YF]; exact⟨t.o,t.seq,t.deps,t.kind,OT,t.dst,t.aU,t.req,t.of⟩
  have ahf:N.o=(o:Int)+1/\N.seq=(M.ml o).s.known o+1/\N.deps=(M.ml o).s.known:=by rw[YF]; exact hd0
  have ahg:nY N:=by rw[YF]; exact⟨X.aU,X.req⟩
  have oH:aS VT A 14 (bS N) 32:=nN.congr (fun j C=>by rw[YF]; exact Ea _ _ j C);have ahh:=gY s21 K.ty;have nW:=lJ ahh mV;have qL:=nu.cZ s21 (by omega);have Lj:=s21.below J J.size (by omega);refine aD<|ay<|Lv (pf G 6) (iV Y 6)<|Lv (.int .u16 (x.aU:Int)) (aN nW.aI 6)<|Lv (au x.aU) (dD rfl rfl (by kernel_rfl) Tryz.underlying2 (iW (by omega) rfl))<|Lv (au ((x.aU:Int)+1)) eY<|Lv (pf A 11) (iV F 11)<|jm oH 11 (au ((x.aU:Int)+1)) fun w21 rO s22 z19 => ?_;obtain⟨O,YG⟩ : ∃ V:EvM,V=⟨N.o,N.seq,N.deps,N.kind,N.node,N.dst,(x.aU:Int)+1,N.req,N.of⟩:=⟨_,rfl⟩;have CZ:gy O:=by rw[YG]; exact⟨CY.o,CY.seq,CY.deps,CY.kind,CY.node,CY.dst,(show xB ((x.aU:Int)+1)from⟨by omega,by omega⟩),CY.req,CY.of⟩
  have ahi:O.o=(o:Int)+1/\O.seq=(M.ml o).s.known o+1/\O.deps=(M.ml o).s.known:=by rw[YG]; exact ahf
  have ZL:nY O:=by rw[YG]; exact⟨by show(x.aU:Int)+1<=65536; omega,ahg.req⟩
  have uT:aS w21 A 14 (bS O) 32:=rO.congr (fun j C=>by rw[YG]; exact FB _ _ j C);have ahj:=gY s22 oH.ty;have qM:=lJ ahj nW;have tQ:=qL.cZ s22 (by omega);have WK:=s22.below Lj Lj.size (by omega);refine aD ?_;obtain⟨W,er6⟩ : ∃ r,r=x.dst % 6:=⟨_,rfl⟩;have hr6:W<6:=by rw[er6]; exact I_ _ (by omega)
  refine Wl<|Lv (pf G 5) (iV Y 5)<|Lv (.int .u8 (x.dst:Int)) (aN qM.aI 5)<|Lv (au x.dst) (dD rfl rfl (by kernel_rfl) Tryz.underlying3 (iW (by omega) rfl))<|Lv (au W) (Fx.Ak rfl rfl rfl (by omega) (Ja er6))<|Lv (au ((W:Int)+1)) eY<|Lv (pf A 10) (iV F 10)<|jm uT 10 (au ((W:Int)+1)) fun w22 yV s23 z20 => ?_;obtain⟨Wd,YH⟩ : ∃ V:EvM,V=⟨O.o,O.seq,O.deps,O.kind,O.node,(W:Int)+1,O.aU,O.req,O.of⟩:=⟨_,rfl⟩;have ahl:gy Wd:=by rw[YH]; exact⟨CZ.o,CZ.seq,CZ.deps,CZ.kind,CZ.node,(show xB ((W:Int)+1)from⟨by omega,by omega⟩),CZ.aU,CZ.req,CZ.of⟩
  have ahm:Wd.o=(o:Int)+1/\Wd.seq=(M.ml o).s.known o+1/\Wd.deps=(M.ml o).s.known:=by rw[YH]; exact ahi
  have ahn:nY Wd:=by rw[YH]; exact⟨ZL.aU,ZL.req⟩
  have uU:aS w22 A 14 (bS Wd) 32:=yV.congr (fun j C=>by rw[YH]; exact Vk _ _ j C);have BA:=tQ.cZ s23 (by omega);have WL:=s23.below WK WK.size (by omega);refine Ln<|bQ<|sN<|ay<|Lv (.agg (aC 14 (bS Wd))) (gI uU.aI 0 (ha:=F))<|fH BA 0 (ha:=I) (h1:=(iK _)) fun w23 xC s24 z21 => ?_;have tT:aS w23 U 14 (bS Wd) 32:=aW xC;have xR:=uU.cZ s24 (by omega);have b25:=s24.below WL WL.size (by omega);refine aD (Wr (⟨.agg (aC 14 (bS Wd)),rV Tryz.results38 ⟨_,I,aY tT.aI (by kernel_rfl) (by kernel_rfl)⟩,?_⟩));exact⟨Wd,ahl,ahn,by rw[<- eo]; exact ahm,rfl,b25⟩
 refine Lv aG (fM Vn)<|av aG<|aD<|aL<|ay ?_;by_cases aho:d.kind=6
 ·refine Lv aH (eZ aho)<|av aH<|aD<|aO ?_;obtain⟨W,er6⟩ : ∃ r,r=x.dst % 6:=⟨_,rfl⟩;have hr6:W<6:=by rw[er6]; exact I_ _ (by omega)
  refine Wl<|Lv (pf G 5) (iV Y 5)<|Lv (.int .u8 (x.dst:Int)) (aN mV.aI 5)<|Lv (au x.dst) (dD rfl rfl (by kernel_rfl) Tryz.underlying3 (iW (by omega) rfl))<|Lv (au W) (Fx.Ak rfl rfl rfl (by omega) (Ja er6))<|Lv (au ((W:Int)+1)) eY<|Lv (pf A 10) (iV F 10)<|jm K 10 (au ((W:Int)+1)) fun w24 xS Zj z22 => ?_;obtain⟨Wh,YI⟩ : ∃ V:EvM,V=⟨d.o,d.seq,d.deps,d.kind,d.node,(W:Int)+1,d.aU,d.req,d.of⟩:=⟨_,rfl⟩;have ahp:gy Wh:=by rw[YI]; exact⟨t.o,t.seq,t.deps,t.kind,t.node,(show xB ((W:Int)+1)from⟨by omega,by omega⟩),t.aU,t.req,t.of⟩
  have ahq:Wh.o=(o:Int)+1/\Wh.seq=(M.ml o).s.known o+1/\Wh.deps=(M.ml o).s.known:=by rw[YI]; exact hd0
  have ahr:nY Wh:=by rw[YI]; exact⟨X.aU,X.req⟩
  have tV:aS w24 A 14 (bS Wh) 32:=xS.congr (fun j C=>by rw[YI]; exact Vk _ _ j C);have IE:=nu.cZ Zj (by omega);have b26:=Zj.below J J.size (by omega);refine Ln<|bQ<|sN<|ay<|Lv (.agg (aC 14 (bS Wh))) (gI tV.aI 0 (ha:=F))<|fH IE 0 (ha:=I) (h1:=(iK _)) fun w25 EF s26 z23 => ?_;have AB:aS w25 U 14 (bS Wh) 32:=aW EF;have F5:=tV.cZ s26 (by omega);have b27:=s26.below b26 b26.size (by omega);refine aD (Wr (⟨.agg (aC 14 (bS Wh)),rV Tryz.results38 ⟨_,I,aY AB.aI (by kernel_rfl) (by kernel_rfl)⟩,?_⟩));exact⟨Wh,ahp,ahr,by rw[<- eo]; exact ahq,rfl,b27⟩
 refine Lv aG (fM aho)<|av aG<|aD<|aL<|Wk<|bQ<|sN<|ay<|Lv (.agg (aC 14 (bS d))) (gI K.aI 0 (ha:=F))<|fH nu 0 (ha:=I) (h1:=(iK _)) fun w26 BF s27 z24 => ?_;have zQ:aS w26 U 14 (bS d) 32:=aW BF;have Kg:=K.cZ s27 (by omega);have b28:=s27.below J J.size (by omega);refine aD (Wr (⟨.agg (aC 14 (bS d)),rV Tryz.results38 ⟨_,I,aY zQ.aI (by kernel_rfl) (by kernel_rfl)⟩,?_⟩));exact⟨d,t,X,by rw[<- eo]; exact hd0,rfl,b28⟩
theorem Rt.Qo{L:fP}{v:EvM}(h:bP L v=0):bO v=true:=by
 unfold bP at h;split at h; · cases h
 rename_i h1; simpa using h1
structure Rt.DoR(o:Nat)(x:F9)(M M':WM)(v:EvM):Prop where
 n:M'.n=M.n
 oth : ∀ q,q≠o->M'.ml q=M.ml q
 c:(v=zeroE/\M'.an=M.an/\M'.ev=M.ev/\((M'.ml o).core=(M.ml o).core\/x.meet=true/\(M'.ml o).core=E5 M.ev M.an (M.ml (x.other % M.n)).s.known (M.ml o).core))\/(x.meet=false/\M'.an=M.an+1/\M'.ev=aJ M.ev M.an v/\bP (M.ml o).core v=0/\(M'.ml o).core=aA (M.ml o).core v/\v.o=(o:Int)+1/\v.seq=(M.ml o).s.known o+1/\v.deps=(M.ml o).s.known)
theorem Rt.Cg{L:fP}{v:EvM}(h:bP L v=0):(aA L v).known=aJ L.known (aP v) (L.known (aP v)+1):=by
 rcases qO L v with ⟨_,a⟩|⟨h1,_⟩
 ·exact a
 exact L_ h h1
theorem Rt.K5:gy zeroE:=by
 have z:kF 0:=⟨by decide,by decide⟩;have y:xB 0:=⟨by decide,by decide⟩;exact⟨y,z,fun _ _=>z,⟨by decide,by decide⟩,z,y,y,z,z⟩
def Wi(p:Nat)(M:WM)(k:Nat):Prop:=k=p\/(Value.slice M.la M.n M.lc).ownBlock=some k\/(Value.slice M.aa M.an M.ac).ownBlock=some k
def YJ(w:World)(p:Nat)(M a:WM):Prop := ∀ k,Wi p a k->Wi p M k\/w.heap.size<=k
theorem kJ.ge{w:World}{B p T:Nat}{M:WM}(h:kJ w B p M T) : ∀ k,Wi p M k->B<=k/\k<w.heap.size:=fun k b=>by
 rcases b with rfl|e|e
 ·exact⟨h.pB,h.c.lt⟩
 ·exact h.l.ge e
 ·exact h.a.ge e
theorem kJ.Cc{w w':World}{B p T:Nat}{M:WM}(h:kJ w B p M T)(a:B<=w.heap.size)(c:jO (Wi p M) w w'):Below B w w':=Fx.jO.below (Below.refl B w) c (fun k b=>(h.ge k b).1) a
theorem kJ.Bd{w w':World}{B p T:Nat}{M:WM}(h:kJ w B p M T)(d:jO (Wi p M) w w'):iP [44,72,32] w w':=Fx.iP.Q9 d fun k b=>by
 rcases b with rfl|e|e
 ·exact⟨_,h.c.ty,by decide⟩
 ·exact⟨_,h.l.ty e,by decide⟩
 ·exact⟨_,h.a.ty e,by decide⟩
theorem YJ.app{w b:World}{p g:Nat}{M a:WM}(i:(Value.slice M.aa M.an M.ac).ownBlock=some g\/g=b.heap.size)(l:w.heap.size<=b.heap.size)(h1:a.la=M.la:=by rfl)(c:a.n=M.n:=by rfl)(d:a.lc=M.lc:=by rfl)(f:(Value.slice a.aa a.an a.ac).ownBlock=some g:=by rfl):YJ w p M a:=fun k j=>by
 rcases j with h|h|h
 ·exact .inl (.inl h)
 ·rw[h1,c,d]at h; exact .inl (.inr (.inl h))
 ·have e:g=k:=B_ (f.symm.trans h)
  rcases i with h5|h5
  ·exact .inl (.inr (.inr (e ▸ h5)))
  ·exact .inr (by omega)
theorem kJ.mono{w:World}{B p T T':Nat}{M:WM}(h:kJ w B p M T)(a:T<=T'):kJ w B p M T' := { h with inv:=fun i b=>(h.inv i b).mono a }
set_option maxRecDepth 20000 in
set_option maxHeartbeats 2000000 in
theorem ahs(M:WM)(B p T:Nat)(x:F9)(w:World)(d:kJ w B p M T)(hB:B<=w.heap.size)(hx:KW x)(han:M.an<=60)(hT:T<=890000) :
 Calls Tryz.prog 13 #[(pt p),.agg (aC 9 (I9 x))] w fun e w' => ∃ v,e = .returned (.agg (aC 14 (bS v)))/\gy v /\ ∃ O,kJ w' B p O (T+3660)/\DoR (x.who % M.n) x M O v/\O.an<=M.an+1/\(x.meet=true->O.an=M.an)/\jO (Wi p M) w w'/\YJ w p M O:=by
 have hWc:=d.c;have hWl:=d.l;have hWa:=d.a;have hWg:=d.g;have hn1:=d.n1;have hn6:=d.n6;have hpB:=d.pB;have lpp:p<w.heap.size:=hWc.lt;have hxw:=hx.who;have hxo:=hx.other;have hxk:=hx.kind;have hxn:=hx.node;have hxt:=hx.dst;have hxa:=hx.aU;have hxr:=hx.req;have hxf:=hx.of;refine Kent Tryz.func13 94 ?_;refine ay<|rU fun g1 w1 mD m1 s1 z1 => ?_;have⟨m2,f,m4,m5,m6⟩:=vP s1.old hWc hWl hWa hWg d;have b1:=(uo (Wi p M) w).then s1 (.inr (uo (Wi p M) w).size);have uG:w.heap.size<=g1:=by rw[mD]; exact(uo (Wi p M) w).size
 have nI:=cO mD hWc.lt;have wO:=m1.lt;refine xg 14 (fun b=>if b<1 then au 0 else if b<8 then aF 0 else if b<9 then .int .u8 (0)else if b<10 then aF 0 else if b<12 then au 0 else aF 0) fun R w2 ad m7 s2 z2 => ?_;have⟨m8,m9,m10,m11,m12,m13⟩:=uy s2.old m2 f m4 m5 m6 m1;have b2:=b1.then s2 (.inr b1.size);have sG:=jI ad b1.size;have afW:=cO ad m2.lt;have Fu:(.slice M.aa (M.an) (M.ac):Value).ownBlock≠some R:=by rw[ad]; exact m4.jT (z_ _)
 have zZ:=cO ad m1.lt;have Bg:=m7.lt;refine aD<|Ws ?_;obtain⟨o,Q⟩ : ∃ r,r=x.who % M.n:=⟨_,rfl⟩;have ho:o<M.n:=by rw[Q]; exact I_ _ (by omega)
 refine xL<|aT (pt g1)<|Qv (.int .u8 (x.who:Int)) (fun D C=>aN (m13.aI.dr C) 0)<|Qv (au x.who) (fun D C=>dD rfl rfl (by kernel_rfl) Tryz.underlying3 (iW (by omega) rfl))<|aT (pt p)<|aT (pt p)<|aT (pt p)<|Qv (.slice M.la (M.n) (M.lc)) (fun D C=>aN (m8.aI.dr C) 0)<|aT (au M.n)<|Qv (au o) (fun D C=>Fx.Ak rfl rfl rfl (by omega) (Ja Q))<|aT (au o)<|Qn ?_;rintro _ ⟨qd,rfl⟩;obtain⟨Cw,oG⟩ : ∃ D,D=World.drewN w2 qd:=⟨_,rfl⟩;rw[<- oG];have s3:Stp w2.heap.size w2 Cw:=by rw[oG]; exact Sb (jl w2 qd)
 have⟨m14,m15,m16,m17,m18,Y,m20⟩:=jo s3.old m8 m9 m10 m11 m12 m13 m7;have Z:=b2.then s3 (.inr b2.size);clear oG;refine sN<|Ws<|ay<|av (pf g1 1) ?_;by_cases H:x.meet=true
 ·refine Lv aH (aN Y.aI 1 ((show _=Value.bool x.meet from rfl).trans (K_ Value.bool H)))<|aD<|aO<|Ws ?_;obtain⟨A,adz⟩ : ∃ r,r=x.other % M.n:=⟨_,rfl⟩;have avm:A<M.n:=by rw[adz]; exact I_ _ (by omega)
  have YC:=m17 A (by omega);have FC:=YC.c;have YD:=m17 o (by omega);refine jS [0,1,2,4,5,6,7,9,12,13,14,16,17,18,20,23,24,25,3,8,10,11,15,19,21,22,26,27,28,29,30,31,32,33,34,35,36,37] [0,0,0,1,0,0,0,0,4,0,0,4,0,0,0,4,0,0,0,4,0,4,0,0,0,0,4,0,0,0,4,0,0,0,4,2,0,3] [(37,3,[3]),(35,8,[11,10,8]),(37,8,[8]),(35,11,[11]),(37,11,[11]),(35,15,[15]),(37,15,[15]),(35,19,[34,33,32,31,30,29,19]),(37,19,[19]),(35,21,[34,33,32,31,30,29,28,22,21]),(37,21,[21]),(35,26,[34,33,32,31,30,29,28,27,26]),(37,26,[26]),(35,30,[34,33,32,31,30]),(37,30,[30]),(35,34,[34]),(37,34,[34]),(36,35,[35]),(37,35,[35])] fun qI dY iF => ?_;have s4:Stp Cw.heap.size Cw qI:=Sb dY;have⟨G,m22,m23,m24,ni,nZ,oz,og⟩:=lu dY m14 m15 m16 m17 Y m20 FC YD;have b4:=Z.then s4 (.inr Z.size);refine bf (pt p)<|bf (pt p)<|bf (pt p)<|bf (au o)<|bf (pt p)<|bf (pt p)<|bf (pt p)<|bf (au o)<|bf (pt p)<|bf (pt p)<|bf (pf p 1)<|bf (pt p)<|bf (pt p)<|bf (pt p)<|bf (pf g1 2)<|bf (pt p)<|bf (pt p)<|bf (pt p)<|Rd (v := .slice M.la (M.n) (M.lc)) (by rfl) (by rfl) (uq _) (fun D C=>bD (x:=OL (.slice M.la (M.n) (M.lc)) (.slice M.aa (M.an) (M.ac))) rfl rfl (by kernel_rfl) (G.aI.below C (by have:=G.lt; omega)) (i:=0) (by omega) (by omega) rfl) ?_;refine Rs (.slice M.la (M.n) (M.lc)) (aN G.aI 0) ?_;obtain⟨S,J⟩:=m22.addr (by omega);have oC:Fx.Own qI B 72 1 (bL S M.n M.lc) M.n (Hl M.pl):=m22.dL (K_ (fun q=>Value.slice q M.n M.lc) J);refine Rp (pf S o) (fun _=>dh 1 (hx:=(rfl.trans (K_ (fun q=>Value.slice q (M.n) (M.lc)) J))))<|Rs (pt (M.pl o)) (aN oC.aI o) ?_;refine Rs (.slice M.aa (M.an) (M.ac)) (aN G.aI 1) ?_;refine Rs (.slice M.la (M.n) (M.lc)) (aN G.aI 0) ?_;refine Rs (.int .u8 (x.other:Int)) (aN ni.aI 2) ?_;refine Rp (au x.other) (fun D=>dD rfl rfl (by kernel_rfl) Tryz.underlying3 (iW (by omega) rfl))<|Rs (.slice M.la (M.n) (M.lc)) (aN G.aI 0) ?_;refine bf (au M.n)<|Rp (au A) (fun D=>Fx.Ak rfl rfl rfl (by omega) (Ja adz))<|Rp (pf S A) (fun _=>dh 1 (hx:=(rfl.trans (K_ (fun q=>Value.slice q (M.n) (M.lc)) J))))<|Rs (pt (M.pl A)) (aN oC.aI A) ?_;refine bf (pt (M.pl A))<|bf (pt (M.pl A))<|bf (pf (M.pl A) 12)<|Rs (.agg (aC 6 (rv .u64 ((M.ml A).s.known)))) (gI oz.aI 12 (fun j W=>lM _ (by omega) (mW _ W (by omega)))) ?_;refine Ct<|lS (XK (M.ml o) B (M.pl o) T M.aa M.an M.ac M.ev ((M.ml A).s.known) _ og (d.inv o (by omega)) m23.arr d.wf d.may d.sm han hT) ?_;rintro e9 w3 ⟨t,f,E,hlc,hI3,hL1,hb1⟩;refine⟨(pt t),E,?_⟩;clear E;have s5:=Sb hb1;have⟨pE,mE,m32,oN,qx⟩:=vP hb1 G m23 m24 nZ oC;have b5:=b4.then s5 (.inr b4.size);refine Ln ⟨s5.old,?_⟩;refine Rp (pf S o) (fun _=>dh 1 (hx:=(rfl.trans (K_ (fun q=>Value.slice q (M.n) (M.lc)) J))))<|gF<|pU qx o (pt t) fun w4 rW s6 z3 => ?_;have gK:=gY s6 qx.Jw;have⟨qy,pF,sj,mV,rX⟩:=qX gK pE mE m32 oN hL1;have b6:=b5.then s6 (.inl (.inr (.inl (by rw[J]; rfl))));have qK:Fx.Own w4 B 72 1 (bL S M.n M.lc) M.n (Hl (aJ M.pl o t)):=rW.congr (fun F _=>congrFun Vg F);refine Ln<|bR<|ay<|av (.agg (aC 14 (fun b=>if b<1 then au 0 else if b<8 then aF 0 else if b<9 then .int .u8 (0)else if b<10 then aF 0 else if b<12 then au 0 else aF 0)))<|fH mV 0 (h1:=(fun F _=>by show((fun b=>if b<1 then au 0 else if b<8 then aF 0 else if b<9 then .int .u8 (0)else if b<10 then aF 0 else if b<12 then au 0 else aF 0:Nat->Value) F).oneCell'=true; simp only[]; repeat (first|rfl|split))) fun w5 nU s7 z4 => ?_
  have ru:aS w5 R 14 (fun b=>if b<1 then au 0 else if b<8 then aF 0 else if b<9 then .int .u8 (0)else if b<10 then aF 0 else if b<12 then au 0 else aF 0) 32:=aW nU;have jV:=gY s7 mV.ty;have xq:=lJ jV qy;have su:=pF.cZ s7 Fu;have⟨sS,uh,uI⟩:=FW jV sj rX qK;have b7:=b6.then s7 (.inr sG);refine aD (Wr (sR (⟨.agg (aC 14 (fun b=>if b<1 then au 0 else if b<8 then aF 0 else if b<9 then .int .u8 (0)else if b<10 then aF 0 else if b<12 then au 0 else aF 0)),rV Tryz.results13 ⟨_,rfl,aY ru.aI (by kernel_rfl) (by kernel_rfl)⟩,?_⟩)));have wR:Fx.Own w5 B 72 1 (.slice M.la (M.n) (M.lc)) M.n (Hl (aJ M.pl o t)):=uI.dL (K_ (fun q=>Value.slice q M.n M.lc) J.symm);exact⟨zeroE,K_ (fun z=>Ending.returned (Value.agg z)) (Fx.eU (y:=bS zeroE) fun j W=>by rcases j with _|_|_|_|_|_|_|_|_|_|_|_|_|_|j <;> first|rfl|omega),K5,{ M with pl:=aJ M.pl o t,ml:=aJ M.ml o f },{ c:=xq,l:=wR,a:=su,g:=sS.put uh,inv:=(fun i U=>by show Inv (aJ M.ml o f i).core _; unfold aJ; split; exact hI3; exact(d.inv i U).mono (by omega)),wf:=d.wf,may:=d.may,sm:=d.sm,cz:=d.cz.learn (o:=o) (by omega) (L:=(M.ml o).core) rfl (fun q u=>by show(aJ M.ml o f q).s.known=_; unfold aJ; rw[b_ u]) (by show(aJ M.ml o f o).s.known=_; unfold aJ; rw[d_ rfl]; exact K_ fP.known hlc),pB:=hpB,n1:=hn1,n6:=hn6 },(by rw[<- Q]; exact⟨rfl,fun q u=>by show aJ M.ml o f q=_; unfold aJ; rw[b_ u],.inl ⟨rfl,rfl,rfl,.inr ⟨H,by rw[<- adz]; show(aJ M.ml o f o).core=_; unfold aJ; rw[d_ rfl]; exact hlc⟩⟩⟩),(by show M.an<=M.an+1; omega),(fun _=>rfl),b7,fun _ h => .inl h⟩
 rw[S_]at H;refine Lv aG (aN Y.aI 1 ((show _=Value.bool x.meet from rfl).trans (K_ Value.bool H)))<|aD<|aL<|Wk<|sN<|ay<|av (pt p)<|Lv (.agg (aC 9 (I9 x))) (gI Y.aI 0)<|lS (YB M B p T x _ m18 hx) ?_;rintro e9 w6 ⟨V,hV,hVs,hVd,E,hb2⟩;refine⟨_,E,?_⟩;clear E;rw[<- Q]at hVd;have s8:=Sb hb2;have⟨tL,rY,rz,wS,uJ,nS⟩:=uy hb2 m14 m15 m16 m17 Y m20;have b8:=Z.then s8 (.inr Z.size);refine xg 14 (fun b=>if b<1 then au 0 else if b<8 then aF 0 else if b<9 then .int .u8 (0)else if b<10 then aF 0 else if b<12 then au 0 else aF 0) fun g3 w7 ae sw s9 z5 => ?_;have⟨m64,vV,vE,vW,vX,qz⟩:=uy s9.old tL rY rz wS uJ nS;have b9:=b8.then s9 (.inr b8.size);have Eo:=jI ae b8.size;have apn:=cO ae tL.lt;have Ng:(.slice M.aa (M.an) (M.ac):Value).ownBlock≠some g3:=by rw[ae]; exact rz.jT (z_ _)
 have⟨apo,apq⟩:=xM ae uJ.lt nS.lt;have Ma:=sw.lt;refine fH sw 0 (h1:=(iK _)) fun w8 sD s10 z6 => ?_;have sU:aS w8 g3 14 (bS V) 32:=aW sD;have tK:=gY s10 sw.ty;have⟨sF,sV⟩:=Dc tK m64 vV;have xu:=vE.cZ s10 Ng;have⟨uK,wT⟩:=Dc tK vW vX;have wU:=qz.cZ s10 (by omega);have b10:=b9.then s10 (.inr Eo);refine aD<|Ws ?_;have apr:=uK o (by omega);refine jS [0,1,2,4,3,5,6,7,8,9,10,11,12,13] [0,0,0,4,0,0,4,4,3,0,0,0,0,0] [(8,3,[6,5,3]),(8,6,[6]),(8,7,[7]),(9,8,[8]),(10,8,[9,8]),(11,8,[9,8]),(12,8,[8]),(13,8,[8])] fun Cu fV nH => ?_;have s11:Stp w8.heap.size w8 Cu:=Sb fV;have⟨xw,wV,vY,uL,wW,yR,xA,zu⟩:=lu fV sF sV xu uK wT wU sU apr;have b11:=b10.then s11 (.inr b10.size);refine bf (pt p)<|bf (pt p)<|bf (pt p)<|bf (au o)<|Rs (.slice M.la (M.n) (M.lc)) (aN xw.aI 0) ?_;obtain⟨Lp,K⟩:=wV.addr (by omega);have zL:Fx.Own Cu B 72 1 (bL Lp M.n M.lc) M.n (Hl M.pl):=wV.dL (K_ (fun q=>Value.slice q M.n M.lc) K);refine Rp (pf Lp o) (fun _=>dh 1 (hx:=(rfl.trans (K_ (fun q=>Value.slice q (M.n) (M.lc)) K))))<|Rs (pt (M.pl o)) (aN zL.aI o) ?_;refine Rs (.agg (aC 14 (bS V))) (gI xA.aI 0) ?_;refine gF<|lS (N9 (M.ml o) B (M.pl o) T V _ zu hV (d.inv o (by omega)).w (by omega)) ?_;rintro e9 w9 ⟨t,f,E,hc3,hL2,hb3⟩;refine⟨.tuple #[(pt t),au (bP (M.ml o).core V)],E,?_⟩;clear E;have s12:=Sb hb3;have⟨zw,yS,yT,zM,Dm,Bz,AA⟩:=jo hb3 xw vY uL wW yR xA zL;have b12:=b11.then s12 (.inr b11.size);refine Ln<|bf (.tuple #[(pt t),au (bP (M.ml o).core V)])<|bf (pt t)<|bf (au (bP (M.ml o).core V))<|bf (pt t)<|bf (au (bP (M.ml o).core V))<|bR<|Ws<|ay<|av (au (bP (M.ml o).core V)) ?_;by_cases I:(bP (M.ml o).core V)=0
 ·refine Lv aG (kr I)<|aD<|aL<|Wk<|sN<|ay<|av (pt p)<|av (pt p)<|av (pt p)<|Lv (.slice M.la (M.n) (M.lc)) (aN zw.aI 0)<|av (au o)<|av (pt t)<|Lv (pf Lp o) (dh 1 (hx:=(rfl.trans (K_ (fun q=>Value.slice q (M.n) (M.lc)) K))))<|pU AA o (pt t) fun sQ Bh s13 z7 => ?_;have zK:=gY s13 AA.Jw;have⟨yU,DR,CB,DT,EB,tN,wB⟩:=Rf zK zw yS yT zM Dm Bz hL2;have b13:=b12.then s13 (.inl (.inr (.inl (by rw[K]; rfl))));have tO:Fx.Own sQ B 72 1 (bL Lp M.n M.lc) M.n (Hl (aJ M.pl o t)):=Bh.congr (fun F _=>congrFun Vg F);refine aD<|Ws ?_;have rM:Fx.Own sQ B 72 1 (.slice M.la (M.n) (M.lc)) M.n (Hl (aJ M.pl o t)):=tO.dL (K_ (fun q=>Value.slice q M.n M.lc) K.symm);refine Ap [0,1,2,3,4,5,6,7,8,9,10] [0,0,0,0,1,4,2,2,0,0,3] (iP [32]) vO Fx.iP.trans (fG := [(10,4,[4]),(6,5,[5]),(7,5,[6,5]),(10,5,[5]),(7,6,[6]),(8,6,[6]),(9,6,[6]),(10,6,[6]),(8,7,[7]),(9,7,[7]),(10,7,[7])]) (by kernel_rfl) (by kernel_rfl) (by kernel_rfl) (by kernel_rfl) (by kernel_rfl) fun QE lI Av => ?_;have Dl:Stp sQ.heap.size sQ QE:=Sb lI;have⟨nV,nN,oH,nW,qL,rO,uT,qM⟩:=lu lI yU DR CB DT EB tN wB rM;have b14:=b13.then Dl (.inr b13.size);refine bf (pt p)<|bf (pt p)<|bf (pt p)<|bf (pf p 1)<|Rd (v := .slice M.aa (M.an) (M.ac)) (by rfl) (by rfl) (vO _) (fun D C=>bD (x:=OL (.slice M.la (M.n) (M.lc)) (.slice M.aa (M.an) (M.ac))) rfl rfl (by kernel_rfl) (nV.jN C (by decide)).aI (i:=1) (by omega) (by omega) rfl) ?_;refine Rs (.agg (aC 14 (bS V))) (gI rO.aI 0) ?_;refine Ct<|yN (vs := [(0,.agg (aC 14 (bS V)))]) (s:=14) (zc:=fun b=>if b<1 then au 0 else if b<8 then aF 0 else if b<9 then .int .u8 (0)else if b<10 then aF 0 else if b<12 then au 0 else aF 0) (y:=bI (fun j=>(fun b=>if b<1 then au 0 else if b<8 then aF 0 else if b<9 then .int .u8 (0)else if b<10 then aF 0 else if b<12 then au 0 else aF 0) (j % 14)) (0*14) 14 (bS V)) (by rfl) rfl rfl Tryz.underlying42 (by kernel_rfl) (by rfl) (by rfl) (by kernel_rfl) (by rw[bF (off:=0*14) (s:=14) (y:=bS V) rfl (bJ _ _) (by rfl)]; rfl) rfl fun g4 FP af tQ s15 z8 => ?_;have⟨yV,uU,yX,xC,tT,ql,xR⟩:=jo s15.old nV nN oH qL rO uT qM;have b15:=b14.then s15 (.inr b14.size);have VZ:=jI af b14.size;have Xr:=cO af nV.lt;have Xt:(.slice M.aa (M.an) (M.ac):Value).ownBlock≠some g4:=by rw[af]; exact nN.jT (z_ _)
  have⟨ajc,ajd,Xu⟩:=JC af nW.lt qL.lt rO.lt;have TP:=tQ.lt;refine Ln ⟨Fx.iP.of_below s15.old,?_⟩;refine Ct<|zh (B:=B) (s:=14) (bytes:=112) (k:=M.an) (m:=1) (v := .slice M.aa (M.an) (M.ac)) (x:=evX M.ev) (by rfl) rfl rfl rfl Tryz.underlying42 (by kernel_rfl) (by kernel_rfl) rfl rfl uU tQ.aI (yD (fun j=>(show(bS V j).oneCell'=true by unfold bS; repeat (first|rfl|split)))) (by omega) (by omega) (by omega) (m_ hB b15.size) fun N ab Ag ho1 hg1 vU hlt1 => ?_
  have yP:=zi hg1 uU;have⟨tV,BD⟩:=Dc yP yV yX;have EF:=xC.grown hg1 Fu;have aje:R≠N:=fun e=>vU.elim (fun P=>Fu (by rw[e]; exact P)) (fun P=>by have:=xC.lt; omega);have AB:=tT.grown hg1 Ng;have ajf:g3≠N:=fun e=>vU.elim (fun P=>Ng (by rw[e]; exact P)) (fun P=>by have:=tT.lt; omega);have⟨EG,F5⟩:=Dc yP ql xR;have xS:Fx.Own Ag B 32 14 (bL N (M.an+1) ab) (M.an+1) (evX (aJ M.ev M.an V)):=(ho1.congr (fun j W=>adx j W));have b16:jO (Wi p M) w Ag:=Fx.jO.grow b15 hg1 (fun q u => .inl (.inr (.inr u)));refine Ln ⟨yP,?_⟩;refine bf (pt p)<|bf (pf p 1)<|gF<|jm tV 1 (bL N (M.an+1) ab) fun FZ BF s16 z9 => ?_;have zQ:aS FZ p 2 (OL (.slice M.la (M.n) (M.lc)) (bL N (M.an+1) ab)) 44:=BF.congr (agM _ _ _);have yQ:=gY s16 tV.ty;have⟨IL,EH,EI,F6,F7,BG⟩:=Rc yQ BD EF AB EG F5 xS;have b17:=b16.then s16 (.inl (.inl rfl));refine Ln<|bR<|ay<|Lv (.agg (aC 14 (bS V))) (gI EI.aI 0)<|fH EH 0 (h1:=(iK _)) fun Gt EJ Ji z10 => ?_;have BH:aS Gt R 14 (bS V) 32:=aW EJ;have Az:=gY Ji EH.ty;have ET:=lJ Az IL;have zR:=EI.cZ Ji (by omega);have⟨BI,AJ⟩:=Dc Az F6 F7;have IG:=BG.aak Ji (by omega);have Tv:=lJ Az zQ;have b18:=b17.then Ji (.inr sG);refine aD (Wr (⟨.agg (aC 14 (bS V)),rV Tryz.results13 ⟨_,rfl,aY BH.aI (by kernel_rfl) (by kernel_rfl)⟩,?_⟩));have hinv:Inv f.core (T+3660):=by rw[hc3]; exact(GR hVs (d.inv o (by omega))).mono (by omega)
  have eRo:aP V=o:=by unfold aP; omega
  have hk3:f.s.known=aJ (M.ml o).s.known o ((M.ml o).s.known o+1):=(K_ fP.known hc3).trans (by rw[Cg I,eRo]; rfl);exact⟨V,rfl,hV,{ M with pl:=aJ M.pl o t,ml:=aJ M.ml o f,an:=M.an+1,aa:=some ⟨N,0,none⟩,ac:=ab,ev:=aJ M.ev M.an V },{ c:=Tv,l:=AJ,a:=IG,g:=ET.put BI,inv:=(fun i U=>by show Inv (aJ M.ml o f i).core _; unfold aJ; split; exact hinv; exact(d.inv i U).mono (by omega)),wf:=(fun k X=>by have hk2:k<M.an+1:=X; show gy (aJ M.ev M.an V k); unfold aJ; split; exact hV; exact d.wf k (by omega)),may:=(fun k X=>by have hk2:k<M.an+1:=X; show bO (aJ M.ev M.an V k)=true; unfold aJ; split; exact Qo I; exact d.may k (by omega)),sm:=(fun k X=>by have hk2:k<M.an+1:=X; show nY (aJ M.ev M.an V k); unfold aJ; split; exact hVs; exact d.sm k (by omega)),cz:=d.cz.event (o:=o) (by omega) (iZ I) eRo hVd.2.2 (fun q u=>by show(aJ M.ml o f q).s.known=_; unfold aJ; rw[b_ u]) (by show(aJ M.ml o f o).s.known=_; unfold aJ; rw[d_ rfl]; exact hk3),pB:=hpB,n1:=hn1,n6:=hn6 },(by rw[<- Q]; exact⟨rfl,fun q u=>by show aJ M.ml o f q=_; unfold aJ; rw[b_ u],.inr ⟨H,rfl,rfl,I,by show(aJ M.ml o f o).core=_; unfold aJ; rw[d_ rfl]; exact hc3,hVd⟩⟩),z_ _,(fun u=>by rw[H]at u; cases u),b18,YJ.app vU b15.size⟩
 refine Lv aH (nE I)<|aD<|aO<|ay<|av (.agg (aC 14 (fun b=>if b<1 then au 0 else if b<8 then aF 0 else if b<9 then .int .u8 (0)else if b<10 then aF 0 else if b<12 then au 0 else aF 0)))<|fH Dm 0 (h1:=(fun F _=>by show((fun b=>if b<1 then au 0 else if b<8 then aF 0 else if b<9 then .int .u8 (0)else if b<10 then aF 0 else if b<12 then au 0 else aF 0:Nat->Value) F).oneCell'=true; simp only[]; repeat (first|rfl|split))) fun L9 TR Lm z11 => ?_
 have Tx:aS L9 R 14 (fun b=>if b<1 then au 0 else if b<8 then aF 0 else if b<9 then .int .u8 (0)else if b<10 then aF 0 else if b<12 then au 0 else aF 0) 32:=aW TR;have EA:=gY Lm Dm.ty;have Tz:=lJ EA zw;have abI:=yS.cZ Lm Fu;have TA:=lJ EA yT;have TD:=Bz.cZ Lm (by omega);have PE:=lJ EA AA;have b19:=b12.then Lm (.inr sG);refine aD (Wr (sR (⟨.agg (aC 14 (fun b=>if b<1 then au 0 else if b<8 then aF 0 else if b<9 then .int .u8 (0)else if b<10 then aF 0 else if b<12 then au 0 else aF 0)),rV Tryz.results13 ⟨_,rfl,aY Tx.aI (by kernel_rfl) (by kernel_rfl)⟩,?_⟩)));have TG:Fx.Own L9 B 72 1 (.slice M.la (M.n) (M.lc)) M.n (Hl M.pl):=PE.dL (K_ (fun q=>Value.slice q M.n M.lc) K.symm);exact⟨zeroE,K_ (fun z=>Ending.returned (Value.agg z)) (Fx.eU (y:=bS zeroE) fun j W=>by rcases j with _|_|_|_|_|_|_|_|_|_|_|_|_|_|j <;> first|rfl|omega),K5,M,{ c:=Tz,l:=TG,a:=abI,g:=TA,inv:=fun i U=>(d.inv i U).mono (by omega),wf:=d.wf,may:=d.may,sm:=d.sm,cz:=d.cz,pB:=hpB,n1:=hn1,n6:=hn6 },⟨rfl,fun _ _=>rfl,.inl ⟨rfl,rfl,rfl,.inl rfl⟩⟩,by omega,(fun _=>rfl),b19,fun _ h => .inl h⟩
end Go.Proofs.YtahbiajdgealnaaGreatDoor
namespace Go.Proofs.YtahbiajdgealnaaGreatDoor
open Go.RowKit Go.WideShapes Go.ChangeShapes Go.Deep Rt
def Vo:Value->Bool | .bool b=>b|_=>false
theorem QL.int{k:IntKind}{v:Value}(h:QL (some k) v):v = .int k (intOf v)/\(Lit.int k (intOf v)).wf=true:=by
 obtain⟨n,rfl,a⟩:=h; exact⟨rfl,a⟩
theorem QL.bool{v:Value}(h:QL none v):v = .bool (Vo v):=by
 obtain⟨b,rfl⟩:=h; rfl
theorem wf_u8{n:Int}(h:(Lit.int .u8 n).wf=true):0<=n/\n<=255:=by simp[Lit.wf,IntKind.min,IntKind.max,IntKind.bits,IntKind.signed]at h; omega
theorem wf_u16{n:Int}(h:(Lit.int .u16 n).wf=true):0<=n/\n<=65535:=by simp[Lit.wf,IntKind.min,IntKind.max,IntKind.bits,IntKind.signed]at h; omega
theorem adA{n:Int}(h:(Lit.int .u8 n).wf=true) : ∃ m:Nat,n=(m:Int)/\m<=255:=by
 have:=wf_u8 h; exact⟨n.toNat,by omega,by omega⟩
theorem Fx.ou.congr{w:World}{a:Option Addr}{n s:Nat}{x y:Nat->Value}(h:Fx.ou w a n s x)(e : ∀ p,p<n*s->x p=y p):Fx.ou w a n s y:=fun f=>by
 obtain⟨b,j,d,g⟩:=h f;exact⟨b,j,d,fun i c=>by rw[<- e i c]; exact g i c⟩
def Vp:List (Option IntKind) := [some .u8,none,some .u8,some .u8,some .u8,some .u8,some .u16,some .u8,some .u8]
def Vq(X:Nat->Value):F9:=⟨(intOf (X 0)).toNat,Vo (X 1),(intOf (X 2)).toNat,(intOf (X 3)).toNat,(intOf (X 4)).toNat,(intOf (X 5)).toNat,(intOf (X 6)).toNat,(intOf (X 7)).toNat,(intOf (X 8)).toNat⟩
theorem K6{X:Nat->Value}(h : ∀(j:Nat) (k:Option IntKind),Vp[j]? = some k->QL k (X j)):KW (Vq X) /\ ∀ j,j<9->X j=I9 (Vq X) j:=by
 have a : ∀ j,Vp[j]? = some (some .u8)->X j = .int .u8 ((intOf (X j)).toNat:Int)/\(intOf (X j)).toNat<=255:=fun j d=>by
  obtain⟨e,b⟩:=(h j _ d).int;have:=wf_u8 b;exact⟨by rw[Int.toNat_of_nonneg this.1]; exact e,by omega⟩
 have c:X 6 = .int .u16 ((intOf (X 6)).toNat:Int)/\(intOf (X 6)).toNat<=65535:=by
  obtain⟨e,b⟩:=(h 6 (some .u16) rfl).int;have:=wf_u16 b;exact⟨by rw[Int.toNat_of_nonneg this.1]; exact e,by omega⟩
 refine⟨⟨(a 0 rfl).2,(a 2 rfl).2,(a 3 rfl).2,(a 4 rfl).2,(a 5 rfl).2,c.2,(a 7 rfl).2,(a 8 rfl).2⟩,fun j d => ?_⟩
 rcases j with _|_|_|_|_|_|_|_|_|j
 ·exact(a 0 rfl).1
 ·exact(h 1 none rfl).bool
 ·exact(a 2 rfl).1
 ·exact(a 3 rfl).1
 ·exact(a 4 rfl).1
 ·exact(a 5 rfl).1
 ·exact c.1
 ·exact(a 7 rfl).1
 ·exact(a 8 rfl).1
 omega
section
variable {H:Type} {enc:TypeId × Value->H} {P:Program} {w:World}
theorem Qp{t e:TypeId}{a:Option Addr}{len cap D:Nat}{d:DataW H}{r:List MemPlace}(q:P.underlying t=some (.slice e))(b:yc P D e=some Vp)(l:P.cellsOf e=9)
 (h:DataW.Trod enc P w 0 (fun _=>true) true t (.slice a len cap) d r) : ∃ g:Nat->F9,(∀ i,i<len->KW (g i))/\Fx.ou w a len 9 (Fx.flat 9 fun k=>I9 (g k)):=by
 obtain⟨v,n⟩:=h;obtain⟨s,x,u,f,_,_,X,c,m⟩:=Ql q b l (by decide) n;simp[Value.cells]at f;obtain⟨rfl,rfl,rfl⟩:=f;exact⟨fun i=>Vq (X i),fun i o=>(K6 (c i o)).1,m.congr (Fx.bK fun k b j p=>(K6 (c k b)).2 j p)⟩
end
end Go.Proofs.YtahbiajdgealnaaGreatDoor
namespace Go.Proofs.YtahbiajdgealnaaGreatDoor
open Go.RowKit Rt
open Fx (fD eP fJ bD gP gM dD dS gD jB eX jC fU jD je Lv sN Ln Ws Qv Wl Rp Wc Qs Wr Sb Lk Wk rC rV sR Rs Rn Rd Rk Wb Wx Wo Dy Wt qW I4 Qn FM Bc yN zh C9 Dw qo gY zi ng uq uo vO wZ zf Dk Ap rv aC aS bI aM ev cK Stp dH aW flat dA Mp fq aY gX iU bF down iN jO kI iW ou bK bJ cells_one iP bV xk unseen jK iB bY dM bM bQ cu cB gJ gT qb gQ)
set_option maxRecDepth 20000
set_option linter.unusedVariables false
theorem aps{B:Nat}{a b c:World}(h:Below a.heap.size a b)(e:Below B b c)(d:a.heap.size<=B):Below a.heap.size a c:=h.trans (e.mono d)
theorem vF.FN{w w':World}{B p:Nat}{m:kX}{e:List TypeId}(h:vF w B p m)(b:Fx.Dz e w w')(k:(F4.all fun T => !e.contains T)=true):vF w' B p m:=by
 have a : ∀ d∈F4,e.contains d=false:=fun d f=>by
  have:=List.all_eq_true.1 k d f
  simpa using this
 exact { h with
  c:=h.c.FN b (a _ (by decide)),n:=h.n.FN b (a _ (by decide)),g:=h.g.FN b (a _ (by decide)),tc:=h.tc.FN b (a _ (by decide)),t:=h.t.FN b (a _ (by decide)),r:=⟨fun i j=>(h.r.1 i j).FN b (a _ (by decide)),h.r.2⟩ }
section
set_option linter.unusedVariables false
namespace Rt
structure Ab where
 inn:Nat->Bool
 left:Nat->Bool
 own:Nat->Int
 has:Int->Bool
 par:Int->Int
 R:Int->Nat->Int
 gh:Int->Int->Bool
 g:Int->Int->Nat->Int
 ask:Int->Int->Bool
def Ab.up(A:Ab)(x:Int):Nat->Int
 | 0=>x
 | i+1=>A.par (A.up x i)
def Ab.on(A:Ab)(x y:Int):Bool:=A.has y&&(List.range 6).any fun i=>decide (A.up x i=y)
def qE(v:EvM):Int:=jc v.o v.seq
def aV(v:EvM):Nat:=(v.o-1).toNat
def dV(v:EvM):Nat:=(v.dst-1).toNat
def Ab.dl(A:Ab)(v:EvM)(y:Int)(p:Nat):Int :=
 if v.kind=1 then(if y=qE v/\p=aV v then v.aU else 0)
 else if v.kind=2 then(if y=v.node/\p=aV v then v.aU else 0)
 else if v.kind=3 then(if A.on v.node y=true/\p=6+aV v then v.aU else 0)
 else if v.kind=4 then(if A.on (A.g v.o v.of 2) y=true/\p=12+aV v then A.g v.o v.of 3 else 0)
 else if v.kind=5 then(if y=v.node/\p=18+(6*aV v+dV v)then v.aU else 0)
 else 0
def Ab.qp(A:Ab)(v:EvM):Ab where
 inn:=fun j=>A.inn j || (decide (v.kind=6)&&decide (j=dV v))
 left:=fun j=>A.left j || (decide (v.kind=7)&&decide (j=aV v))
 own:=fun j=>A.own j+if v.kind=1/\j=aV v then 1 else 0
 has:=fun y=>A.has y || (decide (v.kind=1)&&decide (y=qE v))
 par:=fun y=>if v.kind=1/\y=qE v then v.node else A.par y
 R:=fun y p=>A.R y p+A.dl v y p
 gh:=fun o r=>A.gh o r || (decide (v.kind=3)&&(decide (o=v.o)&&decide (r=v.req)))
 g:=fun o r j=>if v.kind=3/\o=v.o/\r=v.req then(if j=2 then v.node else if j=3 then v.aU else 0)else if v.kind=4/\o=v.o/\r=v.of/\j=4 then v.req else A.g o r j
 ask:=fun o r=>A.ask o r || ((decide (v.kind=3) || decide (v.kind=4))&&(decide (o=v.o)&&decide (r=v.req)))
structure Ab.Ok(A:Ab):Prop where
 z:A.has 0=false
 p : ∀ y,A.has y=true->A.par y=0\/A.has (A.par y)=true
 p0 : ∀ y,A.has y=false->A.par y=0
 g : ∀ o r,A.gh o r=true->A.has (A.g o r 2)=true
 r0 : ∀ y p,A.has y=false->A.R y p=0
structure Ab.Pre(A:Ab)(v:EvM):Prop where
 n1:v.kind=1->A.has (qE v)=false/\qE v≠0/\(v.node=0\/A.has v.node=true)
 n2:v.kind=2->A.has v.node=true
 n3:v.kind=3->A.has v.node=true/\A.gh v.o v.req=false
 n4:v.kind=4->A.gh v.o v.of=true
 n5:v.kind=5->A.has v.node=true
section
variable {A B:Ab} {u v:EvM} {y:Int}
theorem Ab.Hq(h:A.Ok){x:Int}(hx:A.has x=true) : ∀ i,A.up x i=0\/A.has (A.up x i)=true
 | 0 => .inr hx
 | i+1=>by
   show A.par (A.up x i)=0\/A.has (A.par (A.up x i))=true
   rcases Ab.Hq h hx i with e|e
   ·left; rw[e]; exact h.p0 0 h.z
   ·exact h.p _ e
theorem Ab.Bb(hy:A.has y=true):(A.qp v).has y=true:=by show(A.has y || _)=true; rw[hy]; rfl
theorem Ab.OU(c:A.Pre v)(hy:A.has y=true):(A.qp v).par y=A.par y:=by
 show(if v.kind=1/\y=qE v then v.node else A.par y)=A.par y;rw[b_];rintro ⟨a,b⟩;have:=(c.n1 a).1;rw[<- b,hy]at this; cases this
theorem Ab.Vr(c:A.Pre v):(A.qp v).par 0=A.par 0:=by
 show(if v.kind=1/\(0:Int)=qE v then v.node else A.par 0)=A.par 0;rw[b_];rintro ⟨a,b⟩;exact(c.n1 a).2.1 b.symm
theorem Ab.Vs(h:A.Ok)(a:A.Pre v){x:Int}(hx:A.has x=true) : ∀ i,(A.qp v).up x i=A.up x i
 | 0=>rfl
 | i+1=>by
   show(A.qp v).par ((A.qp v).up x i)=A.par (A.up x i);rw[Ab.Vs h a hx i]
   rcases Ab.Hq h hx i with e|e
   ·rw[e]; exact Ab.Vr a
   ·exact Ab.OU a e
theorem Ab.Vt(h:A.Ok)(b:A.Pre v){x:Int}(hx:A.has x=true)(y:Int):(A.qp v).on x y=A.on x y:=by
 unfold Ab.on;have e:((List.range 6).any fun i=>decide ((A.qp v).up x i=y))=((List.range 6).any fun i=>decide (A.up x i=y)):=by
  congr 1; funext i; rw[Ab.Vs h b hx i]
 rw[e]
 cases hc:(List.range 6).any fun i=>decide (A.up x i=y)
 ·rw[H_,H_]
 rw[Bool.and_true,Bool.and_true];obtain⟨i,_,a⟩:=List.any_eq_true.1 hc;have a:=h_ a;show(A.has y || (decide (v.kind=1)&&decide (y=qE v)))=A.has y
 cases hy:A.has y
 ·rcases Ab.Hq h hx i with e0|e0
  ·rw[a]at e0
   cases c1:decide (v.kind=1)
   ·rfl
   have:=(b.n1 (h_ c1)).2.1;rw[g_ (show ¬ y=qE v by rw[e0]; exact fun q=>this q.symm)]; rfl
  rw[a,hy]at e0; cases e0
 rfl
theorem Ab.K7(f:A.Pre v){o r:Int}(d:A.gh o r=true)(j:Nat)(e:j≠4):(A.qp v).g o r j=A.g o r j:=by
 show(if v.kind=3/\o=v.o/\r=v.req then(if j=2 then v.node else if j=3 then v.aU else 0)else if v.kind=4/\o=v.o/\r=v.of/\j=4 then v.req else A.g o r j)=A.g o r j;rw[b_,b_]
 ·exact fun q=>e q.2.2.2
 rintro ⟨a,b,c⟩;have:=(f.n3 a).2;rw[<- b,<- c,d]at this; cases this
theorem Ab.adB{o r:Int}(a:A.gh o r=true):(A.qp v).gh o r=true:=by show(A.gh o r || _)=true; rw[a]; rfl
theorem Ab.adC(h:A.Ok)(b:A.Pre v):(A.qp v).Ok where
 z:=by
  show(A.has 0 || (decide (v.kind=1)&&decide ((0:Int)=qE v)))=false;rw[h.z,Bool.false_or]
  cases c1:decide (v.kind=1)
  ·rfl
  ·rw[g_ (fun q=>(b.n1 (h_ c1)).2.1 q.symm)]; rfl
 p:=fun y a=>by
  have a:(A.has y || (decide (v.kind=1)&&decide (y=qE v)))=true:=a;show(if v.kind=1/\y=qE v then v.node else A.par y)=0\/(A.qp v).has (if v.kind=1/\y=qE v then v.node else A.par y)=true;by_cases c:v.kind=1/\y=qE v
  ·rw[d_ c];exact(b.n1 c.1).2.2.imp id Ab.Bb
  ·rw[b_ c];have u:A.has y=true:=by
    rcases Bool.or_eq_true_iff.1 a with q|q
    ·exact q
    ·rw[R_]at q; exact L_ ⟨h_ q.1,h_ q.2⟩ c
   exact(h.p y u).imp id Ab.Bb
 p0:=fun y a=>by
  have a:(A.has y || (decide (v.kind=1)&&decide (y=qE v)))=false:=a;rw[Bool.or_eq_false_iff]at a;show(if v.kind=1/\y=qE v then v.node else A.par y)=0;rw[b_]
  ·exact h.p0 y a.1
  ·rintro ⟨s,t⟩;rw[f_ s,f_ t]at a; cases a.2
 g:=fun o r d=>by
  have d:(A.gh o r || (decide (v.kind=3)&&(decide (o=v.o)&&decide (r=v.req))))=true:=d;by_cases c:v.kind=3/\o=v.o/\r=v.req
  ·have:(A.qp v).g o r 2=v.node:=(by show(if v.kind=3/\o=v.o/\r=v.req then _ else _)=v.node; rw[d_ c]; rfl);rw[this]; exact Ab.Bb (b.n3 c.1).1
  ·have k:A.gh o r=true:=by
    rcases Bool.or_eq_true_iff.1 d with q|q
    ·exact q
    ·rw[R_,R_]at q; exact L_ ⟨h_ q.1,h_ q.2.1,h_ q.2.2⟩ c
   rw[Ab.K7 b k 2 (by decide)];exact Ab.Bb (h.g o r k)
 r0:=fun y p a=>by
  have a:(A.has y || (decide (v.kind=1)&&decide (y=qE v)))=false:=a;rw[Bool.or_eq_false_iff]at a;show A.R y p+A.dl v y p=0;rw[h.r0 y p a.1,Int.zero_add];have l : ∀ x,A.on x y=false:=fun x=>by unfold Ab.on; rw[a.1]; rfl
  unfold Ab.dl;by_cases f:v.kind=1
  ·rw[d_ f,b_];rintro ⟨e,_⟩; rw[f_ f,f_ e]at a; cases a.2
  rw[b_ f];by_cases i:v.kind=2
  ·rw[d_ i,b_];rintro ⟨e,_⟩; rw[e,b.n2 i]at a; cases a.1
  rw[b_ i];by_cases m:v.kind=3
  ·rw[d_ m,b_]; rw[l]; exact fun q=>by cases q.1
  rw[b_ m];by_cases n:v.kind=4
  ·rw[d_ n,b_]; rw[l]; exact fun q=>by cases q.1
  rw[b_ n];by_cases j:v.kind=5
  ·rw[d_ j,b_];rintro ⟨e,_⟩; rw[e,b.n5 j]at a; cases a.1
  rw[b_ j]
theorem Ab.Vu(h:A.Ok)(c:A.Pre u)(i:A.Pre v)(y:Int)(p:Nat):(A.qp u).dl v y p=A.dl v y p:=by
 unfold Ab.dl;by_cases d:v.kind=1
 ·rw[d_ d,d_ d]
 rw[b_ d,b_ d];by_cases e:v.kind=2
 ·rw[d_ e,d_ e]
 rw[b_ e,b_ e];by_cases a:v.kind=3
 ·rw[d_ a,d_ a,Ab.Vt h c (i.n3 a).1]
 rw[b_ a,b_ a];by_cases b:v.kind=4
 ·have f:=i.n4 b;rw[d_ b,d_ b,Ab.K7 c f 2 (by decide),Ab.K7 c f 3 (by decide),Ab.Vt h c (h.g _ _ f)]
 rw[b_ b,b_ b]
theorem Ab.Qq(h1:A.inn=B.inn)(a:A.left=B.left)(b:A.own=B.own)(c:A.has=B.has)(d:A.par=B.par)(e:A.R=B.R)(f:A.gh=B.gh)(h:A.g=B.g)(i:A.ask=B.ask):A=B:=by
 cases A; cases B; simp only at h1 a b c d e f h i; subst h1 a b c d e f h i; rfl
theorem Ab.Vv(h:A.Ok)(b:A.Pre u)(d:A.Pre v)(k:u.o≠v.o)(i:u.kind=1->v.kind=1->qE u≠qE v):(A.qp u).qp v=(A.qp v).qp u:=by
 apply Ab.Qq
 ·funext j; exact Bool.or_right_comm _ _ _
 ·funext j; exact Bool.or_right_comm _ _ _
 ·funext j; exact Int.add_right_comm _ _ _
 ·funext y; exact Bool.or_right_comm _ _ _
 ·funext y
  show(if v.kind=1/\y=qE v then v.node else if u.kind=1/\y=qE u then u.node else A.par y)=(if u.kind=1/\y=qE u then u.node else if v.kind=1/\y=qE v then v.node else A.par y);by_cases c:v.kind=1/\y=qE v
  ·rw[d_ c,d_ c,b_];rintro ⟨e,f⟩;exact i e c.1 (f.symm.trans c.2)
  rw[b_ c,b_ c]
 ·funext y p
  show A.R y p+A.dl u y p+(A.qp u).dl v y p=A.R y p+A.dl v y p+(A.qp v).dl u y p;rw[Ab.Vu h b d,Ab.Vu h d b,Int.add_right_comm]
 ·funext o r; exact Bool.or_right_comm _ _ _
 ·funext o r j
  show(if v.kind=3/\o=v.o/\r=v.req then _ else if v.kind=4/\o=v.o/\r=v.of/\j=4 then v.req else if u.kind=3/\o=u.o/\r=u.req then _ else if u.kind=4/\o=u.o/\r=u.of/\j=4 then u.req else A.g o r j) =
   (if u.kind=3/\o=u.o/\r=u.req then _ else if u.kind=4/\o=u.o/\r=u.of/\j=4 then u.req else if v.kind=3/\o=v.o/\r=v.req then _ else if v.kind=4/\o=v.o/\r=v.of/\j=4 then v.req else A.g o r j)
  by_cases c:o=v.o
  ·have a : ¬ o=u.o:=fun q=>k (q.symm.trans c);rw[b_ (show ¬ (u.kind=3/\o=u.o/\r=u.req)from fun q=>a q.2.1),b_ (show ¬ (u.kind=4/\o=u.o/\r=u.of/\j=4)from fun q=>a q.2.1),b_ (show ¬ (u.kind=3/\o=u.o/\r=u.req)from fun q=>a q.2.1),b_ (show ¬ (u.kind=4/\o=u.o/\r=u.of/\j=4)from fun q=>a q.2.1)]
  rw[b_ (show ¬ (v.kind=3/\o=v.o/\r=v.req)from fun q=>c q.2.1),b_ (show ¬ (v.kind=4/\o=v.o/\r=v.of/\j=4)from fun q=>c q.2.1),b_ (show ¬ (v.kind=3/\o=v.o/\r=v.req)from fun q=>c q.2.1),b_ (show ¬ (v.kind=4/\o=v.o/\r=v.of/\j=4)from fun q=>c q.2.1)]
 funext o r; exact Bool.or_right_comm _ _ _
end
end Rt
end
section
set_option linter.unusedVariables false
namespace Rt
def Ch(x:Nat->Int)(a:Nat):Int:=x a-x (6+a)+x (12+a)+(x (18+(6*0+a))+x (18+(6*1+a))+x (18+(6*2+a))+x (18+(6*3+a))+x (18+(6*4+a))+x (18+(6*5+a)))-(x (18+(6*a+0))+x (18+(6*a+1))+x (18+(6*a+2))+x (18+(6*a+3))+x (18+(6*a+4))+x (18+(6*a+5)))
structure Ab.Qr(A:Ab)(v:EvM):Prop where
 inn:A.inn (aV v)=true
 left:A.left (aV v)=false
 pre:A.Pre v
 k1:v.kind=1->A.own (aV v)<5/\v.aU<=140737488355328 /\ ¬ ∀ i,i<4->A.has (A.up v.node i)=true
 k2:v.kind=2->A.R v.node (aV v)+v.aU<=140737488355328
 k3:v.kind=3->A.ask v.o v.req=false /\ ∀ y,A.on v.node y=true->v.aU<=Ch (A.R y) (aV v)
 k4:v.kind=4->A.ask v.o v.req=false/\A.g v.o v.of 4=0 /\ ∀ y,A.on (A.g v.o v.of 2) y=true->A.g v.o v.of 3<=A.R y (6+aV v)-A.R y (12+aV v)
 k5:v.kind=5->A.inn (dV v)=true/\v.aU<=Ch (A.R v.node) (aV v)
def aht(a p:Nat):Prop:=p=a\/p=6+a\/p=12+a \/ ∃ k,k<6/\p=18+(6*a+k)
structure Ab.Le(A B:Ab)(a:Nat):Prop where
 inn : ∀ j,A.inn j=true->B.inn j=true
 left:B.left a=A.left a
 own:B.own a=A.own a
 has : ∀ y,A.has y=true->B.has y=true
 hid : ∀ s,1<=s/\s<1099511627776->B.has (jc ((a:Int)+1) s)=A.has (jc ((a:Int)+1) s)
 par : ∀ y,A.has y=true->B.par y=A.par y
 R1 : ∀ y p,A.has y=true->aht a p->B.R y p=A.R y p
 R2 : ∀ y k,A.has y=true->k<6->A.R y (18+(6*k+a))<=B.R y (18+(6*k+a))
 gh : ∀ o r,A.gh o r=true->B.gh o r=true /\ ∀ j,j≠4->B.g o r j=A.g o r j
 gho : ∀ r,B.gh ((a:Int)+1) r=A.gh ((a:Int)+1) r
 go : ∀ r,B.g ((a:Int)+1) r 4=A.g ((a:Int)+1) r 4
 ask : ∀ r,B.ask ((a:Int)+1) r=A.ask ((a:Int)+1) r
structure Lu(v:EvM):Prop where
 o:1<=v.o/\v.o<=6
 seq:1<=v.seq/\v.seq<1099511627776
 aU:0<=v.aU
 dst:v.kind=5->1<=v.dst/\v.dst<=6
section
variable {A B:Ab} {u v:EvM} {a:Nat} {x y:Int}
theorem Lu.reg(h:Lu v):v.o=(aV v:Int)+1/\aV v<6:=by have:=h.o; unfold aV; omega
theorem Lu.id(h:Lu v):qE v=1099511627776*v.o+v.seq:=by
 unfold qE jc; rw[d_ ⟨h.o.1,h.o.2,h.seq.1,h.seq.2⟩]
theorem Lu.ne(a:Lu u)(b:Lu v)(h:u.o≠v.o):qE u≠qE v:=by
 rw[a.id,b.id]; have:=a.seq; have:=b.seq; have:=a.o; have:=b.o; omega
theorem Ab.Le.refl(A:Ab)(a:Nat):A.Le A a:=⟨fun _ h=>h,rfl,rfl,fun _ h=>h,fun _ _=>rfl,fun _ _=>rfl,fun _ _ _ _=>rfl,fun _ _ _ _=>M_ _,fun _ _ h=>⟨h,fun _ _=>rfl⟩,fun _=>rfl,fun _=>rfl,fun _=>rfl⟩
theorem Ab.Le.up(h:A.Le B a)(b:A.Ok)(c:B.Ok)(hx:A.has x=true) : ∀ i,B.up x i=A.up x i
 | 0=>rfl
 | i+1=>by
   show B.par (B.up x i)=A.par (A.up x i);rw[h.up b c hx i]
   rcases Ab.Hq b hx i with e|e
   ·rw[e,b.p0 0 b.z,c.p0 0 c.z]
   ·exact h.par _ e
theorem Ab.Le.on(h:A.Le B a)(c:A.Ok)(d:B.Ok)(hx:A.has x=true)(y:Int):B.on x y=A.on x y:=by
 unfold Ab.on;have e:((List.range 6).any fun i=>decide (B.up x i=y))=((List.range 6).any fun i=>decide (A.up x i=y)):=by
  congr 1; funext i; rw[h.up c d hx i]
 rw[e]
 cases hc:(List.range 6).any fun i=>decide (A.up x i=y)
 ·rw[H_,H_]
 rw[Bool.and_true,Bool.and_true];obtain⟨i,_,b⟩:=List.any_eq_true.1 hc;have b:=h_ b
 rcases Ab.Hq c hx i with e0|e0
 ·rw[b]at e0; rw[e0,c.z,d.z]
 rw[b]at e0; rw[e0,h.has _ e0]
theorem Ab.Nh(h:A.on x y=true):A.has y=true:=by unfold Ab.on at h; rw[R_]at h; exact h.1
theorem Ab.Le.loc(h:A.Le B a)(ha:a<6)(hy:A.has y=true):Ch (A.R y) a<=Ch (B.R y) a:=by
 have o : ∀ k,k<6->B.R y (18+(6*a+k))=A.R y (18+(6*a+k)):=fun k b=>h.R1 y _ hy (.inr (.inr (.inr ⟨k,b,rfl⟩)));unfold Ch;rw[h.R1 y a hy (.inl rfl),h.R1 y (6+a) hy (.inr (.inl rfl)),h.R1 y (12+a) hy (.inr (.inr (.inl rfl))),o 0 (by omega),o 1 (by omega),o 2 (by omega),o 3 (by omega),o 4 (by omega),o 5 (by omega)];have:=h.R2 y 0 hy (by omega); have:=h.R2 y 1 hy (by omega); have:=h.R2 y 2 hy (by omega); have:=h.R2 y 3 hy (by omega); have:=h.R2 y 4 hy (by omega); have:=h.R2 y 5 hy (by omega);omega
theorem Ab.Le.okE(h:A.Le B (aV v))(l:A.Ok)(m:B.Ok)(t:Lu v)(a:A.Qr v):B.Qr v:=by
 obtain⟨c,p⟩:=t.reg;have P:=a.pre;have w : ∀ r,B.gh v.o r=A.gh v.o r:=fun r=>by rw[c]; exact h.gho r
 have s : ∀ r,B.ask v.o r=A.ask v.o r:=fun r=>by rw[c]; exact h.ask r
 refine⟨h.inn _ a.inn,h.left.trans a.left,⟨fun k => ?_,fun k=>h.has _ (P.n2 k),fun k=>⟨h.has _ (P.n3 k).1,(w _).trans (P.n3 k).2⟩,fun k=>(w _).trans (P.n4 k),fun k=>h.has _ (P.n5 k)⟩,fun k => ?_,fun k => ?_,fun k => ?_,fun k => ?_,fun k=>⟨h.inn _ (a.k5 k).1,Q_ (a.k5 k).2 (h.loc p (P.n5 k))⟩⟩
 ·obtain⟨d,f,j⟩:=P.n1 k;refine⟨?_,f,j.imp (fun q=>q) (h.has _)⟩;have:=h.hid v.seq t.seq;rw[<- c]at this;exact this.trans d
 ·obtain⟨d,f,j⟩:=a.k1 k;refine⟨by rw[h.own]; exact d,f,fun q=>j fun i x => ?_⟩;have n:=q i x
  rcases(P.n1 k).2.2 with e|e
  ·exfalso;have:B.up v.node 0=0:=e;have:=q 0 (by omega);rw[‹B.up v.node 0=0›,m.z]at this; cases this
  rw[h.up l m e i]at n
  rcases Ab.Hq l e i with e0|e0
  ·rw[e0,m.z]at n; cases n
  exact e0
 ·rw[h.R1 _ _ (P.n2 k) (.inl rfl)]; exact a.k2 k
 ·refine⟨(s _).trans (a.k3 k).1,fun y b => ?_⟩;rw[h.on l m (P.n3 k).1]at b;exact Q_ ((a.k3 k).2 y b) (h.loc p (Ab.Nh b))
 obtain⟨d,f,j⟩:=a.k4 k;have u:=(h.gh _ _ (P.n4 k)).2;refine⟨(s _).trans d,by rw[c,h.go,<- c]; exact f,fun y b => ?_⟩;rw[u 2 (by decide),h.on l m (l.g _ _ (P.n4 k))]at b;rw[u 3 (by decide),h.R1 _ _ (Ab.Nh b) (.inr (.inl rfl)),h.R1 _ _ (Ab.Nh b) (.inr (.inr (.inl rfl)))];exact j y b
end
end Rt
end
section
set_option linter.unusedVariables false
namespace Rt
section
variable {A B:Ab} {u v:EvM} {a:Nat} {x y:Int}
theorem Ab.Le.dl(h:A.Le B a)(f:A.Ok)(j:B.Ok)(i:A.Pre u)(y:Int)(p:Nat):B.dl u y p=A.dl u y p:=by
 unfold Ab.dl;by_cases d:u.kind=1
 ·rw[d_ d,d_ d]
 rw[b_ d,b_ d];by_cases e:u.kind=2
 ·rw[d_ e,d_ e]
 rw[b_ e,b_ e];by_cases c:u.kind=3
 ·rw[d_ c,d_ c,h.on f j (i.n3 c).1]
 rw[b_ c,b_ c];by_cases b:u.kind=4
 ·have k:=h.gh _ _ (i.n4 b);rw[d_ b,d_ b,k.2 2 (by decide),k.2 3 (by decide),h.on f j (f.g _ _ (i.n4 b))]
 rw[b_ b,b_ b]
theorem or_mono{p q c:Bool}(h:p=true->q=true)(a:(p || c)=true):(q || c)=true:=by
 cases c
 ·rw[G_]at a ⊢; exact h a
 rw[Bool.or_true]
theorem Ab.Le.both(h:A.Le B a)(f:A.Ok)(i:B.Ok)(n:A.Pre u)(w:B.Pre u):(A.qp u).Le (B.qp u) a:=by
 have m : ∀ y,(A.qp u).has y=true->A.has y=true\/(A.has y=false/\B.has y=false/\u.kind=1/\y=qE u):=fun y b=>by
  have b:(A.has y || (decide (u.kind=1)&&decide (y=qE u)))=true:=b
  cases hc:A.has y
  ·right;rw[hc,Bool.false_or,R_]at b;have k:=h_ b.1; have e:=h_ b.2;exact⟨rfl,e ▸ (w.n1 k).1,k,e⟩
  ·exact .inl rfl
 refine⟨fun j d=>or_mono (h.inn j) d,?_,?_,fun y b=>or_mono (h.has y) b,fun s x => ?_,fun y b => ?_,fun y p b v => ?_,fun y k b t => ?_,fun o r l=>⟨or_mono (fun q=>(h.gh o r q).1) l,fun j d => ?_⟩,fun r => ?_,fun r => ?_,fun r => ?_⟩
 ·show(B.left a || _)=(A.left a || _); rw[h.left]
 ·show B.own a+_=A.own a+_; rw[h.own]
 ·show(B.has _ || _)=(A.has _ || _); rw[h.hid s x]
 ·show(if u.kind=1/\y=qE u then u.node else B.par y)=(if u.kind=1/\y=qE u then u.node else A.par y)
  rcases m y b with q|⟨_,_,k,e⟩
  ·rw[h.par y q]
  rw[d_ ⟨k,e⟩,d_ ⟨k,e⟩]
 ·show B.R y p+B.dl u y p=A.R y p+A.dl u y p;rw[h.dl f i n]
  rcases m y b with q|⟨q1,q2,_,_⟩
  ·rw[h.R1 y p q v]
  rw[f.r0 y p q1,i.r0 y p q2]
 ·show A.R y _+A.dl u y _<=B.R y _+B.dl u y _;rw[h.dl f i n]
  rcases m y b with q|⟨q1,q2,_,_⟩
  ·have:=h.R2 y k q t; omega
  rw[f.r0 y _ q1,i.r0 y _ q2]; exact M_ _
 ·show(if u.kind=3/\o=u.o/\r=u.req then(if j=2 then u.node else if j=3 then u.aU else 0)else if u.kind=4/\o=u.o/\r=u.of/\j=4 then u.req else B.g o r j)=(if u.kind=3/\o=u.o/\r=u.req then(if j=2 then u.node else if j=3 then u.aU else 0)else if u.kind=4/\o=u.o/\r=u.of/\j=4 then u.req else A.g o r j);by_cases c:u.kind=3/\o=u.o/\r=u.req
  ·rw[d_ c,d_ c]
  rw[b_ c,b_ c,b_ (show ¬ (u.kind=4/\o=u.o/\r=u.of/\j=4)from fun q=>d q.2.2.2),b_ (show ¬ (u.kind=4/\o=u.o/\r=u.of/\j=4)from fun q=>d q.2.2.2)];have l:(A.gh o r || (decide (u.kind=3)&&(decide (o=u.o)&&decide (r=u.req))))=true:=l
  rcases Bool.or_eq_true_iff.1 l with q|q
  ·exact(h.gh o r q).2 j d
  rw[R_,R_]at q; exact L_ ⟨h_ q.1,h_ q.2.1,h_ q.2.2⟩ c
 ·show(B.gh _ r || _)=(A.gh _ r || _); rw[h.gho r]
 ·show(if u.kind=3/\(a:Int)+1=u.o/\r=u.req then(if 4=2 then u.node else if 4=3 then u.aU else 0)else if u.kind=4/\(a:Int)+1=u.o/\r=u.of/\4=4 then u.req else B.g _ r 4)=(if u.kind=3/\(a:Int)+1=u.o/\r=u.req then(if 4=2 then u.node else if 4=3 then u.aU else 0)else if u.kind=4/\(a:Int)+1=u.o/\r=u.of/\4=4 then u.req else A.g _ r 4);rw[h.go r]
 show(B.ask _ r || _)=(A.ask _ r || _); rw[h.ask r]
theorem Ab.adD(d:Lu u)(r:aV u≠a)(ha:a<6){p:Nat}(b:aht a p)(y:Int):A.dl u y p=0:=by
 obtain⟨n,s⟩:=d.reg;have j:p≠aV u:=by rcases b with e|e|e|⟨k,hk,e⟩ <;> omega
 have l:p≠6+aV u:=by rcases b with e|e|e|⟨k,hk,e⟩ <;> omega
 have m:p≠12+aV u:=by rcases b with e|e|e|⟨k,hk,e⟩ <;> omega
 unfold Ab.dl;by_cases f:u.kind=1
 ·rw[d_ f,b_ fun q=>j q.2]
 rw[b_ f];by_cases g:u.kind=2
 ·rw[d_ g,b_ fun q=>j q.2]
 rw[b_ g];by_cases h:u.kind=3
 ·rw[d_ h,b_ fun q=>l q.2]
 rw[b_ h];by_cases i:u.kind=4
 ·rw[d_ i,b_ fun q=>m q.2]
 rw[b_ i];by_cases c:u.kind=5
 ·have o:=d.dst c;rw[d_ c,b_];rintro ⟨_,q⟩;unfold dV at q
  rcases b with e|e|e|⟨k,hk,e⟩ <;> omega
 rw[b_ c]
theorem Ab.ahu(a:Lu u){p:Nat}(d:18<=p)(y:Int):0<=A.dl u y p:=by
 obtain⟨b,e⟩:=a.reg;have c:=a.aU;unfold Ab.dl;split
 ·split <;> omega
 split
 ·split <;> omega
 split
 ·split <;> omega
 split
 ·rw[b_ fun q=>by omega]; omega
 split
 ·split <;> omega
 omega
theorem Ab.Le.step(h:A.Le B a)(x:B.Ok)(c:Lu u)(m:B.Pre u)(e:aV u≠a)(ha:a<6):A.Le (B.qp u) a:=by
 obtain⟨w,z⟩:=c.reg;have no : ¬ (a:Int)+1=u.o:=by omega
 refine⟨fun j d => ?_,?_,?_,fun y b=>Ab.Bb (h.has y b),fun s f => ?_,fun y b=>(Ab.OU m (h.has y b)).trans (h.par y b),fun y p b l => ?_,fun y k b v => ?_,fun o r t => ?_,fun r => ?_,fun r => ?_,fun r => ?_⟩
 ·show(B.inn j || _)=true; rw[h.inn j d]; rfl
 ·show(B.left a || (decide (u.kind=7)&&decide (a=aV u)))=A.left a;rw[g_ (show ¬ a=aV u from fun q=>e q.symm),H_,G_]; exact h.left
 ·show B.own a+(if u.kind=1/\a=aV u then 1 else 0)=A.own a;rw[b_ fun q=>e q.2.symm,C_]; exact h.own
 ·show(B.has _ || (decide (u.kind=1)&&decide (jc ((a:Int)+1) s=qE u)))=_;rw[g_ (show ¬ jc ((a:Int)+1) s=qE u from fun q=>by
   rw[c.id]at q; unfold jc at q; rw[d_ ⟨by omega,by omega,f.1,f.2⟩]at q; have:=c.seq; omega),H_,G_]
  exact h.hid s f
 ·show B.R y p+B.dl u y p=A.R y p;rw[Ab.adD c e ha l,C_]; exact h.R1 y p b l
 ·show A.R y _<=B.R y _+B.dl u y _;have:=h.R2 y k b v;have:=Ab.ahu (A:=B) c (p:=18+(6*k+a)) (by omega) y;omega
 ·obtain⟨i,n⟩:=h.gh o r t;exact⟨Ab.adB i,fun j d=>(Ab.K7 m i j d).trans (n j d)⟩
 ·show(B.gh _ r || (decide (u.kind=3)&&(decide ((a:Int)+1=u.o)&&decide (r=u.req))))=_;rw[g_ no,Bool.false_and,H_,G_]; exact h.gho r
 ·show(if u.kind=3/\(a:Int)+1=u.o/\r=u.req then(if 4=2 then u.node else if 4=3 then u.aU else 0)else if u.kind=4/\(a:Int)+1=u.o/\r=u.of/\4=4 then u.req else B.g _ r 4)=_;rw[b_ fun q=>no q.2.1,b_ fun q=>no q.2.1]; exact h.go r
 show(B.ask _ r || ((decide (u.kind=3) || decide (u.kind=4))&&(decide ((a:Int)+1=u.o)&&decide (r=u.req))))=_;rw[g_ no,Bool.false_and,H_,G_]; exact h.ask r
end
end Rt
end
section
set_option linter.unusedVariables false
namespace Rt
def vG(K:Nat->Int)(v:EvM):Bool:=decide (v.seq<=K (aP v))
def fI(ev:Nat->EvM)(K:Nat->Int)(A0:Ab):Nat->Ab
 | 0=>A0
 | n+1=>if vG K (ev n)=true then(fI ev K A0 n).qp (ev n)else fI ev K A0 n
structure Evs(A0:Ab)(ev:Nat->EvM)(an:Nat):Prop where
 ok0:A0.Ok
 rd : ∀ k,k<an->dI (fT ev k) (ev k)=true
 g : ∀ k,k<an->Lu (ev k)
 dc : ∀ k,k<an->Oe ev an (ev k).deps
 tk : ∀ k,k<an->(fI ev (ev k).deps A0 k).Qr (ev k)
section
variable {A0:Ab} {ev:Nat->EvM} {an n m i j k:Nat} {K K1 K2:Nat->Int}
theorem mI{v:EvM}:vG K v=true<->v.seq<=K (aP v):=by unfold vG; exact O_
theorem Evs.seq(h:Evs A0 ev an)(a:k<an):(ev k).seq=fT ev k (aP (ev k))+1:=(E9 (h.rd k a)).2.1
theorem Evs.mono(h:Evs A0 ev an)(a:j<an)(c:k<an)(e:aP (ev j)=aP (ev k))(b:j<k):(ev j).seq<(ev k).seq:=by
 rw[h.seq a,h.seq c];have:=D5 (ev:=ev) b;rw[e]at this ⊢; omega
theorem Evs.uniq(h:Evs A0 ev an)(b:j<an)(c:k<an)(a:aP (ev j)=aP (ev k))(d:(ev j).seq=(ev k).seq):j=k:=by
 rcases Nat.lt_trichotomy j k with q|q|q
 ·have:=h.mono b c a q; omega
 ·exact q
 have:=h.mono c b a.symm q; omega
theorem Evs.ahead(h:Evs A0 ev an)(a:j<an)(b:k<an)(e:vG (ev k).deps (ev j)=true):j<k:=by
 have e:=mI.1 e;have d:=(E9 (h.rd k b)).2.2 (aP (ev j)) (h.g j a).reg.2;rw[h.seq a]at e;by_cases c:j<k
 ·exact c
 have:=cnt_mono (ev:=ev) (i:=aP (ev j)) (show k<=j by omega); omega
theorem mo(e:vG K (ev n)=true):fI ev K A0 (n+1)=(fI ev K A0 n).qp (ev n):=by show(if _ then _ else _)=_; rw[d_ e]
theorem mJ(e:vG K (ev n)=false):fI ev K A0 (n+1)=fI ev K A0 n:=by show(if _ then _ else _)=_; rw[b_ (by rw[e]; decide)]
theorem Jb(h:Evs A0 ev an)(a:Nat)(ha:a<6)(f : ∀ i,i<6->K1 i<=K2 i) : ∀ m,m<=an->(∀ i,i<=m->(fI ev K1 A0 i).Ok)->(∀ i,i<=m->(fI ev K2 A0 i).Ok)->(∀ i,i<m->vG K1 (ev i)=true->(fI ev K1 A0 i).Qr (ev i))->(∀ i,i<m->vG K2 (ev i)=true->(fI ev K2 A0 i).Qr (ev i)) ->
 (∀ i,i<m->aP (ev i)=a->vG K2 (ev i)=true->vG K1 (ev i)=true)->(fI ev K1 A0 m).Le (fI ev K2 A0 m) a
 | 0,_,_,_,_,_,_=>Ab.Le.refl _ _
 | m+1,hm,o1,o2,v1,v2,ho=>by
   have d:=Jb h a ha f m (by omega) (fun i c=>o1 i (by omega)) (fun i c=>o2 i (by omega)) (fun i c=>v1 i (by omega)) (fun i c=>v2 i (by omega)) (fun i c=>ho i (by omega))
   cases c1:vG K1 (ev m)with
   | true =>
     have b:vG K2 (ev m)=true:=mI.2 (Q_ (mI.1 c1) (f _ (h.g m (by omega)).reg.2));rw[mo c1,mo b];exact d.both (o1 m (by omega)) (o2 m (by omega)) (v1 m (by omega) c1).pre (v2 m (by omega) b).pre
   | false =>
     rw[mJ c1]
     cases b:vG K2 (ev m)with
     | true =>
       rw[mo b];exact d.step (o2 m (by omega)) (h.g m (by omega)) (v2 m (by omega) b).pre (fun e=>by have:=ho m (by omega) e b; rw[c1]at this; cases this) ha
     | false=>rw[mJ b]; exact d
theorem vo(h:Evs A0 ev an) : ∀ n,n<=an -> ∀ K,Oe ev an K->(∀ i,i<=n->(fI ev K A0 i).Ok) /\ ∀ i,i<n->vG K (ev i)=true->(fI ev K A0 i).Qr (ev i)
 | 0,_,K,_=>⟨fun i a=>(show i=0 by omega) ▸ h.ok0,fun i a=>L_ a (u_ _)⟩
 | n+1,hn,K,hc=>by
   obtain⟨o,v⟩:=vo h n (by omega) K hc;have f:vG K (ev n)=true->(fI ev K A0 n).Qr (ev n):=fun c=>by
    obtain⟨l,r⟩:=vo h n (by omega) (ev n).deps (h.dc n (by omega));have d:=h.g n (by omega);have p:=Jb h (aV (ev n)) d.reg.2 (hc.cl n (by omega) (mI.1 c)) n (by omega) l o r v (fun i a e t=>by
     have u:=h.mono (j:=i) (k:=n) (by omega) (by omega) e a;have b:=(E9 (h.rd n (by omega))).1;refine mI.2 ?_;have m:(ev n).deps (aP (ev n))=(ev n).seq-1:=by
      unfold bO at b; simp only[R_,decide_eq_true_eq]at b; exact b.1.1.1.2
     rw[show aP (ev i)=aP (ev n)from e,m]; omega)
    exact p.okE (l n (z_ _)) (o n (z_ _)) d (h.tk n (by omega))
   have s : ∀ i,i<n+1->vG K (ev i)=true->(fI ev K A0 i).Qr (ev i):=fun i a e=>by
    by_cases q:i=n
    ·subst q; exact f e
    ·exact v i (by omega) e
   refine⟨fun i a => ?_,s⟩;by_cases q:i=n+1
   ·subst q
    cases c:vG K (ev n)with
    | true=>rw[mo c]; exact Ab.adC (o n (z_ _)) (f c).pre
    | false=>rw[mJ c]; exact o n (z_ _)
   ·exact o i (by omega)
end
end Rt
end
section
set_option linter.unusedVariables false
namespace Rt
section
variable {A0:Ab} {ev:Nat->EvM} {an n m i j k:Nat} {K:Nat->Int}
theorem Ci(h:Evs A0 ev an)(a:j<an) : ∀ m,j<=m->m<=an->fI ev (ev j).deps A0 m=fI ev (ev j).deps A0 j
 | 0,h1,_=>by obtain rfl:j=0:=(by omega); rfl
 | m+1,h1,h2=>by
   by_cases e:j=m+1
   ·rw[e]
   ·have c:vG (ev j).deps (ev m)=false:=by
     cases q:vG (ev j).deps (ev m)with
     | true=>have:=h.ahead (show m<an by omega) a q; omega
     | false=>rfl
    rw[mJ c];exact Ci h a m (by omega) (by omega)
theorem Vw{v:EvM}(h:bO v=true):v.deps (aP v)=v.seq-1:=by
 unfold bO at h; simp only[R_,decide_eq_true_eq]at h; exact h.1.1.1.2
theorem Hr(h:Evs A0 ev an)(l:Oe ev an K)(b:j<an)(hr:dI K (ev j)=true)(h1:j<=m)(a:m<=an):(fI ev K A0 m).Qr (ev j):=by
 obtain⟨f,q⟩:=vo h m a (ev j).deps (h.dc j b);obtain⟨o,v⟩:=vo h m a K l;obtain⟨n,s,p⟩:=E9 hr;have c:=h.g j b;have d:=Jb h (aV (ev j)) c.reg.2 p m a f o q v (fun i r e k=>by
  refine mI.2 ?_;have:=mI.1 k;rw[show aP (ev i)=aP (ev j)from e]at this ⊢;rw[Vw n]; omega)
 rw[Ci h b m h1 a]at d;exact d.okE (by rw[<- Ci h b m h1 a]; exact f m (z_ _)) (o m (z_ _)) c (h.tk j b)
def Jc(K:Nat->Int)(v:EvM):Nat->Int:=aJ K (aP v) (K (aP v)+1)
theorem Vx(h:Evs A0 ev an)(a:j<an)(hr:dI K (ev j)=true)(hi:i<an)(b:i≠j):vG (Jc K (ev j)) (ev i)=vG K (ev i):=by
 have d:=(E9 hr).2.1;have:vG (Jc K (ev j)) (ev i)=true<->vG K (ev i)=true:=by
  rw[mI,mI];unfold Jc aJ;split
  ·rename_i e;rw[e];constructor
   ·intro q;by_cases c:(ev i).seq<=K (aP (ev j))
    ·exact c
    ·exact L_ (h.uniq hi a e (by omega)) b
   ·intro q; omega
  ·exact Iff.rfl
 cases c1:vG (Jc K (ev j)) (ev i) <;> cases c2:vG K (ev i) <;> simp_all
theorem FD(h:Evs A0 ev an)(a:j<an)(hr:dI K (ev j)=true) : ∀ m,m<=j->fI ev (Jc K (ev j)) A0 m=fI ev K A0 m
 | 0,_=>rfl
 | m+1,hm=>by
   have e:=Vx h a hr (show m<an by omega) (show m≠j by omega)
   cases c:vG K (ev m)with
   | true=>rw[mo (e.trans c),mo c,FD h a hr m (by omega)]
   | false=>rw[mJ (e.trans c),mJ c,FD h a hr m (by omega)]
theorem Ht(h:Evs A0 ev an)(b:Oe ev an K)(a:j<an)(hr:dI K (ev j)=true) : ∀ m,j<m->m<=an->fI ev (Jc K (ev j)) A0 m=(fI ev K A0 m).qp (ev j)
 | 0,h1,_=>L_ h1 (u_ _)
 | m+1,h1,h2=>by
   have r:=(E9 hr).2.1;by_cases e:m=j
   ·subst e;have l:vG (Jc K (ev m)) (ev m)=true:=mI.2 (by unfold Jc aJ; rw[d_ rfl]; omega);have n:vG K (ev m)=false:=by
     cases q:vG K (ev m)with
     | true=>have:=mI.1 q; omega
     | false=>rfl
    rw[mo l,mJ n,FD h a hr m (z_ _)]
   ·have k:=Ht h b a hr m (by omega) (by omega);have f:=Vx h a hr (show m<an by omega) e
    cases c:vG K (ev m)with
    | true =>
      obtain⟨o,v⟩:=vo h (m+1) h2 K b;rw[mo (f.trans c),mo c,k];have i:(ev j).o≠(ev m).o:=fun q=>by
       have d:aP (ev j)=aP (ev m):=(by unfold aP; rw[q]);have s:=h.mono a (show m<an by omega) d (by omega);have p:=mI.1 c;rw[<- d]at p; omega
      exact Ab.Vv (o m (by omega)) (Hr h b a hr (by omega) (by omega)).pre (v m (by omega) c).pre i (fun _ _=>Lu.ne (h.g j a) (h.g m (by omega)) i)
    | false=>rw[mJ (f.trans c),mJ c,k]
theorem YK(h:Evs A0 ev an)(b:Oe ev an K)(a:j<an)(hr:dI K (ev j)=true):fI ev (Jc K (ev j)) A0 an=(fI ev K A0 an).qp (ev j):=Ht h b a hr an a (z_ _)
end
end Rt
end
section
set_option linter.unusedVariables false
namespace Rt
def eF(m:dP):Ab where
 inn:=m.inn
 left:=m.left
 own:=m.own
 has:=m.T.has
 par:=m.T.par
 R:=aZ m
 gh:=iD m
 g:=fun o r j=>if iD m o r=true/\2<=j/\j<=4 then m.g (eT m o r) j else 0
 ask:=gL m
section
variable {m:dP} {T:dK} {x y:Int} {v:EvM}
theorem Hu{x p:Nat->Int} : ∀ {n:Nat} {k:Int},dO x n k=false->ig x p n k=0
 | 0,k,_=>rfl
 | n+1,k,h=>by
   have h:(dO x n k || decide (x n=k))=false:=h;rw[Bool.or_eq_false_iff]at h;show(if x n=k then p n else ig x p n k)=0;rw[b_ (j_ h.2)];exact Hu h.1
def K8(T:dK)(x:Int):Nat->Int
 | 0=>x
 | i+1=>T.par (K8 T x i)
theorem FE(T:dK)(x:Int) : ∀ i,K8 T x (i+1)=K8 T (T.par x) i
 | 0=>rfl
 | i+1=>by show T.par (K8 T x (i+1))=T.par (K8 T (T.par x) i); rw[FE T x i]
theorem Qu(h:T.has x=false):T.path x = []:=by
 have : ¬ T.has x=true:=by rw[h]; decide
 cases e:T.path x with
 | nil=>rfl
 | cons a l=>exact L_ (show jr T.x T.p T.n 4 x = []from kL h) (by rw[show jr T.x T.p T.n 4 x=T.path x from rfl,e]; exact fun q=>by cases q)
theorem Eb(g:T.ok) : ∀ n x,(T.path x).length<=n->(∀ i,i<(T.path x).length->(T.path x).getD i 0=K8 T x i/\T.has (K8 T x i)=true)/\T.has (K8 T x (T.path x).length)=false
 | 0,x,hn=>by
   have e:T.path x = []:=List.length_eq_zero_iff.1 (by omega);rw[e];refine⟨fun i d=>L_ d (u_ _),?_⟩
   cases c:T.has (K8 T x [].length)with
   | false=>rfl
   | true=>rw[dK.step g (show T.has x=true from c)]at e; cases e
 | n+1,x,hn=>by
   cases c:T.has x with
   | false =>
     rw[Qu c];exact⟨fun i d=>L_ d (u_ _),c⟩
   | true =>
     have f:=dK.step g c;have k:(T.path x).length=(T.path (T.par x)).length+1:=(by rw[f]; rfl);obtain⟨h,j⟩:=Eb g n (T.par x) (by omega);refine⟨fun i d => ?_,by rw[k,FE]; exact j⟩
     cases i with
     | zero=>rw[f]; exact⟨rfl,c⟩
     | succ i =>
       rw[FE];obtain⟨a,b⟩:=h i (by omega);refine⟨?_,b⟩;rw[f];exact a
theorem FH(m:dP)(x:Int) : ∀ i,(eF m).up x i=K8 m.T x i
 | 0=>rfl
 | i+1=>by show m.T.par ((eF m).up x i)=m.T.par (K8 m.T x i); rw[FH m x i]
theorem K9(a:T.ok){k:Nat}(h:T.has (K8 T x k)=false) : ∀ i,k<=i->T.has (K8 T x i)=false
 | 0,hi=>by obtain rfl:k=0:=(by omega); exact h
 | i+1,hi=>by
   by_cases e:k=i+1
   ·rw[<- e]; exact h
   ·have:=K9 a h i (by omega);have b:T.par (K8 T x i)=0:=Hu this;show T.has (T.par (K8 T x i))=false;rw[b]; exact Bf.WG a
theorem Cj(j:m.T.ok)(x y:Int):(eF m).on x y=true<->y∈m.T.path x:=by
 obtain⟨h,n⟩:=Eb j _ x (z_ _);have o:=dK.yH (T:=m.T) (k:=x);unfold Ab.on;rw[R_,List.any_eq_true,List.mem_iff_getElem];constructor
 ·rintro ⟨l,i,d,e⟩;have e:=h_ e;rw[FH]at e;have f:i<(m.T.path x).length:=by
   by_cases c:i<(m.T.path x).length
   ·exact c
   ·have:=K9 j n i (by omega);rw[e]at this;rw[show(eF m).has y=m.T.has y from rfl,this]at l; cases l
  refine⟨i,f,?_⟩;have:=(h i f).1;rw[r_,o_ f]at this;exact this.trans e
 rintro ⟨i,d,e⟩;obtain⟨a,b⟩:=h i d;rw[r_,o_ d]at a;have g:K8 m.T x i=y:=a.symm.trans e;refine⟨by rw[<- g]; exact b,i,N_.2 (by omega),f_ (by rw[FH]; exact g)⟩
end
end Rt
end
section
set_option linter.unusedVariables false
namespace Rt
theorem yK{x:Nat->Int}{n:Int}{b:Bool}{a:Int}{off:Nat}(h:(bU x n b a off).2=0):may x=true/\1<=n/\n<=1125899906842624/\b=true/\a=0/\x off+n<=1125899906842624/\(bU x n b a off).1=upd x off (x off+n):=by
 rcases nO x n b a off with ⟨_,c,_⟩|⟨⟨hm,h1,c,hr,he,hx⟩,heq⟩
 ·exact L_ h c
 exact⟨hm,h1,c,hr,he,hx,by rw[heq]⟩
section
variable {m:dP} {x y:Int} {v:EvM}
theorem FI(b:m.T.ok){k:Int}(d:m.T.has k=true)(r:Nat->Int)(y:Int):aZ (BO m k r) y=if y=k then r else aZ m y:=by
 unfold aZ;show(if m.T.has y=true then aM m.R (m.idx k) r (m.idx y)else Fv)=_;by_cases e:y=k
 ·subst e; rw[d_ d,d_ rfl]; unfold aM; rw[d_ rfl]
 rw[b_ e];by_cases c:m.T.has y=true
 ·rw[d_ c,d_ c];unfold aM;rw[b_]
  ·rfl
  intro q;have a:=(dP.CW b c).2;rw[q,(dP.CW b d).2]at a;exact e a.symm
 rw[b_ c,b_ c]
open Classical in
theorem Jd(a:m.T.ok)(f:(Nat->Int)->(Nat->Int) × Int)(x y:Int):aZ (oK m f (m.T.path x)) y=if y∈m.T.path x then(f (aZ m y)).1 else aZ m y:=by
 unfold aZ;show(if m.T.has y=true then(if m.T.x (m.idx y)∈m.T.path x then(f (m.R (m.idx y))).1 else m.R (m.idx y))else Fv)=_;by_cases c:m.T.has y=true
 ·rw[d_ c,d_ c,(dP.CW a c).2]; rfl
 rw[b_ c,b_ c,b_ fun q=>c (dK.nQ a rfl y q)]
theorem yL(b:m.T.ok){f:(Nat->Int)->(Nat->Int) × Int}(h:dz m f (m.T.path x)=0)(hy:y∈m.T.path x):(f (aZ m y)).2=0:=by
 obtain⟨i,a,e⟩:=List.getElem_of_mem hy;have:=Fq h i a;rw[r_,o_ a]at this;rw[<- e];unfold aZ;rw[d_ (dK.nQ b rfl _ (P_ a))];exact this
theorem FJ(h:bO v=true):v.o=(aV v:Int)+1/\aV v<6/\v.o.toNat-1=aV v:=by
 have:=nP h; unfold aV; omega
theorem Je{x:Nat->Int}{off:Nat}{n:Int}(p:Nat):upd x off (x off+n) p=x p+if p=off then n else 0:=by
 unfold upd;by_cases e:p=off
 ·subst e; rw[d_ rfl,d_ rfl]
 rw[b_ e,b_ e,C_]
theorem adE(f:m.T.ok)(k:bO v=true)(j:v.kind=1)(a:iT m v=0)(y:Int)(p:Nat):aZ (CQ m v) y p=aZ m y p+(eF m).dl v y p:=by
 have d:m.T.has (mZ v)=false:=by
  unfold iT at a;split at a
  ·cases a
  ·exact(Ep a).2.1
 have h:qE v=mZ v:=qN k;unfold Ab.dl;rw[d_ j,h];unfold aZ;show(if(m.T.put (mZ v) v.node).has y=true then aM m.R m.T.n (upd (fun _=>0) (aP v) v.aU) (yZ (aM m.T.x m.T.n (mZ v)) (m.T.n+1) y)else Fv) p=_;rw[dK.jw];by_cases e:mZ v=y
 ·subst e;rw[f_ rfl,Bool.or_true,d_ rfl,d,b_ (by decide),KR _ _ _ (fun i g e=>by have:=dK.zC g; rw[e,d]at this; cases this)]
  unfold aM;rw[d_ rfl];show upd (fun _=>0) (aP v) v.aU p=0+_;unfold upd;rw[Int.zero_add];by_cases c:p=aP v
  ·rw[d_ c,d_ ⟨rfl,c⟩]
  rw[b_ c,b_ (fun q=>c q.2)]
 rw[g_ e,G_,b_ (show ¬ (y=mZ v/\p=aV v)from fun q=>e q.1.symm),C_];by_cases c:m.T.has y=true
 ·rw[d_ c,d_ c,KS _ _ e];have b:=(dP.CW f c).1;have b:yZ m.T.x m.T.n y<m.T.n:=b;unfold aM;rw[b_ (by omega)];rfl
 rw[b_ c,b_ c]
theorem YL(f:m.T.ok)(g:bO v=true)(d:v.kind=2)(a:jA m v=0)(y:Int)(p:Nat):aZ (uf m v) y p=aZ m y p+(eF m).dl v y p:=by
 have b:m.T.has v.node=true:=by
  unfold jA at a
  cases c:m.T.has v.node with
  | true=>rfl
  | false=>rw[d_ c]at a; cases a
 unfold Ab.dl;rw[b_ (by rw[d]; decide),d_ d];unfold uf;rw[FI f b];by_cases e:y=v.node
 ·subst e;rw[d_ rfl,Je];unfold aZ;rw[d_ b];show m.R (m.idx v.node) p+(if p=aP v then v.aU else 0)=m.R (m.idx v.node) p+_;by_cases c:p=aP v
  ·rw[d_ c,d_ ⟨rfl,c⟩]
  rw[b_ c,b_ (fun q=>c q.2)]
 rw[b_ e,b_ (fun q=>e q.1),C_]
theorem adF(j:m.T.ok)(z:bO v=true)(f:v.kind=5)(d:jZ m v=0)(y:Int)(p:Nat):aZ (CK m v) y p=aZ m y p+(eF m).dl v y p:=by
 have g:m.T.has v.node=true/\(rP m v).2=0:=by
  unfold jZ at d
  cases c:m.T.has v.node with
  | true =>
    rw[b_ (by rw[c]; decide)]at d;split at d
    ·cases d
    ·exact⟨rfl,d⟩
  | false=>rw[d_ c]at d; cases d
 obtain⟨a,b,s,t,w,x,u,l,n,o,r,k⟩:=AL g.2;have h:aV v=a:=by unfold aV; omega
 have i:dV v=b:=by unfold dV; omega
 unfold Ab.dl;rw[b_ (by rw[f]; decide),b_ (by rw[f]; decide),b_ (by rw[f]; decide),b_ (by rw[f]; decide),d_ f,h,i];unfold CK;rw[FI j g.1];by_cases e:y=v.node
 ·subst e;rw[d_ rfl];unfold rP;rw[k,Je];unfold aZ;rw[d_ g.1];show m.R (m.idx v.node) p+(if p=18+a*6+b then v.aU else 0)=m.R (m.idx v.node) p+_;by_cases c:p=18+a*6+b
  ·rw[d_ c,d_ ⟨rfl,by omega⟩]
  rw[b_ c,b_ (fun q=>c (by omega))]
 rw[b_ e,b_ (fun q=>e q.1),C_]
theorem Vy(a:m.T.ok){f:(Nat->Int)->(Nat->Int) × Int}{x:Int}{n:Int}{off:Nat}(b : ∀ y,y∈m.T.path x->(f (aZ m y)).1=upd (aZ m y) off (aZ m y off+n))(y:Int)(p:Nat):aZ (oK m f (m.T.path x)) y p=aZ m y p+if(eF m).on x y=true/\p=off then n else 0:=by
 rw[Jd a];by_cases c:y∈m.T.path x
 ·rw[d_ c,b y c,Je];by_cases e:p=off
  ·rw[d_ e,d_ ⟨(Cj a x y).2 c,e⟩]
  rw[b_ e,b_ (fun q=>e q.2)]
 rw[b_ c,b_ (fun q=>c ((Cj a x y).1 q.1)),C_]
theorem adG(d:m.T.ok)(g:bO v=true)(b:v.kind=3)(a:jM m v=0)(y:Int)(p:Nat):aZ (kg m v) y p=aZ m y p+(eF m).dl v y p:=by
 have e:dz m (fun x=>bC x v.o v.aU) (m.T.path v.node)=0:=by
  unfold jM at a;split at a
  ·cases a
  split at a
  ·cases a
  exact a
 unfold Ab.dl;rw[b_ (by rw[b]; decide),b_ (by rw[b]; decide),d_ b];refine Vy d (f:=fun x=>bC x v.o v.aU) (x:=v.node) (fun y h => ?_) y p;have c:(bC (aZ m y) v.o v.aU).2=0:=yL d e h;unfold bC at c;show(bC (aZ m y) v.o v.aU).1=_;unfold bC;rw[(yK c).2.2.2.2.2.2,(FJ g).2.2]
theorem adH(i:m.T.ok)(l:bO v=true)(b:v.kind=4)(a:jg m v=0)(y:Int)(p:Nat):aZ (iy m v) y p=aZ m y p+(eF m).dl v y p:=by
 have d:iD m v.o v.of=true/\dz m (fun x=>bG x v.o (m.g (eT m v.o v.of) 3)) (m.T.path (m.g (eT m v.o v.of) 2))=0:=by
  unfold jg at a;split at a
  ·cases a
  split at a
  ·cases a
  rename_i c;refine⟨?_,a⟩
  cases e:iD m v.o v.of with
  | true=>rfl
  | false=>exact L_ (.inl e) c
 have j:(eF m).g v.o v.of 2=m.g (eT m v.o v.of) 2:=d_ ⟨d.1,by decide,by decide⟩;have k:(eF m).g v.o v.of 3=m.g (eT m v.o v.of) 3:=d_ ⟨d.1,by decide,by decide⟩;unfold Ab.dl;rw[b_ (by rw[b]; decide),b_ (by rw[b]; decide),b_ (by rw[b]; decide),d_ b,j,k];refine Vy i (f:=fun x=>bG x v.o (m.g (eT m v.o v.of) 3)) (x:=m.g (eT m v.o v.of) 2) (fun y n => ?_) y p;have h:(bG (aZ m y) v.o (m.g (eT m v.o v.of) 3)).2=0:=yL i d.2 n;unfold bG at h;show(bG (aZ m y) v.o (m.g (eT m v.o v.of) 3)).1=_;unfold bG;rw[(yK h).2.2.2.2.2.2,(FJ l).2.2]
theorem La{m':dP}(a:m'.an=m.an+1)(b:m'.ao=aM m.ao m.an v.o)(c:m'.ar=aM m.ar m.an v.req)(o r:Int):gL m' o r=(gL m o r || (decide (o=v.o)&&decide (r=v.req))):=by
 have:gL m' o r=true<->(gL m o r=true\/(v.o=o/\v.req=r)):=by unfold gL; rw[a,b,c]; exact Fy
 rw[Bool.eq_iff_iff,this,Bool.or_eq_true,R_,O_,O_];exact⟨fun h=>h.imp id fun q=>⟨q.1.symm,q.2.symm⟩,fun h=>h.imp id fun q=>⟨q.1.symm,q.2.symm⟩⟩
theorem Vz{k1 k2:Nat->Int}{n:Nat}{a b o r:Int}(h : ¬ (a=o/\b=r)):wJ (aM k1 n a) (aM k2 n b) (n+1) o r=wJ k1 k2 n o r:=by
 have d : ∀ k,k<=n->wJ (aM k1 n a) (aM k2 n b) k o r=wJ k1 k2 k o r:=fun k=>by
  induction k with
  | zero=>intro _; rfl
  | succ k ih =>
    intro e;show(if aM k1 n a k=o/\aM k2 n b k=r then k else _)=(if k1 k=o/\k2 k=r then k else _);rw[ih (by omega)];have c : ¬ k=n:=(by omega);rw[show aM k1 n a k=k1 k from b_ c,show aM k2 n b k=k2 k from b_ c]
 show(if aM k1 n a n=o/\aM k2 n b n=r then n else wJ (aM k1 n a) (aM k2 n b) n o r)=_;rw[d n (z_ _)];rw[show aM k1 n a n=a from d_ rfl,show aM k2 n b n=b from d_ rfl,b_ h]
theorem VA{k1 k2:Nat->Int}{n:Nat}{a b:Int}:wJ (aM k1 n a) (aM k2 n b) (n+1) a b=n:=by
 show(if aM k1 n a n=a/\aM k2 n b n=b then n else _)=_;unfold aM;rw[d_ ⟨d_ rfl,d_ rfl⟩]
theorem yM(g:Nat->Nat->Int)(n:Nat)(r:Nat->Int)(j:Nat):(fun i=>aM g n r i j)=aM (fun i=>g i j) n (r j):=by
 funext i; unfold aM; split <;> rfl
end
end Rt
end
section
set_option linter.unusedVariables false
namespace Rt
section
variable {m:dP} {x y:Int} {v:EvM}
theorem jh{b c:Bool}(h:c=false):b=(b || c):=by rw[h,G_]
theorem Jp{k:Int}(h:v.kind≠k){c:Bool}:(decide (v.kind=k)&&c)=false:=by rw[g_ h]; rfl
theorem VB(i:m.T.ok)(e:bO v=true)(a:v.kind=1)(h:iT m v=0):eF (CQ m v)=(eF m).qp v:=by
 have d:qE v=mZ v:=qN e;have b:v.kind≠3:=by rw[a]; decide
 have f:v.kind≠4:=by rw[a]; decide
 have k:v.kind≠6:=by rw[a]; decide
 have l:v.kind≠7:=by rw[a]; decide
 apply Ab.Qq
 ·funext j; exact jh (Jp k)
 ·funext j; exact jh (Jp l)
 ·funext j
  show aJ m.own (aP v) (m.own (aP v)+1) j=m.own j+if v.kind=1/\j=aV v then 1 else 0;unfold aJ;by_cases c:j=aP v
  ·rw[d_ c,d_ ⟨a,c⟩,c]
  rw[b_ c,b_ (fun q=>c q.2),C_]
 ·funext y
  show(m.T.put (mZ v) v.node).has y=(m.T.has y || (decide (v.kind=1)&&decide (y=qE v)));rw[dK.jw,d,f_ a,Bool.true_and]
  congr 1
  exact decide_eq_decide.2 ⟨Eq.symm,Eq.symm⟩
 ·funext y
  show(m.T.put (mZ v) v.node).par y=if v.kind=1/\y=qE v then v.node else m.T.par y;rw[dK.sM,d];by_cases c:mZ v=y
  ·rw[d_ c,d_ ⟨a,c.symm⟩]
  rw[b_ c,b_ (fun q=>c q.2.symm)]
 ·funext y p; exact adE i e a h y p
 ·funext o r; exact jh (Jp b)
 ·funext o r j
  show(eF m).g o r j=if v.kind=3/\_ then _ else if v.kind=4/\_ then _ else _;rw[b_ (fun q=>b q.1),b_ (fun q=>f q.1)]
 funext o r
 show gL m o r=(gL m o r || ((decide (v.kind=3) || decide (v.kind=4))&&_));rw[g_ b,g_ f];exact jh rfl
theorem Lb{m':dP}(e:m'.inn=m.inn)(f:m'.left=m.left)(h:m'.own=m.own)(c:m'.T=m.T)(i : ∀ o r,iD m' o r=iD m o r)(k:(eF m').g=(eF m).g)(l : ∀ o r,gL m' o r=gL m o r)(a:v.kind≠1)(b:v.kind≠3)(d:v.kind≠4)(s:v.kind≠6)(t:v.kind≠7)
 (n : ∀ y p,aZ m' y p=aZ m y p+(eF m).dl v y p):eF m'=(eF m).qp v:=by
 apply Ab.Qq
 ·funext j; rw[show(eF m').inn j=m.inn j from congrFun e j]; exact jh (Jp s)
 ·funext j; rw[show(eF m').left j=m.left j from congrFun f j]; exact jh (Jp t)
 ·funext j
  rw[show(eF m').own j=m.own j from congrFun h j];show m.own j=m.own j+if v.kind=1/\j=aV v then 1 else 0;rw[b_ (fun q=>a q.1),C_]
 ·funext y; rw[show(eF m').has y=m.T.has y from by rw[<- c]; rfl]; exact jh (Jp a)
 ·funext y
  rw[show(eF m').par y=m.T.par y from by rw[<- c]; rfl];show _=if v.kind=1/\y=qE v then v.node else m.T.par y;rw[b_ (fun q=>a q.1)]
 ·funext y p; exact n y p
 ·funext o r; rw[show(eF m').gh o r=iD m o r from i o r]; exact jh (Jp b)
 ·funext o r j
  rw[k];show(eF m).g o r j=if v.kind=3/\_ then _ else if v.kind=4/\_ then _ else _;rw[b_ (fun q=>b q.1),b_ (fun q=>d q.1)]
 funext o r
 rw[show(eF m').ask o r=gL m o r from l o r];show gL m o r=(gL m o r || ((decide (v.kind=3) || decide (v.kind=4))&&_));rw[g_ b,g_ d];exact jh rfl
theorem Qw(c:m.T.ok)(d:bO v=true)(a:v.kind=2)(b:jA m v=0):eF (uf m v)=(eF m).qp v :=
 Lb rfl rfl rfl rfl (fun _ _=>rfl) rfl (fun _ _=>rfl) (by rw[a]; decide) (by rw[a]; decide) (by rw[a]; decide) (by rw[a]; decide) (by rw[a]; decide) (YL c d a b)
theorem VD(c:m.T.ok)(d:bO v=true)(a:v.kind=5)(b:jZ m v=0):eF (CK m v)=(eF m).qp v :=
 Lb rfl rfl rfl rfl (fun _ _=>rfl) rfl (fun _ _=>rfl) (by rw[a]; decide) (by rw[a]; decide) (by rw[a]; decide) (by rw[a]; decide) (by rw[a]; decide) (adF c d a b)
theorem Jf{k1 k2:Nat->Int}{a b:Int} : ∀ {n:Nat},A9 k1 k2 n a b=true->wJ k1 k2 n a b<n
 | 0,h=>by cases h
 | n+1,h=>by
   unfold wJ;by_cases c:k1 n=a/\k2 n=b
   ·rw[d_ c]; omega
   ·rw[b_ c];obtain⟨j,g,d,f⟩:=kW.1 h;by_cases e:j=n
    ·subst e; exact L_ ⟨d,f⟩ c
    ·have:=Jf (rR (show j<n by omega) d f); omega
theorem YM(h1:v.kind≠1)(a:v.kind≠2)(b:v.kind≠3)(c:v.kind≠4)(d:v.kind≠5)(A:Ab)(y:Int)(p:Nat):A.dl v y p=0:=by
 unfold Ab.dl;rw[b_ h1,b_ a,b_ b,b_ c,b_ d]
theorem Hw{A B:Ab}(h1:v.kind≠1)(n:v.kind≠2)(a:v.kind≠3)(b:v.kind≠4)(s:v.kind≠5)(c : ∀ j,B.inn j=(A.inn j || (decide (v.kind=6)&&decide (j=dV v))))(d : ∀ j,B.left j=(A.left j || (decide (v.kind=7)&&decide (j=aV v))))(e:B.own=A.own)(f:B.has=A.has)(h:B.par=A.par)(i:B.R=A.R)(k:B.gh=A.gh)(l:B.g=A.g)(m:B.ask=A.ask):B=A.qp v:=by
 apply Ab.Qq
 ·funext j; exact c j
 ·funext j; exact d j
 ·funext j; rw[e]; show A.own j=A.own j+if v.kind=1/\j=aV v then 1 else 0; rw[b_ (fun q=>h1 q.1),C_]
 ·funext y; rw[f]; exact jh (Jp h1)
 ·funext y; rw[h]; show _=if v.kind=1/\y=qE v then v.node else A.par y; rw[b_ (fun q=>h1 q.1)]
 ·funext y p; rw[i]; show _=A.R y p+A.dl v y p; rw[YM h1 n a b s,C_]
 ·funext o r; rw[k]; exact jh (Jp a)
 ·funext o r j
  rw[l];show A.g o r j=if v.kind=3/\_ then _ else if v.kind=4/\_ then _ else _;rw[b_ (fun q=>a q.1),b_ (fun q=>b q.1)]
 funext o r
 rw[m];show A.ask o r=(A.ask o r || ((decide (v.kind=3) || decide (v.kind=4))&&_));rw[g_ a,g_ b];exact jh rfl
theorem Lc{f:Nat->Bool}{k j:Nat}{c:Bool}(a:c=true):aJ f k true j=(f j || (c&&decide (j=k))):=by
 rw[a,Bool.true_and];unfold aJ;by_cases e:j=k
 ·rw[d_ e,f_ e,Bool.or_true]
 rw[b_ e,g_ e,G_]
theorem VE(a:v.kind=6):eF (GZ m v)=(eF m).qp v :=
 Hw (by rw[a]; decide) (by rw[a]; decide) (by rw[a]; decide) (by rw[a]; decide) (by rw[a]; decide) (fun j=>Lc (f_ a)) (fun j=>jh (Jp (by rw[a]; decide))) rfl rfl rfl rfl rfl rfl rfl
theorem Qx(a:v.kind=7):eF (BP m v)=(eF m).qp v :=
 Hw (by rw[a]; decide) (by rw[a]; decide) (by rw[a]; decide) (by rw[a]; decide) (by rw[a]; decide) (fun j=>jh (Jp (by rw[a]; decide))) (fun j=>Lc (k:=aP v) (f_ a)) rfl rfl rfl rfl rfl rfl rfl
theorem VF(z:m.T.ok)(A:Qg m)(u:bO v=true)(b:v.kind=3)(k:jM m v=0):eF (kg m v)=(eF m).qp v:=by
 have G:qE v=mZ v:=qN u;have n:v.kind≠1:=by rw[b]; decide
 have C:v.kind≠4:=by rw[b]; decide
 have D:v.kind≠6:=by rw[b]; decide
 have E:v.kind≠7:=by rw[b]; decide
 have B:gL m v.o v.req=false:=by
  unfold jM at k
  cases c:gL m v.o v.req with
  | false=>rfl
  | true=>rw[d_ c]at k; cases k
 have F:iD m v.o v.req=false:=oQ fun i t e=>by
  have:=A i t;rw[e.1,e.2,B]at this; cases this
 have s : ∀ o r,iD (kg m v) o r=(iD m o r || (decide (o=v.o)&&decide (r=v.req))):=fun o r=>by
  have d:=yM m.g m.gn (pY v) 0;have f:=yM m.g m.gn (pY v) 1;have:iD (kg m v) o r=true<->(iD m o r=true\/(v.o=o/\v.req=r)):=by
   show A9 (fun i=>aM m.g m.gn (pY v) i 0) (fun i=>aM m.g m.gn (pY v) i 1) (m.gn+1) o r=true<->_;rw[d,f]; exact Fy
  rw[Bool.eq_iff_iff,this,Bool.or_eq_true,R_,O_,O_];exact⟨fun h=>h.imp id fun q=>⟨q.1.symm,q.2.symm⟩,fun h=>h.imp id fun q=>⟨q.1.symm,q.2.symm⟩⟩
 have x : ∀ o r,eT (kg m v) o r=wJ (aM (fun i=>m.g i 0) m.gn v.o) (aM (fun i=>m.g i 1) m.gn v.req) (m.gn+1) o r:=fun o r=>by
  have d:=yM m.g m.gn (pY v) 0;have f:=yM m.g m.gn (pY v) 1;show wJ (fun i=>aM m.g m.gn (pY v) i 0) (fun i=>aM m.g m.gn (pY v) i 1) (m.gn+1) o r=_;rw[d,f]; rfl
 apply Ab.Qq
 ·funext j; exact jh (Jp D)
 ·funext j; exact jh (Jp E)
 ·funext j
  show m.own j=m.own j+if v.kind=1/\j=aV v then 1 else 0;rw[b_ (fun q=>n q.1),C_]
 ·funext y; exact jh (Jp n)
 ·funext y
  show m.T.par y=if v.kind=1/\y=qE v then v.node else m.T.par y;rw[b_ (fun q=>n q.1)]
 ·funext y p; exact adG z u b k y p
 ·funext o r
  show iD (kg m v) o r=(iD m o r || (decide (v.kind=3)&&(decide (o=v.o)&&decide (r=v.req))));rw[s,f_ b,Bool.true_and]
 ·funext o r j
  show(if iD (kg m v) o r=true/\2<=j/\j<=4 then(kg m v).g (eT (kg m v) o r) j else 0)=if v.kind=3/\o=v.o/\r=v.req then(if j=2 then v.node else if j=3 then v.aU else 0)else if v.kind=4/\_ then _ else(if iD m o r=true/\2<=j/\j<=4 then m.g (eT m o r) j else 0);rw[s,x];by_cases c:o=v.o/\r=v.req
  ·rw[d_ (show v.kind=3/\o=v.o/\r=v.req from⟨b,c⟩),c.1,c.2,VA,f_ (rfl:v.o=v.o),f_ (rfl:v.req=v.req),Bool.and_self,Bool.or_true];show(if true=true/\2<=j/\j<=4 then aM m.g m.gn (pY v) m.gn j else 0)=_;rw[show aM m.g m.gn (pY v) m.gn=pY v from d_ rfl];by_cases a:j=2
   ·rw[d_ a,a,d_ ⟨rfl,by decide,by decide⟩]; rfl
   rw[b_ a];by_cases l:j=3
   ·rw[d_ l,l,d_ ⟨rfl,by decide,by decide⟩]; rfl
   rw[b_ l];by_cases w:j=4
   ·rw[w,d_ ⟨rfl,by decide,by decide⟩]; rfl
   rw[b_ (by omega)]
  rw[b_ (show ¬ (v.kind=3/\o=v.o/\r=v.req)from fun q=>c q.2),b_ (show ¬ (v.kind=4/\o=v.o/\r=v.of/\j=4)from fun q=>C q.1),Vz (fun q=>c ⟨q.1.symm,q.2.symm⟩)];have:(decide (o=v.o)&&decide (r=v.req))=false:=by
   cases e:(decide (o=v.o)&&decide (r=v.req))with
   | false=>rfl
   | true=>rw[R_,O_,O_]at e; exact L_ e c
  rw[this,G_];by_cases a:iD m o r=true/\2<=j/\j<=4
  ·rw[d_ a,d_ a];obtain⟨i,t,d,f⟩:=kW.1 a.1;have:wJ (fun i=>m.g i 0) (fun i=>m.g i 1) m.gn o r<m.gn:=Jf a.1;show aM m.g m.gn (pY v) _ j=_;unfold aM;rw[b_ (by omega)];rfl
  rw[b_ a,b_ a]
 funext o r
 show gL (kg m v) o r=(gL m o r || ((decide (v.kind=3) || decide (v.kind=4))&&(decide (o=v.o)&&decide (r=v.req))));rw[f_ b,Bool.true_or,Bool.true_and];exact La rfl rfl rfl o r
theorem FK{k1 k2:Nat->Int}{a b:Int} : ∀ {n:Nat},A9 k1 k2 n a b=true->k1 (wJ k1 k2 n a b)=a/\k2 (wJ k1 k2 n a b)=b
 | 0,h=>by cases h
 | n+1,h=>by
   unfold wJ;by_cases c:k1 n=a/\k2 n=b
   ·rw[d_ c]; exact c
   ·rw[b_ c];obtain⟨j,g,d,f⟩:=kW.1 h;by_cases e:j=n
    ·subst e; exact L_ ⟨d,f⟩ c
    ·exact FK (rR (show j<n by omega) d f)
theorem VG(G:m.T.ok)(J:bO v=true)(a:v.kind=4)(b:jg m v=0):eF (iy m v)=(eF m).qp v:=by
 have k:v.kind≠1:=by rw[a]; decide
 have x:v.kind≠3:=by rw[a]; decide
 have K:v.kind≠6:=by rw[a]; decide
 have L:v.kind≠7:=by rw[a]; decide
 have f:iD m v.o v.of=true:=by
  unfold jg at b;split at b
  ·cases b
  split at b
  ·cases b
  rename_i c
  cases e:iD m v.o v.of with
  | true=>rfl
  | false=>exact L_ (.inl e) c
 have M:eT m v.o v.of<m.gn:=Jf f;have h : ∀ i j,j≠4->aM m.g (eT m v.o v.of) (upd (m.g (eT m v.o v.of)) 4 v.req) i j=m.g i j:=fun i j H=>by
  unfold aM;by_cases c:i=eT m v.o v.of
  ·rw[d_ c,c]; unfold upd; rw[b_ H]
  ·rw[b_ c]
 have n:(fun i=>(iy m v).g i 0)=fun i=>m.g i 0:=by funext i; exact h i 0 (by decide)
 have s:(fun i=>(iy m v).g i 1)=fun i=>m.g i 1:=by funext i; exact h i 1 (by decide)
 have w : ∀ o r,iD (iy m v) o r=iD m o r:=fun o r=>by
  show A9 (fun i=>(iy m v).g i 0) (fun i=>(iy m v).g i 1) m.gn o r=_;rw[n,s]; rfl
 have F : ∀ o r,eT (iy m v) o r=eT m o r:=fun o r=>by
  show wJ (fun i=>(iy m v).g i 0) (fun i=>(iy m v).g i 1) m.gn o r=_;rw[n,s]; rfl
 apply Ab.Qq
 ·funext j; exact jh (Jp K)
 ·funext j; exact jh (Jp L)
 ·funext j
  show m.own j=m.own j+if v.kind=1/\j=aV v then 1 else 0;rw[b_ (fun q=>k q.1),C_]
 ·funext y; exact jh (Jp k)
 ·funext y
  show m.T.par y=if v.kind=1/\y=qE v then v.node else m.T.par y;rw[b_ (fun q=>k q.1)]
 ·funext y p; exact adH G J a b y p
 ·funext o r
  show iD (iy m v) o r=(iD m o r || (decide (v.kind=3)&&_));rw[w]; exact jh (Jp x)
 ·funext o r j
  show(if iD (iy m v) o r=true/\2<=j/\j<=4 then(iy m v).g (eT (iy m v) o r) j else 0)=if v.kind=3/\o=v.o/\r=v.req then _ else if v.kind=4/\o=v.o/\r=v.of/\j=4 then v.req else(if iD m o r=true/\2<=j/\j<=4 then m.g (eT m o r) j else 0);rw[w,F,b_ (show ¬ (v.kind=3/\o=v.o/\r=v.req)from fun q=>x q.1)];show(if iD m o r=true/\2<=j/\j<=4 then aM m.g (eT m v.o v.of) (upd (m.g (eT m v.o v.of)) 4 v.req) (eT m o r) j else 0)=_;by_cases c:v.kind=4/\o=v.o/\r=v.of/\j=4
  ·rw[d_ c,c.2.1,c.2.2.1,c.2.2.2,d_ ⟨f,by decide,by decide⟩];unfold aM upd; rw[d_ rfl,d_ rfl]
  rw[b_ c];by_cases d:iD m o r=true/\2<=j/\j<=4
  ·rw[d_ d,d_ d];by_cases l:j=4
   ·have I:eT m o r≠eT m v.o v.of:=fun e=>c ⟨a,by
     obtain⟨z,A⟩:=FK d.1;obtain⟨B,C⟩:=FK f;have t:m.g (eT m o r) 0=o:=z;have D:m.g (eT m v.o v.of) 0=v.o:=B;have u:m.g (eT m o r) 1=r:=A;have E:m.g (eT m v.o v.of) 1=v.of:=C;rw[e]at t u;exact⟨t.symm.trans D,u.symm.trans E,l⟩⟩
    unfold aM; rw[b_ I]
   exact h _ j l
  rw[b_ d,b_ d]
 funext o r
 show gL (iy m v) o r=(gL m o r || ((decide (v.kind=3) || decide (v.kind=4))&&(decide (o=v.o)&&decide (r=v.req))));rw[f_ a,Bool.or_true,Bool.true_and];exact La rfl rfl rfl o r
theorem VH(c:m.T.ok)(j:Qg m)(b:bO v=true)(a:fB m v=0):eF (iJ m v)=(eF m).qp v:=by
 have k:=iY b;unfold fB at a;unfold iJ;by_cases d:v.kind=1
 ·rw[d_ d]at a ⊢; exact VB c b d a
 rw[b_ d]at a ⊢;by_cases e:v.kind=2
 ·rw[d_ e]at a ⊢; exact Qw c b e a
 rw[b_ e]at a ⊢;by_cases f:v.kind=3
 ·rw[d_ f]at a ⊢; exact VF c j b f a
 rw[b_ f]at a ⊢;by_cases g:v.kind=4
 ·rw[d_ g]at a ⊢; exact VG c b g a
 rw[b_ g]at a ⊢;by_cases h:v.kind=5
 ·rw[d_ h]at a ⊢; exact VD c b h a
 rw[b_ h]at a ⊢;by_cases i:v.kind=6
 ·rw[d_ i]; exact VE i
 rw[b_ i]; exact Qx (by omega)
theorem Qy(c:m.T.ok)(d:Qg m)(a:bZ m v=0):eF (iA m v)=(eF m).qp v:=by
 have b:=VH c d (pO a) (pQ a).2.1;unfold iA;rw[d_ a];exact b
end
end Rt
end
section
set_option linter.unusedVariables false
namespace Rt
structure Ab.Sm(A:Ab)(N:Nat):Prop where
 r : ∀ y p,A.R y p<=65536*N
 g : ∀ o r,A.gh o r=true->1<=A.g o r 3/\A.g o r 3<=65536
structure QM(m:dP):Prop where
 n:(m.T.n:Int)=m.own 0+m.own 1+m.own 2+m.own 3+m.own 4+m.own 5
 o : ∀ a,a<6->m.own a<=5
section
variable {A:Ab} {m:dP} {L:fP} {N S:Nat} {x y:Int} {v:EvM}
theorem Ab.Sm.dl(m:A.Sm S)(l:A.Pre v)(k:nY v)(y:Int)(p:Nat):A.dl v y p<=65536:=by
 have b:=k.aU;have a : ∀ {c:Prop} [Decidable c] {n:Int},n<=65536->(if c then n else 0)<=65536:=fun {c} _ {n} h=>by split <;> omega
 unfold Ab.dl;by_cases e:v.kind=1
 ·rw[d_ e]; exact a b
 rw[b_ e];by_cases f:v.kind=2
 ·rw[d_ f]; exact a b
 rw[b_ f];by_cases i:v.kind=3
 ·rw[d_ i]; exact a b
 rw[b_ i];by_cases d:v.kind=4
 ·rw[d_ d]; exact a (m.g _ _ (l.n4 d)).2
 rw[b_ d];by_cases j:v.kind=5
 ·rw[d_ j]; exact a b
 rw[b_ j]; decide
theorem Ab.Sm.qp(b:A.Sm S)(f:A.Pre v)(h:bO v=true)(d:nY v):(A.qp v).Sm (S+1) where
 r:=fun y p=>by
  have i:=b.r y p;have j:=b.dl f d y p;show A.R y p+A.dl v y p<=_;omega
 g:=fun o r a=>by
  have a:(A.gh o r || (decide (v.kind=3)&&(decide (o=v.o)&&decide (r=v.req))))=true:=a;by_cases c:v.kind=3/\o=v.o/\r=v.req
  ·have:(A.qp v).g o r 3=v.aU:=(by show(if v.kind=3/\o=v.o/\r=v.req then _ else _)=v.aU; rw[d_ c]; rfl);rw[this]; exact⟨(kR h (.inr (.inl c.1))).1,d.aU⟩
  ·have e:A.gh o r=true:=by
    rcases Bool.or_eq_true_iff.1 a with q|q
    ·exact q
    ·rw[R_,R_]at q; exact L_ ⟨h_ q.1,h_ q.2.1,h_ q.2.2⟩ c
   rw[Ab.K7 f e 3 (by decide)];exact b.g o r e
theorem QM.row{m':dP}(h:QM m)(a:m'.T=m.T)(b:m'.own=m.own):QM m':=by
 cases m'; cases m; cases a; cases b; exact⟨h.n,h.o⟩
theorem QM.does(h:QM m)(l:bO v=true)(b:fB m v=0):QM (iJ m v):=by
 unfold fB at b;unfold iJ;by_cases c:v.kind=1
 ·rw[d_ c]at b ⊢;have q:m.own (aP v)<5:=by
   unfold iT at b;split at b
   ·cases b
   ·omega
  have r:=mG l;have p:=h.n;refine⟨?_,fun a k => ?_⟩
  ·show((m.T.n+1:Nat):Int)=aJ m.own (aP v) (m.own (aP v)+1) 0+aJ m.own (aP v) (m.own (aP v)+1) 1+aJ m.own (aP v) (m.own (aP v)+1) 2+aJ m.own (aP v) (m.own (aP v)+1) 3+aJ m.own (aP v) (m.own (aP v)+1) 4+aJ m.own (aP v) (m.own (aP v)+1) 5;unfold aJ
   rcases(show aP v=0\/aP v=1\/aP v=2\/aP v=3\/aP v=4\/aP v=5 by omega)with e|e|e|e|e|e <;> rw[e] <;> simp <;> omega
  show aJ m.own (aP v) (m.own (aP v)+1) a<=5;have:=h.o a k;unfold aJ; split <;> omega
 rw[b_ c];by_cases d:v.kind=2
 ·rw[d_ d]; exact h.row rfl rfl
 rw[b_ d];by_cases f:v.kind=3
 ·rw[d_ f]; exact h.row rfl rfl
 rw[b_ f];by_cases g:v.kind=4
 ·rw[d_ g]; exact h.row rfl rfl
 rw[b_ g];by_cases i:v.kind=5
 ·rw[d_ i]; exact h.row rfl rfl
 rw[b_ i];by_cases j:v.kind=6
 ·rw[d_ j]; exact h.row rfl rfl
 rw[b_ j]; exact h.row rfl rfl
theorem QM.apply(h:QM m):QM (iA m v):=by
 unfold iA;by_cases c:bZ m v=0
 ·rw[d_ c]; exact(h.does (pO c) (pQ c).2.1).row rfl rfl
 rw[b_ c]; exact h
theorem ZM(x:Nat->Int)(a:Nat):Rt.L x a=Ch x a:=by
 have e : ∀ i,R x a i=x (18+(6*a+i)):=fun i=>by unfold R; congr 1; omega
 have b:R x 0 a=x (18+(6*0+a)):=by unfold R; congr 1; omega
 have c:R x 1 a=x (18+(6*1+a)):=by unfold R; congr 1; omega
 have d:R x 2 a=x (18+(6*2+a)):=by unfold R; congr 1; omega
 have f:R x 3 a=x (18+(6*3+a)):=by unfold R; congr 1; omega
 have g:R x 4 a=x (18+(6*4+a)):=by unfold R; congr 1; omega
 have h:R x 5 a=x (18+(6*5+a)):=by unfold R; congr 1; omega
 unfold Rt.L Ch;rw[e,e,e,e,e,e,b,c,d,f,g,h];unfold G C F;omega
theorem Ck{x:Nat->Int}(h:may x=true)(b:bO v=true):fE x v.o=Ch x (aV v):=by
 obtain⟨e,a,_⟩:=FJ b;rw[e,nL h _ a,ZM]
theorem yh{x:Nat->Int}{n:Int}{b:Bool}{a:Int}{off:Nat}(h1:may x=true)(c:1<=n)(d:n<=1125899906842624)(e:b=true)(f:a=0)(g:x off+n<=1125899906842624):(bU x n b a off).2=0:=by
 rcases nO x n b a off with ⟨_,_,h⟩|⟨_,h⟩
 ·exact L_ ⟨h1,c,d,e,f,g⟩ h
 rw[h]
theorem C8{f:(Nat->Int)->(Nat->Int) × Int}{r:Nat->Nat->Int} : ∀ {n:Nat},(∀ i,i<n->(f (r i)).2=0)->jH f r n=0
 | 0,_=>rfl
 | n+1,h=>BU (C8 fun i a=>h i (by omega)) (h n (by omega))
theorem FL(c:m.T.ok){f:(Nat->Int)->(Nat->Int) × Int}{x:Int}(h : ∀ y,y∈m.T.path x->(f (aZ m y)).2=0):dz m f (m.T.path x)=0 :=
 C8 fun i a=>by
  have b:(m.T.path x).getD i 0∈m.T.path x:=by
   rw[r_,o_ a]; exact P_ a
  have:=h _ b;unfold aZ at this;rw[d_ (dK.nQ c rfl _ b)]at this;exact this
theorem Ad(h:bO v=true)(b:v.kind=5):1<=v.dst/\v.dst<=6/\v.dst≠v.o:=by
 unfold bO at h;simp only[R_]at h;have a:=h.2;unfold dJ at a;rw[b_ (by omega),b_ (by omega),b_ (by omega),b_ (by omega),d_ b,R_]at a;have:=a.2;unfold lK pI at this;simp at this;omega
theorem YN(a:bO v=true):gH v.o=true:=by have:=nP a; unfold gH; simp; omega
end
structure Tw(m:dP)(L:fP)(N S:Nat):Prop where
 t:Ah m L N
 w:QM m
 s:(eF m).Sm S
 b:S<=1000000
section
variable {m:dP} {L:fP} {N S:Nat} {x y:Int} {v:EvM}
theorem Ah.may(h:Ah m L N)(hy:m.T.has y=true):may (aZ m y)=true:=by
 obtain⟨i,a,e⟩:=(h.s.T.has y).1 hy;unfold aZ;rw[d_ hy,<- e,h.s.row i a];exact h.i.may i a
theorem Tw.cell(h:Tw m L N S)(y:Int)(p:Nat):aZ m y p<=65536000000:=by
 have:=h.s.r y p;have a:=h.b;show(eF m).R y p<=_;omega
theorem Tw.make(h:Tw m L N S)(s:bO v=true)(k:v.kind=1)(j:(eF m).Qr v):iT m v=0:=by
 obtain⟨a,b,c⟩:=j.pre.n1 k;obtain⟨d,e,f⟩:=j.k1 k;have r:qE v=mZ v:=qN s;rw[r]at a b;unfold iT;have d:m.own (aP v)<5:=d;rw[b_ (show ¬ (5<=m.own (aP v)\/140737488355328<v.aU) by omega)];show qJ m.T.x m.T.p m.T.n (mZ v) v.node=0;unfold qJ;have a:dO m.T.x m.T.n (mZ v)=false:=a;rw[b_ b,b_ (by rw[a]; decide)];rw[b_ (show ¬ (¬ v.node=0/\dO m.T.x m.T.n v.node=false)from fun q=>by
  rcases c with c|c
  ·exact q.1 c
  ·have c:dO m.T.x m.T.n v.node=true:=c;rw[q.2]at c; cases c)]
 rw[b_];rintro (q|q)
 ·have y:=h.w.n;have g:=h.w.o;have:=g 0 (by decide); have:=g 1 (by decide); have:=g 2 (by decide); have:=g 3 (by decide); have:=g 4 (by decide); have:=g 5 (by decide);omega
 obtain⟨u,_⟩:=Eb h.t.t _ v.node (z_ _);exact f fun i l=>by
  rw[FH];exact(u i (n_ l q)).2
theorem Tw.make'(h:Tw m L N S)(k:bO v=true)(o:v.kind=1)(a:iT m v=0):(qE v≠0/\(eF m).has (qE v)=false/\(v.node=0\/(eF m).has v.node=true))/\(eF m).own (aV v)<5/\v.aU<=140737488355328 /\ ¬ ∀ i,i<4->(eF m).has ((eF m).up v.node i)=true:=by
 have j:qE v=mZ v:=qN k;unfold iT at a;by_cases c:5<=m.own (aP v)\/140737488355328<v.aU
 ·rw[d_ c]at a; cases a
 rw[b_ c]at a;obtain⟨d,e,f,n,g⟩:=Ep a;rw[j];refine⟨⟨d,e,f⟩,?_,by omega,fun q => ?_⟩
 ·show m.own (aP v)<5;omega
 obtain⟨_,l⟩:=Eb h.t.t _ v.node (z_ _);have:=q _ (show(m.T.path v.node).length<4 from g);rw[FH]at this;have b:m.T.has (K8 m.T v.node (m.T.path v.node).length)=true:=this;rw[l]at b; cases b
theorem Tw.does(h:Tw m L N S)(c:bO v=true)(I:nY v)(j:(eF m).Qr v):fB m v=0:=by
 have k:=h.t.t;have P:=j.pre;have D:=YN c;have G : ∀ y p n,n<=65536->aZ m y p+n<=1125899906842624:=fun y p n U=>by have:=h.cell y p; omega
 unfold fB;by_cases E:v.kind=1
 ·rw[d_ E]; exact h.make c E j
 rw[b_ E];by_cases A:v.kind=2
 ·rw[d_ A];have a:m.T.has v.node=true:=P.n2 A;have:=j.k2 A;have e:(eF m).R v.node (aV v)=m.R (m.idx v.node) (aP v):=by
   show aZ m v.node (aV v)=_;unfold aZ; rw[d_ a]; rfl
  rw[e]at this;unfold jA;rw[b_ (by rw[a]; decide),b_ (by omega)]
 rw[b_ A];by_cases w:v.kind=3
 ·rw[d_ w];have a:m.T.has v.node=true:=(P.n3 w).1;obtain⟨b,i⟩:=j.k3 w;have b:gL m v.o v.req=false:=b;have r:=kR c (.inr (.inl w));unfold jM;rw[b_ (by rw[b]; decide),b_ (by rw[a]; decide)];refine FL (f:=fun x=>bC x v.o v.aU) k fun y u => ?_;have d:=h.t.may (dK.nQ k rfl y u);have:=i y ((Cj k _ y).2 u);have this:v.aU<=Ch (aZ m y) (aV v):=this;refine yh d r.1 r.2 D ?_ (G y _ _ I.aU);unfold qA;rw[Ck d c,g_ (by omega)]; rfl
 rw[b_ w];by_cases z:v.kind=4
 ·rw[d_ z];have a:iD m v.o v.of=true:=P.n4 z;obtain⟨b,i,J⟩:=j.k4 z;have b:gL m v.o v.req=false:=b;have K:(eF m).g v.o v.of 2=m.g (eT m v.o v.of) 2:=d_ ⟨a,by decide,by decide⟩;have H:(eF m).g v.o v.of 3=m.g (eT m v.o v.of) 3:=d_ ⟨a,by decide,by decide⟩;have M:(eF m).g v.o v.of 4=m.g (eT m v.o v.of) 4:=d_ ⟨a,by decide,by decide⟩;have B:=h.s.g _ _ (P.n4 z);rw[K,H]at J;rw[H]at B;rw[M]at i;unfold jg;rw[b_ (by rw[b]; decide),b_ (show ¬ (iD m v.o v.of=false\/m.g (eT m v.o v.of) 4≠0)from fun q=>q.elim (fun q=>by rw[a]at q; cases q) (fun q=>q i))]
  refine FL (f:=fun x=>bG x v.o (m.g (eT m v.o v.of) 3)) k fun y u => ?_;have d:=h.t.may (dK.nQ k rfl y u);have:=J y ((Cj k _ y).2 u);have this:m.g (eT m v.o v.of) 3<=aZ m y (6+aV v)-aZ m y (12+aV v):=this;refine yh d B.1 (by omega) D ?_ (G y _ _ B.2);unfold qB C F;rw[(FJ c).2.2,g_ (by omega)]; rfl
 rw[b_ z];by_cases l:v.kind=5
 ·rw[d_ l];have a:m.T.has v.node=true:=P.n5 l;obtain⟨b,i⟩:=j.k5 l;have b:m.inn (v.dst-1).toNat=true:=b;have i:v.aU<=Ch (aZ m v.node) (aV v):=i;have r:=kR c (.inr (.inr l));have d:=h.t.may a;have O:aZ m v.node=m.R (m.idx v.node):=by unfold aZ; rw[d_ a]; rfl
  have Q:=Ad c l;unfold jZ;rw[b_ (by rw[a]; decide),b_ (by rw[b]; decide)];show(dn (m.R (m.idx v.node)) v.o v.dst v.aU).2=0;rw[<- O];refine yh d r.1 r.2 (by rw[D,show gH v.dst=true by unfold gH; simp; omega]; rfl) ?_ (G _ _ _ I.aU);unfold nK;rw[b_ (fun e=>Q.2.2 e.symm),Ck d c,g_ (by omega)]; rfl
 rw[b_ l];split <;> rfl
theorem Tw.okE(h:Tw m L N S)(D:bO v=true)(h1:m.inn (aP v)=true)(p:m.left (aP v)=false)(d:fB m v=0):(eF m).Qr v:=by
 have B:=h.t.t;unfold fB at d;have no : ∀ {k:Int} {P:Prop},v.kind≠k->v.kind=k->P:=fun a b=>L_ b a;by_cases r:v.kind=1
 ·rw[d_ r]at d;obtain⟨⟨H,I,J⟩,b⟩:=h.make' D r d;have n : ∀ {k:Int} {P:Prop},k≠1->v.kind=k->P:=fun a b=>L_ (b.symm.trans r) a;exact⟨h1,p,⟨fun _=>⟨I,H,J⟩,n (by decide),n (by decide),n (by decide),n (by decide)⟩,fun _=>b,n (by decide),n (by decide),n (by decide),n (by decide)⟩
 rw[b_ r]at d;by_cases w:v.kind=2
 ·rw[d_ w]at d;have n : ∀ {k:Int} {P:Prop},k≠2->v.kind=k->P:=fun a b=>L_ (b.symm.trans w) a;unfold jA at d
  cases f:m.T.has v.node with
  | false=>rw[d_ f]at d; cases d
  | true =>
    rw[b_ (by rw[f]; decide)]at d;have e:(eF m).R v.node (aV v)=m.R (m.idx v.node) (aP v):=by
     show aZ m v.node (aV v)=_;unfold aZ; rw[d_ f]; rfl
    refine⟨h1,p,⟨n (by decide),fun _=>f,n (by decide),n (by decide),n (by decide)⟩,n (by decide),fun _ => ?_,n (by decide),n (by decide),n (by decide)⟩;rw[e];by_cases c:140737488355328<m.R (m.idx v.node) (aP v)+v.aU
    ·rw[d_ c]at d; cases d
    ·omega
 rw[b_ w]at d;by_cases x:v.kind=3
 ·rw[d_ x]at d;have n : ∀ {k:Int} {P:Prop},k≠3->v.kind=k->P:=fun a b=>L_ (b.symm.trans x) a;unfold jM at d
  cases c1:gL m v.o v.req with
  | true=>rw[d_ c1]at d; cases d
  | false =>
    rw[b_ (by rw[c1]; decide)]at d
    cases f:m.T.has v.node with
    | false=>rw[d_ f]at d; cases d
    | true =>
      rw[b_ (by rw[f]; decide)]at d;have W:iD m v.o v.req=false:=oQ fun i u e=>by
       have:=h.t.s.ga i u;rw[e.1,e.2,c1]at this; cases this
      refine⟨h1,p,⟨n (by decide),n (by decide),fun _=>⟨f,W⟩,n (by decide),n (by decide)⟩,n (by decide),n (by decide),fun _=>⟨c1,fun y l => ?_⟩,n (by decide),n (by decide)⟩;have l:=(Cj B _ y).1 l;have q:(bC (aZ m y) v.o v.aU).2=0:=yL B d l;unfold bC at q;have G:=yK q;have j:=G.2.2.2.2.1;unfold qA at j;rw[Ck G.1 D]at j;show v.aU<=Ch (aZ m y) (aV v);by_cases c:Ch (aZ m y) (aV v)<v.aU
      ·rw[f_ c]at j; cases j
      ·omega
 rw[b_ x]at d;by_cases z:v.kind=4
 ·rw[d_ z]at d;have n : ∀ {k:Int} {P:Prop},k≠4->v.kind=k->P:=fun a b=>L_ (b.symm.trans z) a;unfold jg at d
  cases c1:gL m v.o v.req with
  | true=>rw[d_ c1]at d; cases d
  | false =>
    rw[b_ (by rw[c1]; decide)]at d;by_cases A:iD m v.o v.of=false\/m.g (eT m v.o v.of) 4≠0
    ·rw[d_ A]at d; cases d
    ·rw[b_ A]at d;have f:iD m v.o v.of=true:=by
      cases e:iD m v.o v.of with
      | true=>rfl
      | false=>exact L_ (.inl e) A
     have U:m.g (eT m v.o v.of) 4=0:=Classical.byContradiction fun q=>A (.inr q);have K:(eF m).g v.o v.of 2=m.g (eT m v.o v.of) 2:=d_ ⟨f,by decide,by decide⟩;have M:(eF m).g v.o v.of 3=m.g (eT m v.o v.of) 3:=d_ ⟨f,by decide,by decide⟩;have O:(eF m).g v.o v.of 4=m.g (eT m v.o v.of) 4:=d_ ⟨f,by decide,by decide⟩;refine⟨h1,p,⟨n (by decide),n (by decide),n (by decide),fun _=>f,n (by decide)⟩,n (by decide),n (by decide),n (by decide),fun _=>⟨c1,O.trans U,fun y l => ?_⟩,n (by decide)⟩;rw[K]at l;rw[M];have l:=(Cj B _ y).1 l;have q:(bG (aZ m y) v.o (m.g (eT m v.o v.of) 3)).2=0:=yL B d l;unfold bG at q;have G:=yK q;have j:=G.2.2.2.2.1;unfold qB C F at j;rw[(FJ D).2.2]at j;show m.g (eT m v.o v.of) 3<=aZ m y (6+aV v)-aZ m y (12+aV v);by_cases c:aZ m y (6+aV v)-aZ m y (12+aV v)<m.g (eT m v.o v.of) 3
     ·rw[f_ c]at j; cases j
     ·omega
 rw[b_ z]at d;by_cases E:v.kind=5
 ·rw[d_ E]at d;have n : ∀ {k:Int} {P:Prop},k≠5->v.kind=k->P:=fun a b=>L_ (b.symm.trans E) a;unfold jZ at d
  cases f:m.T.has v.node with
  | false=>rw[d_ f]at d; cases d
  | true =>
    rw[b_ (by rw[f]; decide)]at d
    cases u:m.inn (v.dst-1).toNat with
    | false=>rw[d_ u]at d; cases d
    | true =>
      rw[b_ (by rw[u]; decide)]at d;have hm:=h.t.may f;have Q:aZ m v.node=m.R (m.idx v.node):=(by unfold aZ; rw[d_ f]; rfl);obtain⟨a,b,ha,hb,hne,ho,hd,X,Y,V,hM,heq⟩:=AL d;refine⟨h1,p,⟨n (by decide),n (by decide),n (by decide),n (by decide),fun _=>f⟩,n (by decide),n (by decide),n (by decide),n (by decide),fun _=>⟨u,?_⟩⟩;show v.aU<=Ch (aZ m v.node) (aV v);rw[Q,<- ZM,show aV v=a by unfold aV; omega];exact V
 have Z:=iY D;exact⟨h1,p,⟨no r,no w,no x,no z,no E⟩,no r,no w,no x,no z,no E⟩
theorem YO{K:Nat->Int}(h:dI K v=true):lX K v=false:=by
 obtain⟨a,b,c⟩:=E9 h;unfold lX;rw[g_ (show ¬ v.seq<=K (v.o-1).toNat by have b:v.seq=K (v.o-1).toNat+1:=b; omega),H_]
theorem Tw.check(h:Tw m L N S)(i:nY v)(hr:dI m.known v=true):bZ m v=0<->(eF m).Qr v:=by
 have f:=(E9 hr).1;constructor
 ·intro g;obtain⟨a,b,c,d⟩:=pQ g;exact h.okE f c d b
 intro e;unfold bZ;rw[b_ (by rw[f]; decide),b_ (by rw[YO hr]; decide),b_ (by rw[hr]; decide),b_,h.does f i e];rintro (q|q)
 ·have:=e.inn; rw[show(eF m).inn (aV v)=m.inn (aP v)from rfl,q]at this; cases this
 have:=e.left; rw[show(eF m).left (aV v)=m.left (aP v)from rfl,q]at this; cases this
end
end Rt
end
section
set_option linter.unusedVariables false
namespace Rt
def VI(k:Nat):Ab:=eF (xZ k 0 0 0 0 0 0)
structure Ws(k:Nat)(ev:Nat->EvM)(an:Nat):Prop extends Evs (VI k) ev an where
 sm : ∀ i,i<an->nY (ev i)
 an:an<=1000
structure ug(k:Nat)(ev:Nat->EvM)(an:Nat)(L:fP):Prop where
 ex : ∃ m N,Ah m L N/\QM m/\eF m=fI ev L.known (VI k) an
 kc:Oe ev an L.known
section
variable {ev ev':Nat->EvM} {an n k i j:Nat} {K:Nat->Int} {L L':fP} {v:EvM} {m:dP} {N S:Nat} {A:Ab}
theorem adI(h:bO v=true):Lu v:=by
 have a:=nP h;refine⟨⟨a.1,a.2.1⟩,a.2.2,?_,fun d=>⟨(Ad h d).1,(Ad h d).2.1⟩⟩;have i:=iY h;by_cases g:v.kind=2\/v.kind=3\/v.kind=5
 ·have:=(kR h g).1; omega
 have c:rE v=true:=by unfold bO at h; simp only[R_]at h; exact h.1.2
 have b:dJ v=true:=by unfold bO at h; simp only[R_]at h; exact h.2
 by_cases f:v.kind=1
 ·unfold dJ at b;rw[d_ f]at b;simp at b;omega
 have e:v.aU=(kM v).aU:=by unfold rE at c; simp only[R_,decide_eq_true_eq]at c; exact c.1.1.2
 rw[e];unfold kM;rw[b_ f,b_ (by omega),b_ (by omega)];split
 ·exact M_ _
 rw[b_ (by omega)];split <;> exact M_ _
theorem adJ(k:Nat):(VI k).Ok:=⟨rfl,fun _ h=>(nomatch h),fun _ _=>rfl,fun _ _ h=>(nomatch h),fun _ _ _=>rfl⟩
theorem adK(k:Nat):(VI k).Sm 0:=⟨fun _ _=>M_ _,fun _ _ h=>(nomatch h)⟩
theorem ow0(k:Nat):QM (xZ k 0 0 0 0 0 0):=⟨rfl,fun _ _=>by show(0:Int)<=5; decide⟩
theorem Ab.Sm.mono{S':Nat}(h:A.Sm S)(a:S<=S'):A.Sm S':=⟨fun y p=>by have:=h.r y p; omega,h.g⟩
theorem Evs.cz(h:Evs A ev an):Cz 6 an ev (fun _=>fT ev an) where
 rd:=h.rd
 reg:=fun k a=>(h.g k a).reg.2
 own:=fun _ _=>rfl
 kc:=fun _ _=>⟨fun _ _=>M_ _,fun k a _ i b=>Q_ ((E9 (h.rd k a)).2.2 i b) (cnt_mono (by omega))⟩
theorem Ws.fsm(W:Ws k ev an)(a:Oe ev an K) : ∀ n,n<=an->(fI ev K (VI k) n).Sm n
 | 0,_=>adK k
 | n+1,hn=>by
   have b:=W.fsm a n (by omega)
   cases c:vG K (ev n)with
   | true =>
     rw[mo c];exact b.qp ((vo W.toEvs (n+1) hn K a).2 n (by omega) c).pre (E9 (W.rd n (by omega))).1 (W.sm n (by omega))
   | false=>rw[mJ c]; exact b.mono (by omega)
theorem ug.tw(h:ug k ev an L)(W:Ws k ev an) : ∃ m N,Tw m L N an/\eF m=fI ev L.known (VI k) an:=by
 obtain⟨m,N,b,c,a⟩:=h.ex;exact⟨m,N,⟨b,c,by rw[a]; exact W.fsm h.kc an (z_ _),by have:=W.an; omega⟩,a⟩
theorem ug.ready(h:ug k ev an L)(W:Ws k ev an)(c:j<an)(hr:dI L.known (ev j)=true):bP L (ev j)=0:=by
 obtain⟨m,N,a,d⟩:=h.tw W;have b:=Hr W.toEvs h.kc c hr (show j<=an by omega) (z_ _);rw[<- d]at b;rw[<- (a.t.s.apply a.t.t a.t.i (ev j)).1];exact(a.check (W.sm j c) (by rw[a.t.s.known]; exact hr)).2 b
theorem ug.apply(h:ug k ev an L)(W:Ws k ev an)(b:j<an):ug k ev an (aA L (ev j)):=by
 rcases qO L (ev j)with ⟨c,e⟩|⟨c,e⟩
 ·have d:=iZ c;obtain⟨m,N,a,f,g⟩:=h.ex;have l:bZ m (ev j)=0:=(a.s.apply a.t a.i (ev j)).1.trans c;refine⟨⟨iA m (ev j),N+1,a.apply (ev j),f.apply,?_⟩,by rw[e]; exact W.toEvs.cz.step h.kc b d⟩;rw[Qy a.t a.s.ga l,g,e];exact(YK W.toEvs h.kc b d).symm
 rw[e]; exact h
theorem ug.pass(W:Ws k ev an){a:Nat->Int}(h:ug k ev an L) : ∀ j,j<=an->ug k ev an (oh ev a L j)
 | 0,_=>h
 | j+1,hj=>by
   unfold oh;split
   ·exact(h.pass W j (by omega)).apply W (by omega)
   ·exact h.pass W j (by omega)
theorem ug.iR(W:Ws k ev an){a:Nat->Int} : ∀ f L,ug k ev an L->ug k ev an (iR ev an a f L)
 | 0,L,hL=>by unfold Rt.iR; exact hL
 | f+1,L,hL=>by
   unfold Rt.iR;split
   ·exact hL.pass W an (z_ _)
   ·exact ug.iR W f _ (hL.pass W an (z_ _))
theorem ug.new(k:Nat)(ev:Nat->EvM)(an:Nat)(a : ∀ i,i<an->1<=(ev i).seq)(f:Nat):ug k ev an (jW k f).core:=by
 have d : ∀ n,n<=an->fI ev (fun _=>0) (VI k) n=VI k:=fun n=>by
  induction n with
  | zero=>intro _; rfl
  | succ n ih =>
    intro h;have c:vG (fun _=>0) (ev n)=false:=g_ (show ¬ (ev n).seq<=0 by have:=a n (by omega); omega);rw[mJ c]; exact ih (by omega)
 exact⟨⟨xZ k 0 0 0 0 0 0,0,Ah.new k,ow0 k,(d an (z_ _)).symm⟩,fun i b=>E8 an i,fun i b e j g=>L_ (show(ev i).seq<=0 from e) (by have:=a i b; omega)⟩
theorem Cm(h : ∀ i,i<n->ev' i=ev i):fI ev' K A n=fI ev K A n:=by
 induction n with
 | zero=>rfl
 | succ n ih =>
   show(if vG K (ev' n)=true then(fI ev' K A n).qp (ev' n)else fI ev' K A n)=_;rw[ih fun i a=>h i (by omega),h n (by omega)]; rfl
theorem wK{v:EvM} : ∀ i,i<an->aJ ev an v i=ev i:=fun i a=>b_ (by omega)
theorem rT{v:EvM}:aJ ev an v an=v:=d_ rfl
theorem Oe.more(h:Oe ev an K)(g:bO v=true)(l:v.seq=fT ev an (aP v)+1):Oe (aJ ev an v) (an+1) K/\vG K v=false:=by
 have c : ¬ v.seq<=K (aP v):=by have:=h.le _ (mG g); omega
 refine⟨⟨fun i b => ?_,fun i b a j f => ?_⟩,g_ c⟩
 ·have:=h.le i b;have d:=cnt_mono (ev:=aJ ev an v) (j:=an) (k:=an+1) (i:=i) (by omega);rw[wF an (z_ _)]at d;omega
 by_cases e:i=an
 ·rw[e,rT]at a; exact L_ a c
 rw[wK i (by omega)]at a ⊢;exact h.cl i (by omega) a j f
theorem ug.more(h:ug k ev an L)(g:bO v=true)(f:v.seq=fT ev an (aP v)+1):ug k (aJ ev an v) (an+1) L:=by
 obtain⟨m,N,c,d,e⟩:=h.ex;obtain⟨a,b⟩:=h.kc.more g f;refine⟨⟨m,N,c,d,?_⟩,a⟩;rw[mJ (by rw[rT]; exact b),Cm wK];exact e
theorem Ws.more(W:Ws k ev an)(h:ug k ev an L)(u:an<1000)(p:nY v)(n:bP L v=0)(d:v.deps=L.known)(f:v.seq=fT ev an (aP v)+1):Ws k (aJ ev an v) (an+1):=by
 have o:=iZ n;have c:=(E9 o).1;have q : ∀ j,j<=an -> ∀ i,fT (aJ ev an v) j i=fT ev j i:=fun j a i=>wF j a i;have l : ∀ j,j<=an->fT (aJ ev an v) j=fT ev j:=fun j a=>funext (q j a);refine { ok0:=W.ok0,rd:=fun j a => ?_,g:=fun j a => ?_,dc:=fun j a => ?_,tk:=fun j a => ?_,sm:=fun j a => ?_,an:=by omega }
 ·by_cases e:j=an
  ·rw[e,rT,l an (z_ _)];exact MG c f (by rw[d]; exact h.kc.le)
  rw[wK j (by omega),l j (by omega)]; exact W.rd j (by omega)
 ·by_cases e:j=an
  ·rw[e,rT]; exact adI c
  rw[wK j (by omega)]; exact W.g j (by omega)
 ·by_cases e:j=an
  ·rw[e,rT,d]; exact(h.kc.more c f).1
  rw[wK j (by omega)]; exact((W.dc j (by omega)).more c f).1
 ·by_cases e:j=an
  ·rw[e,rT,d,Cm wK];obtain⟨m,N,b,r⟩:=h.tw W;rw[<- r];exact(b.check p (by rw[b.t.s.known]; exact o)).1 ((b.t.s.apply b.t.t b.t.i v).1.trans n)
  rw[wK j (by omega),Cm fun i w=>wK i (by omega)]; exact W.tk j (by omega)
 by_cases e:j=an
 ·rw[e,rT]; exact p
 rw[wK j (by omega)]; exact W.sm j (by omega)
theorem Ws.zero(k:Nat)(ev:Nat->EvM):Ws k ev 0 where
 ok0:=adJ k
 rd:=fun _ h=>L_ h (u_ _)
 g:=fun _ h=>L_ h (u_ _)
 dc:=fun _ h=>L_ h (u_ _)
 tk:=fun _ h=>L_ h (u_ _)
 sm:=fun _ h=>L_ h (u_ _)
 an:=by decide
end
structure WC(M:WM):Prop where
 w:Ws M.n M.ev M.an
 f : ∀ o,o<M.n->ug M.n M.ev M.an (M.ml o).core
theorem WC.new{M:WM}(a:M.an=0)(h : ∀ i,(M.ml i).core=(jW M.n 0).core):WC M:=by
 refine⟨by rw[a]; exact .zero _ _,fun o c=>by rw[h,a]; exact .new _ _ _ (fun i b=>L_ b (u_ _)) 0⟩
theorem WC.do{w':World}{M k:WM}{B p T o:Nat}{x:F9}{v:EvM}(h:WC M)(y:kJ w' B p k T)(j:o<M.n)(a:DoR o x M k v)(z:M.an<1000)(A:(M.ml o).s.known o=fT M.ev M.an o):WC k:=by
 rcases a.c with ⟨u,g,d,b⟩|⟨u,g,d,b,h5,h6,h7,h8⟩
 ·refine⟨by rw[a.n,g,d]; exact h.w,fun q i => ?_⟩;rw[a.n]at i;rw[a.n,g,d];by_cases e:q=o
  ·rw[e]
   rcases b with b|⟨_,b⟩
   ·rw[b]; exact h.f o j
   rw[b]; exact ug.iR h.w _ _ (h.f o j)
  rw[a.oth q e]; exact h.f q i
 have C:=iZ b;have r:=(E9 C).1;have t:aP v=o:=by unfold aP; omega
 have l:v.seq=fT M.ev M.an (aP v)+1:=by rw[t,<- A]; exact h7
 have D:nY v:=by
  have:=y.sm M.an (by omega);rw[d,rT]at this; exact this
 have m:Ws M.n (aJ M.ev M.an v) (M.an+1):=h.w.more (h.f o j) z D b h8 l;refine⟨by rw[a.n,g,d]; exact m,fun q i => ?_⟩;rw[a.n]at i;rw[a.n,g,d];by_cases e:q=o
 ·rw[e,h5];have:=((h.f o j).more r l).apply m (show M.an<M.an+1 by omega);rw[rT]at this;exact this
 rw[a.oth q e]; exact(h.f q i).more r l
end Rt
end
section
set_option linter.unusedVariables false
namespace Rt
structure Ld(L L':fP):Prop where
 inn:L'.inn=L.inn
 left:L'.left=L.left
 kn : ∀ i,i<6->L'.known i=L.known i
 nn:L'.nn=L.nn
 gn:L'.gn=L.gn
 n : ∀ k,k<L.nn->L'.id k=L.id k/\L'.par k=L.par k/\L'.R k=L.R k
 g : ∀ k,k<L.gn -> ∀ p,p<5->L'.g k p=L.g k p
section
variable {ev:Nat->EvM} {an k:Nat} {L L':fP} {m m':dP} {N N':Nat}
theorem fQ.YP(h:fQ m L){q:Nat}(i:q<L.gn):iD m (L.g q 0) (L.g q 1)=true /\ ∀ p,2<=p->p<=4->(eF m).g (L.g q 0) (L.g q 1) p=L.g q p:=by
 obtain⟨j,d,e⟩:=h.g1 q i;have c:iD m (L.g q 0) (L.g q 1)=true:=rR d (by rw[<- e]) (by rw[<- e]);have f:eT m (L.g q 0) (L.g q 1)=j:=yJ h.gi d (by rw[<- e]) (by rw[<- e]);refine⟨c,fun p a b => ?_⟩;rw[show(eF m).g (L.g q 0) (L.g q 1) p=m.g (eT m (L.g q 0) (L.g q 1)) p from d_ ⟨c,a,b⟩,f,e]
theorem Hy{f:Nat->Int}{n i:Nat}(hi:i<n):((List.range n).map f).getD i 0=f i:=by
 rw[r_,o_ (by rw[List.length_map,List.length_range]; exact hi)]; simp
theorem HY{f g:Nat->Int}{n n':Nat}(m : ∀ i j,i<j->j<n->f i<f j)(o : ∀ i j,i<j->j<n'->g i<g j)(h1 : ∀ i,i<n -> ∃ j,j<n'/\g j=f i)(l : ∀ j,j<n' -> ∃ i,i<n/\f i=g j):n'=n /\ ∀ i,i<n->g i=f i:=by
 have e:(List.range n).map f=(List.range n').map g:=uE (by
  rw[List.pairwise_map];exact(List.pairwise_lt_range (n:=n)).imp_of_mem fun {a b} _ hb hab=>m a b hab (N_.1 hb)) (by
  rw[List.pairwise_map];exact(List.pairwise_lt_range (n:=n')).imp_of_mem fun {a b} _ hb hab=>o a b hab (N_.1 hb)) fun x=>by
  rw[List.mem_map,List.mem_map];constructor
  ·rintro ⟨i,c,rfl⟩;obtain⟨j,d,k⟩:=h1 i (N_.1 c);exact⟨j,N_.2 d,k⟩
  ·rintro ⟨j,d,rfl⟩;obtain⟨i,c,h⟩:=l j (N_.1 d);exact⟨i,N_.2 c,h⟩
 have p:n'=n:=by have:=K_ List.length e; rw[List.length_map,List.length_map,List.length_range,List.length_range]at this; exact this.symm
 refine⟨p,fun i c => ?_⟩;have:=K_ (fun z:List Int=>z.getD i 0) e;have:((List.range n).map f).getD i 0=((List.range n').map g).getD i 0:=this;rw[Hy c,Hy (by omega)]at this;exact this.symm
theorem Ah.same(h:Ah m L N)(d:Ah m' L' N')(C:za L)(D:za L')(e:eF m'=eF m)(I : ∀ i,i<6->L'.known i=L.known i):Ld L L':=by
 have B : ∀ y,m'.T.has y=m.T.has y:=fun y=>congrFun (K_ Ab.has e) y;have J : ∀ y,m'.T.par y=m.T.par y:=fun y=>congrFun (K_ Ab.par e) y;have H : ∀ y,aZ m' y=aZ m y:=fun y=>congrFun (K_ Ab.R e) y;have u : ∀ o r,iD m' o r=iD m o r:=fun o r=>congrFun (congrFun (K_ Ab.gh e) o) r;have w : ∀ {m:dP} {L:fP} {N:Nat},Ah m L N -> ∀ i,i<L.nn->m.T.has (L.id i)=true/\aZ m (L.id i)=L.R i:=fun {m L N} h i k=>by
  have a:m.T.has (L.id i)=true:=(h.s.T.has _).2 ⟨i,k,rfl⟩;refine⟨a,?_⟩;unfold aZ;rw[d_ a,h.s.row i k]
 obtain⟨Q,z⟩:=HY (f:=L.id) (g:=L'.id) (n:=L.nn) (n':=L'.nn) h.i.rise d.i.rise (fun i k=>(d.s.T.has _).1 (by rw[B]; exact(w h i k).1)) (fun i k=>(h.s.T.has _).1 (by rw[<- B]; exact(w d i k).1));have F : ∀ {m m':dP} {L L':fP} {N N':Nat},Ah m L N->Ah m' L' N'->(∀ o r,iD m' o r=iD m o r) -> ∀ q,q<L.gn -> ∃ j,j<L'.gn/\nR (L'.g j)=nR (L.g q):=fun {m m' L L' N N'} h d u q t=>by
  have a:=(h.s.YP t).1;rw[<- u]at a;obtain⟨j,O,l,x⟩:=kW.1 a;obtain⟨S,v,G⟩:=d.s.g2 j O;have l:m'.g j 0=L.g q 0:=l;have x:m'.g j 1=L.g q 1:=x;exact⟨S,v,by unfold nR; rw[G,l,x]⟩
 obtain⟨K,M⟩:=HY (f:=fun q=>nR (L.g q)) (g:=fun q=>nR (L'.g q)) (n:=L.gn) (n':=L'.gn) C.up D.up (F h d u) (F d h fun o r=>(u o r).symm);refine⟨by rw[<- h.s.inn,<- d.s.inn]; exact K_ Ab.inn e,by rw[<- h.s.left,<- d.s.left]; exact K_ Ab.left e,I,Q,K,fun i k => ?_,fun q t p W => ?_⟩
 ·have E:i<L'.nn:=by omega
  refine⟨z i k,?_,?_⟩
  ·rw[<- h.s.T.par i k,<- d.s.T.par i E,J,z i k]
  rw[<- (w h i k).2,<- (w d i E).2,H,z i k]
 have v:q<L'.gn:=by omega
 have P:nR (L'.g q)=nR (L.g q):=M q t;have U:=(C.wf q t).1;have V:=(D.wf q v).1;unfold nR at P;unfold kF at U V;have A:L'.g q 0=L.g q 0:=by omega
 have l:L'.g q 1=L.g q 1:=by omega
 by_cases c:2<=p
 ·have a:=(h.s.YP t).2 p c (by omega);have b:=(d.s.YP v).2 p c (by omega);rw[<- a,<- b,A,l,K_ Ab.g e]
 rcases(show p=0\/p=1 by omega)with rfl|rfl
 ·exact A
 exact l
theorem OV{K K':Nat->Int}{A:Ab}(h : ∀ i,i<6->K' i=K i)(a : ∀ i,i<an->aP (ev i)<6) : ∀ n,n<=an->fI ev K' A n=fI ev K A n
 | 0,_=>rfl
 | n+1,hn=>by
   have c:vG K' (ev n)=vG K (ev n):=(by unfold vG; rw[h _ (a n (by omega))]);show(if vG K' (ev n)=true then(fI ev K' A n).qp (ev n)else fI ev K' A n)=_;rw[OV h a n (by omega),c]; rfl
theorem ug.same(h:ug k ev an L)(f:ug k ev an L')(W:Ws k ev an)(j:za L)(l:za L')(a : ∀ i,i<6->L'.known i=L.known i):Ld L L':=by
 obtain⟨m,N,b,o,c⟩:=h.ex;obtain⟨m',N',d,p,e⟩:=f.ex;refine b.same d j l ?_ a;rw[c,e];exact OV a (fun i n=>(W.g i n).reg.2) an (z_ _)
theorem ug.next(h:ug k ev an L)(W:Ws k ev an){i:Nat}(hi:i<an)(b:L.known=fT ev i):bP L (ev i)=0/\(aA L (ev i)).known=fT ev (i+1):=by
 have a:=h.ready W hi (by rw[b]; exact W.rd i hi);refine⟨a,?_⟩;rw[Cg a,b]
 funext q
 unfold aJ;show _=fT ev i q+if aP (ev i)=q then 1 else 0;by_cases e:q=aP (ev i)
 ·rw[d_ e,d_ e.symm,e]
 rw[b_ e,b_ (fun q=>e q.symm),C_]
theorem YQ(W:Ws k ev an) : ∀ i,i<an->1<=(ev i).seq:=fun i a=>(W.g i a).seq.1
theorem ug.some(h:ug k ev an L)(W:Ws k ev an){i:Nat}(hi:i<an):bP L (ev i)=0\/bP L (ev i)=14\/bP L (ev i)=13:=by
 by_cases c:dI L.known (ev i)=true
 ·exact .inl (h.ready W hi c)
 right;have b:=(E9 (W.rd i hi)).1;unfold bP;rw[b_ (by rw[b]; decide)];by_cases a:lX L.known (ev i)=true
 ·rw[d_ a]; exact .inl rfl
 rw[b_ a,d_ (by simpa using c)]; exact .inr rfl
end
end Rt
end
section
set_option linter.unusedVariables false
namespace Rt
section
variable {ev:Nat->EvM} {an k i r:Nat} {K K':Nat->Int} {L:fP} {v:EvM}
theorem VJ(ev:Nat->EvM)(i q:Nat):fT ev (i+1) q=fT ev i q+if aP (ev i)=q then 1 else 0:=rfl
where ael {a b:Int} (h:b<=a):(if a<=b then a else b)=b:=by split <;> omega
theorem VK(L:fP)(v:EvM)(q:Nat):L.known q<=(aA L v).known q:=by
 rcases qO L v with ⟨_,e⟩|⟨_,e⟩
 ·rw[e]; unfold aJ; split
  ·subst_vars; omega
  exact M_ _
 rw[e]; exact M_ _
theorem ug.reach(h:ug k ev an L)(W:Ws k ev an)(hr:r<an)(d : ∀ q,q<6->fT ev r q<=L.known q) : ∀ q,q<6->fT ev (r+1) q<=(aA L (ev r)).known q:=fun q l=>by
 obtain⟨a,b,c⟩:=E9 (W.rd r hr);have i:=mG a;have o:=d q l;have s:=VK L (ev r) q;rw[VJ];by_cases e:aP (ev r)=q
 ·rw[d_ e];by_cases n:(ev r).seq<=L.known q
  ·rw[e]at b; omega
  ·have j:=d _ i;have m:(ev r).seq=L.known (aP (ev r))+1:=(by rw[e]at b j ⊢; omega);have g:=h.ready W hr (MG a m fun p f=>Q_ (c p f) (d p f));rw[Cg g,e];unfold aJ; rw[d_ rfl,e]at *; omega
 ·rw[b_ e]; omega
theorem ug.full(h:ug k ev an L)(b : ∀ q,q<6->fT ev an q<=L.known q) : ∀ q,q<6->L.known q=fT ev an q:=fun q a=>by
 have:=h.kc.le q a; have:=b q a; omega
end
end Rt
end
set_option maxRecDepth 20000
set_option linter.unusedVariables false
theorem Lf(n:Nat)(m:Int)(w:World)(h:m=(n:Int))(j:1<=n)(k:n<=6) :
 Calls Tryz.prog 12 #[au m] w fun e w' => ∃ p M,e = .returned (pt p)/\M.n=n/\M.an=0/\WC M/\kJ w' w.heap.size p M 0/\Below w.heap.size w w':=by
 subst h; exact(Na n w j k).mono fun _ _ ⟨p,M,c,a,b,g,d,f⟩=>⟨p,M,c,a,b,.new b fun i=>by rw[g i,a],d,f⟩
namespace Rt
theorem Ld.st{L L':fP}(h:Ld L L')(d:Option Addr)(e:Nat)(a:Option Addr)(b:Nat) : ∀ p,p<20->pX (Qm L' d e a b) p=pX (Qm L d e a b) p:=fun p f=>by
 unfold pX Qm;simp only[h.inn,h.left,h.nn,h.gn];by_cases c:12<=p/\p<18
 ·rw[h.kn (p-12) (by omega)]
 ·repeat' split
  all_goals first|rfl|omega
end Rt
theorem OJ.same{w:World}{s:DL}{L L':fP}(h:OJ w s L')(d:Ld L L'):OJ w (Qm L s.na s.nc s.ga s.gc) L:=by
 refine⟨rfl,?_,?_⟩
 ·have e:=h.n;rw[d.nn]at e;exact e.congr fun j k=>by
   unfold flat M9;obtain⟨a,b,c⟩:=d.n (j / 56) (by omega);rw[a,b,c]
 have e:=h.g;rw[d.gn]at e;exact e.congr fun j k=>by
  unfold flat OI jf;have g:=d.g (j / 5) (by omega) (j % 5) (I_ _ (by decide));have f:=d.g (j / 5) (by omega) 0 (by decide);have i:=d.g (j / 5) (by omega) 3 (by decide);rw[g,f,i]
set_option maxRecDepth 20000
set_option linter.unusedVariables false
namespace Rt
theorem VL(L:fP)(x i:Int):0<=yg L x i:=by
 unfold yg fE;split
 ·exact M_ 0
 split
 ·rename_i c;rw[R_]at c;obtain⟨a,b,e,d⟩:=oP c.1;rw[d,uP (iw c.2) a b];exact(((jy _).1 c.2).2.1 a b).1
 exact M_ 0
end Rt
section
set_option linter.unusedVariables false
namespace Rt
def Ab.gs(A:Ab)(y:Int):Int:=A.R y 0+A.R y 1+A.R y 2+A.R y 3+A.R y 4+A.R y 5
def Ga(v:EvM)(y:Int):Int:=if v.kind=1/\qE v=y\/v.kind=2/\v.node=y then v.aU else 0
def YR(ev:Nat->EvM)(K:Nat->Int)(y:Int):Nat->Int
 | 0=>0
 | j+1=>YR ev K y j+if vG K (ev j)=true then Ga (ev j) y else 0
def onN(t:Nat->Nat->Int)(tn:Nat)(x y:Int):Nat->Bool
 | 0=>false
 | q+1=>onN t tn x y q || decide (bA t tn q x=y)
def Qz(L:fP)(y:Int)(g:Nat->Int):Int:=if onN L.t L.tn (g 2) y (bT L.t L.tn (g 2))=true/\g 4=0 then g 3 else 0
def Ni(L:fP)(y:Int):Nat->Int
 | 0=>0
 | j+1=>Ni L y j+Qz L y (L.g j)
section
variable {A:Ab} {ev gv:Nat->EvM} {an n k i j:Nat} {K:Nat->Int} {L:fP} {v:EvM} {y x:Int} {m:dP} {N:Nat}
theorem Ab.adM(l:Lu v):(A.qp v).gs y=A.gs y+Ga v y:=by
 have o:=l.reg.2;have e : ∀ p,(A.qp v).R y p=A.R y p+A.dl v y p:=fun _=>rfl;unfold Ab.gs;rw[e,e,e,e,e,e];have s:A.dl v y 0+A.dl v y 1+A.dl v y 2+A.dl v y 3+A.dl v y 4+A.dl v y 5=Ga v y:=by
  have n:(∀ p,p<6->A.dl v y p=0)->Ga v y=0->A.dl v y 0+A.dl v y 1+A.dl v y 2+A.dl v y 3+A.dl v y 4+A.dl v y 5=Ga v y:=fun h d=>by
   rw[d,h 0 (by decide),h 1 (by decide),h 2 (by decide),h 3 (by decide),h 4 (by decide),h 5 (by decide)]; rfl
  have k : ∀ {z:Int},(∀ p,A.dl v y p=if y=z/\p=aV v then v.aU else 0)->Ga v y=(if z=y then v.aU else 0)->A.dl v y 0+A.dl v y 1+A.dl v y 2+A.dl v y 3+A.dl v y 4+A.dl v y 5=Ga v y:=fun {z} h d=>by
   by_cases c:y=z
   ·rw[d,h,h,h,h,h,h,d_ c.symm]
    rcases(show aV v=0\/aV v=1\/aV v=2\/aV v=3\/aV v=4\/aV v=5 by omega)with q|q|q|q|q|q <;> rw[q] <;> simp[c]
   ·have a : ∀ p,A.dl v y p=0:=fun p=>by rw[h,b_ fun q=>c q.1]
    rw[d,a,a,a,a,a,a,b_ (show ¬ z=y from fun q=>c q.symm)]; rfl
  unfold Ab.dl at *;by_cases b:v.kind=1
  ·refine k (z:=qE v) (fun p=>by rw[d_ b]) ?_;unfold Ga;by_cases c:qE v=y
   ·rw[d_ (.inl ⟨b,c⟩),d_ c]
   ·rw[b_ (fun q=>q.elim (fun q=>c q.2) (fun q=>by omega)),b_ c]
  by_cases f:v.kind=2
  ·refine k (z:=v.node) (fun p=>by rw[b_ b,d_ f]) ?_;unfold Ga;by_cases c:v.node=y
   ·rw[d_ (.inr ⟨f,c⟩),d_ c]
   ·rw[b_ (fun q=>q.elim (fun q=>b q.1) (fun q=>c q.2)),b_ c]
  have m:Ga v y=0:=b_ (fun q=>q.elim (fun q=>b q.1) (fun q=>f q.1));refine n (fun p r => ?_) m;rw[b_ b,b_ f];by_cases g:v.kind=3
  ·rw[d_ g,b_ (fun q=>by omega)]
  rw[b_ g];by_cases i:v.kind=4
  ·rw[d_ i,b_ (fun q=>by omega)]
  rw[b_ i];by_cases j:v.kind=5
  ·rw[d_ j,b_ (fun q=>by omega)]
  rw[b_ j]
 omega
theorem YS(b : ∀ i,i<n->Lu (ev i)):(fI ev K (VI k) n).gs y=YR ev K y n:=by
 induction n with
 | zero=>rfl
 | succ n a =>
   have a:=a fun i c=>b i (by omega);show(if vG K (ev n)=true then(fI ev K (VI k) n).qp (ev n)else fI ev K (VI k) n).gs y=YR ev K y n+_;split
   ·rw[Ab.adM (b n (by omega)),a]
   ·rw[a,C_]
theorem Ah.row(h:Ah m L N)(hi:i<L.nn):aZ m (L.id i)=L.R i:=by
 unfold aZ;rw[d_ ((h.s.T.has _).2 ⟨i,hi,rfl⟩),h.s.row i hi]
theorem ug.gs(h:ug k ev an L)(W:Ws k ev an)(hi:i<L.nn):oD (L.R i)=YR ev L.known (L.id i) an:=by
 obtain⟨m,N,a,c,b⟩:=h.ex;rw[<- YS (k:=k) (K:=L.known) (y:=L.id i) W.g,<- b,<- a.row hi];rfl
theorem VN(h:Ah m L N){p q:Nat}(a:p<bT L.t L.tn x)(b:q<bT L.t L.tn x)(e:bA L.t L.tn p x=bA L.t L.tn q x):p=q:=by
 obtain⟨d,c⟩:=h.s.T.path h.t h.i x;rw[<- d]at a b;refine yI (dK.wI h.t x) a b ?_;rw[c p a,c q b,e]
theorem Nj(h:Ah m L N) : ∀ q,q<=bT L.t L.tn x->AQ L.t L.tn x y q=if onN L.t L.tn x y q=true then 1 else 0
 | 0,_=>rfl
 | q+1,hq=>by
   have d:=Nj h q (by omega);show AQ L.t L.tn x y q+_=if(onN L.t L.tn x y q || decide (bA L.t L.tn q x=y))=true then 1 else 0;rw[d];by_cases c:bA L.t L.tn q x=y
   ·rw[d_ c,f_ c,Bool.or_true,d_ rfl,b_,Int.zero_add];intro o;have : ∀ r,r<=q->onN L.t L.tn x y r=true -> ∃ p,p<r/\bA L.t L.tn p x=y:=fun r=>by
     induction r with
     | zero=>intro _ h; cases h
     | succ r ihr =>
       intro f a;have a:(onN L.t L.tn x y r || decide (bA L.t L.tn r x=y))=true:=a
       rcases Bool.or_eq_true_iff.1 a with o1|o1
       ·obtain⟨p,b,e⟩:=ihr (by omega) o1; exact⟨p,by omega,e⟩
       ·exact⟨r,by omega,h_ o1⟩
    obtain⟨p,b,e⟩:=this q (z_ _) o;have:=VN h (show p<bT L.t L.tn x by omega) (show q<bT L.t L.tn x by omega) (e.trans c.symm);omega
   ·rw[b_ c,g_ c,G_,C_]
theorem Lg(h:Ah m L N) : ∀ n,Ni L y n=jG L.t L.tn L.g y n
 | 0=>rfl
 | n+1=>by
   show Ni L y n+Qz L y (L.g n)=jG L.t L.tn L.g y n+lZ L.t L.tn (L.g n) y;rw[Lg h n];refine K_ (fun z=>jG L.t L.tn L.g y n+z) ?_;unfold Qz lZ zX;rw[Nj h _ (z_ _)];by_cases a:L.g n 4=0
   ·rw[d_ a];by_cases c:onN L.t L.tn (L.g n 2) y (bT L.t L.tn (L.g n 2))=true
    ·rw[d_ ⟨c,a⟩,d_ c,Int.mul_one]
    ·rw[b_ fun q=>c q.1,b_ c,Int.mul_zero]
   ·rw[b_ a,b_ fun q=>a q.2]
theorem ug.small(h:ug k ev an L)(W:Ws k ev an){q:Nat}(d:q<L.gn):1<=L.g q 3/\L.g q 3<=65536:=by
 obtain⟨m,N,c,e⟩:=h.tw W;obtain⟨a,b⟩:=c.t.s.YP d;have:=c.s.g _ _ a;rw[b 3 (by decide) (by decide)]at this;exact this
theorem adN(c : ∀ q,q<n->1<=L.g q 3/\L.g q 3<=65536):0<=Ni L y n/\Ni L y n<=65536*n:=by
 induction n with
 | zero=>exact⟨M_ _,M_ _⟩
 | succ n ih =>
   have a:=ih fun i d=>c i (by omega);have b:=c n (by omega);show 0<=Ni L y n+Qz L y (L.g n)/\Ni L y n+Qz L y (L.g n)<=_;unfold Qz; split <;> omega
end
end Rt
end
set_option maxRecDepth 20000
set_option linter.unusedVariables false
theorem Rt.QA(t:Nat->Nat->Int)(tn:Nat)(x:Int):bT t tn x<=1000:=DU _ _
section
set_option linter.unusedVariables false
namespace Rt
def gN(x:Nat->Int):Nat->Int
 | 0=>0
 | m+1=>gN x m+x m
def uN(x:Nat->Int):Nat->Int
 | 0=>0
 | m+1=>uN x m+(x (m+6)-x (m+12))
def FU(L:fP)(y:Int)(q p:Nat):Int:=jG L.t L.tn L.g y q+if L.g q 4=0 then L.g q 3*AQ L.t L.tn (L.g q 2) y p else 0
section
variable {x:Nat->Int} {L:fP} {y:Int} {q p N:Nat} {mm:dP}
theorem ahv(x:Nat->Int)(m:Nat):gN x (m+1)=gN x m+x m:=rfl
theorem ahw(x:Nat->Int)(m:Nat):uN x (m+1)=uN x m+(x (m+6)-x (m+12)):=rfl
theorem apv(x:Nat->Int):gN x 0=0:=rfl
theorem apw(x:Nat->Int):uN x 0=0:=rfl
theorem ZN(h:may x=true) : ∀ m:Nat,m<=6->0<=gN x m/\gN x m<=1125899906842624*(m:Int)
 | 0,_=>⟨M_ _,M_ _⟩
 | m+1,hm=>by
   have a:=ZN h m (by omega);have b:=iw h m (by omega);rw[ahv]; omega
theorem ZO(h:may x=true) : ∀ m:Nat,m<=6 -> -(1125899906842624*(m:Int))<=uN x m/\uN x m<=1125899906842624*(m:Int)
 | 0,_=>⟨M_ _,M_ _⟩
 | m+1,hm=>by
   have a:=ZO h m (by omega);have b:=iw h (m+6) (by omega);have c:=iw h (m+12) (by omega);rw[ahw]; omega
theorem QC(h:may x=true):0<=uN x 6/\uN x 6<=gN x 6/\uN x 6=kH x:=by
 have a:=((jy x).1 h).2.1;have e:uN x 6=kH x:=by
  show 0+(x 6-x 12)+(x 7-x 13)+(x 8-x 14)+(x 9-x 15)+(x 10-x 16)+(x 11-x 17)=(x 6-x 12)+(x 7-x 13)+(x 8-x 14)+(x 9-x 15)+(x 10-x 16)+(x 11-x 17);omega
 have g:gN x 6=oD x:=by
  show 0+x 0+x 1+x 2+x 3+x 4+x 5=_;simp only[oD,G]; omega
 have s:Rt.L x 0+Rt.L x 1+Rt.L x 2+Rt.L x 3+Rt.L x 4+Rt.L x 5=oD x-kH x:=by simp only[Rt.L,kH,oD]; omega
 have f : ∀ k,k<6->F x k<=C x k:=fun k b=>(a k b).2.1;have l:=fun k b=>(a k b).1;have:=l 0 (by decide); have:=l 1 (by decide); have:=l 2 (by decide); have:=l 3 (by decide); have:=l 4 (by decide); have:=l 5 (by decide);have:=f 0 (by decide); have:=f 1 (by decide); have:=f 2 (by decide); have:=f 3 (by decide); have:=f 4 (by decide); have:=f 5 (by decide);have u:0<=kH x:=by unfold kH; omega
 rw[e,g];omega
theorem VO(L:fP)(y:Int):0=FU L y 0 0:=by
 unfold FU; show(0:Int)=0+(if L.g 0 4=0 then L.g 0 3*0 else 0);split <;> simp
theorem YT(h:p=bT L.t L.tn (L.g q 2)):FU L y q p=FU L y (q+1) 0:=by
 unfold FU;show _=jG L.t L.tn L.g y q+lZ L.t L.tn (L.g q) y+(if L.g (q+1) 4=0 then L.g (q+1) 3*0 else 0);unfold lZ zX;rw[h];have:(if L.g (q+1) 4=0 then L.g (q+1) 3*0 else 0)=0:=by split <;> simp
 rw[this,C_]
theorem apx(h:bA L.t L.tn p (L.g q 2)=y)(a:L.g q 4=0):FU L y q (p+1)=FU L y q p+L.g q 3:=by
 unfold FU;show _+(if L.g q 4=0 then L.g q 3*(AQ L.t L.tn (L.g q 2) y p+if bA L.t L.tn p (L.g q 2)=y then 1 else 0)else 0)=_;rw[d_ a,d_ a,d_ h,Int.mul_add,Int.mul_one]; omega
theorem ahx(h : ¬ (bA L.t L.tn p (L.g q 2)=y/\L.g q 4=0)):FU L y q (p+1)=FU L y q p:=by
 unfold FU;show _+(if L.g q 4=0 then L.g q 3*(AQ L.t L.tn (L.g q 2) y p+if bA L.t L.tn p (L.g q 2)=y then 1 else 0)else 0)=_;by_cases a:L.g q 4=0
 ·rw[d_ a,d_ a,b_ fun e=>h ⟨e,a⟩,C_]
 rw[b_ a,b_ a]
theorem adO(L:fP)(y:Int):FU L y q 0=jG L.t L.tn L.g y q:=by
 unfold FU;show _+(if L.g q 4=0 then L.g q 3*0 else 0)=_;have:(if L.g q 4=0 then L.g q 3*0 else 0)=0:=by split <;> simp
 rw[this,C_]
theorem ahy(h:Ah mm L N)(d : ∀ k,k<L.gn->1<=L.g k 3/\L.g k 3<=65536)(f:q<L.gn)(e:p<=bT L.t L.tn (L.g q 2)):0<=FU L y q p/\FU L y q p<=65536*(q+1):=by
 have a:=adN (L:=L) (n:=q) (y:=y) fun k i=>d k (by omega);rw[Lg h]at a;have b:=d q f;have c:=Nj h (y:=y) p e;unfold FU;rw[c];split
 ·split <;> omega
 omega
theorem WC.track{M a:WM}{o:Nat}{x:F9}{v:EvM}{L:fP}(s:WC a)(g:DoR o x M a v)(p:ug M.n M.ev M.an L)(m:L.known=fT M.ev M.an) :
 (v.o=0->ug a.n a.ev a.an L/\L.known=fT a.ev a.an)/\(v.o≠0->bP L v=0/\ug a.n a.ev a.an (aA L v)/\(aA L v).known=fT a.ev a.an):=by
 rcases g.c with ⟨j,d,f,k⟩|⟨j,d,f,k,h5,h6,h7,h8⟩
 ·rw[g.n,d,f];exact⟨fun _=>⟨p,m⟩,fun e=>L_ (by rw[j]; rfl) e⟩
 refine⟨fun e=>by omega,fun _ => ?_⟩;have y:=(E9 (iZ k)).1;have b:=s.w;rw[g.n,d,f]at b ⊢;have r:=(E9 (b.rd M.an (by omega))).2.1;rw[rT]at r;have u:v.seq=fT M.ev M.an (aP v)+1:=by rw[r,wF M.an (z_ _)]
 have l:=p.more y u;have t:L.known=fT (aJ M.ev M.an v) M.an:=by rw[m]; funext i; exact(wF M.an (z_ _) i).symm
 have h:=l.next b (show M.an<M.an+1 by omega) t
 have q:=l.apply b (show M.an<M.an+1 by omega);rw[rT]at h q;exact⟨h.1,q,h.2⟩
end
end Rt
end
end Go.Proofs.YtahbiajdgealnaaGreatDoor
