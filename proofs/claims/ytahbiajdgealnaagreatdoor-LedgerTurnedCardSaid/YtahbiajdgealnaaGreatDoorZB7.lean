/-
  What the proof of the law rests on, part 7: walks of functions, and plain laws; each says its conditions itself.
-/
import Derived.Deep.Slices
import Derived.Lib.SmallJoins
import Derived.ChangeArms
import Derived.Test.YtahbiajdgealnaaGreatDoorZB6
set_option maxHeartbeats 1600000
set_option linter.unusedVariables false
set_option linter.unusedSimpArgs false
namespace Go.Proofs.YtahbiajdgealnaaGreatDoor
open Go.RowKit Go
set_option linter.unusedVariables false
set_option maxRecDepth 20000
namespace Rt
def nS(x:Nat->Int):Int:=x 0*18446744073709551616+x 1
structure zq(L:gy):Prop where
 up : ∀ i j,i<j->j<L.gn->nS (L.g i)<nS (L.g j)
 wf : ∀ q,q<L.gn->iG (L.g q 1)/\iG (L.g q 4)
 ga : ∀ q,q<L.gn->1<=L.g q 0/\L.g q 0<=6 /\ ∃ j,j<L.rn (L.g q 0-1).toNat/\L.rq (L.g q 0-1).toNat j=L.g q 1
section
variable {L:gy} {N:Nat} {v:EvM}
theorem Vu(a:iG v.req){x:Nat->Int}(hx:iG (x 1)):EU v x=true<->nS (pU v)<nS x:=by
 unfold EU nS iG at *;rw[Bool.or_eq_true,R_,O_,O_,O_];show v.o<x 0\/x 0=v.o/\v.req<x 1<->v.o*18446744073709551616+v.req<x 0*18446744073709551616+x 1;omega
theorem K8{a:Nat}{r:Int}(L':gy)(d:L'.rn=aH L.rn a (L.rn a+1))(f:L'.rq=aH L.rq a (aH (L.rq a) (L.rn a) r)):(∀ b y,(∃ j,j<L.rn b/\L.rq b j=y) -> ∃ j,j<L'.rn b/\L'.rq b j=y) /\ ∃ j,j<L'.rn a/\L'.rq a j=r:=by
 rw[d,f];unfold aH;refine⟨fun b y ⟨j,g,e⟩ => ?_,L.rn a,by rw[d_ rfl]; omega,by rw[d_ rfl,d_ rfl]⟩;by_cases c:b=a
 ·subst c;exact⟨j,by rw[d_ rfl]; omega,by rw[d_ rfl,b_ (by omega)]; exact e⟩
 exact⟨j,by rw[b_ c]; exact g,by rw[b_ c]; exact e⟩
attribute [local irreducible] fA dn in
theorem Nk(h:zq L)(J:bM v=true)(M:fK v)(t:iT L v=0):zq (lQ L v):=by
 have z:=lU J;have m:iG v.req:=M.req;unfold iT at t;split at t
 ·cases t
 rename_i c1;obtain⟨w,x⟩:=K8 (L:=L) (a:=aL v) (r:=v.req) (lQ L v) rfl rfl;have K : ∀ j,j<L.gn -> ¬ (L.g j 0=v.o/\L.g j 1=v.req):=fun j f e=>c1 (by
  obtain⟨_,_,q,b,y⟩:=h.ga j f;rw[e.1,e.2]at y;rw[e.1]at b;unfold gy.kR;rw[Cq];exact⟨q,b,f_ y⟩)
 obtain⟨k,u⟩ : ∃ k,k=Fx.down (fun i=>EU v (L.g i)) L.gn:=⟨_,rfl⟩;have l:k<=L.gn:=by rw[u]; exact Fx.yB _ _
 have I : ∀ q,k<=q->q<L.gn->nS (pU v)<nS (L.g q):=fun q D d=>(Vu m (h.wf q d).1).1 (Fx.Ir (P:=fun i=>EU v (L.g i)) (n:=L.gn) (i:=q) (by omega) d);have H : ∀ q,q<k->nS (L.g q)<nS (pU v):=fun q D=>by
  obtain⟨j,rfl⟩ : ∃ j,k=j+1:=⟨k-1,by omega⟩;have d:=Fx.Iu (P:=fun i=>EU v (L.g i)) (n:=L.gn) (j:=j) u.symm;have E : ¬ nS (pU v)<nS (L.g j):=fun e=>by
   have:=(Vu m (h.wf j (by omega)).1).2 e;rw[this]at d; cases d
  have F:nS (L.g j)<nS (pU v):=by
   rcases Int.lt_trichotomy (nS (L.g j)) (nS (pU v))with c|c|c
   ·exact c
   ·exfalso;have G:=(h.wf j (by omega)).1;refine K j (by omega) ?_;unfold nS at c;have c:L.g j 0*18446744073709551616+L.g j 1=v.o*18446744073709551616+v.req:=c;unfold iG at G m;omega
   ·exact L_ c E
  by_cases e:q=j
  ·rw[e]; exact F
  ·have:=h.up q j (by omega) (by omega); omega
 have p:(lQ L v).g=Fx.cB L.g k (pU v):=by rw[u]; rfl
 have s:(lQ L v).gn=L.gn+1:=rfl;refine⟨fun i j N f => ?_,fun q b => ?_,fun q b => ?_⟩
 ·rw[s]at f;rw[p]
  rcases dU l (show i<L.gn+1 by omega)with rfl|⟨q,b,eq,q1,q2⟩
  ·rcases dU l f with rfl|⟨r,hr,er,w,x⟩
   ·omega
   rw[dH,er]; exact I r (by omega) hr
  rcases dU l f with rfl|⟨r,hr,er,w,x⟩
  ·rw[dH,eq]; exact H q (by omega)
  rw[eq,er]; exact h.up q r (by omega) hr
 ·rw[s]at b;rw[p]
  rcases dU l b with rfl|⟨r,hr,er,_,_⟩
  ·rw[dH]; exact⟨m,by show iG 0; unfold iG; omega⟩
  rw[er]; exact h.wf r hr
 rw[s]at b;rw[p]
 rcases dU l b with rfl|⟨r,hr,er,_,_⟩
 ·rw[dH]; exact⟨z.1,z.2.1,x⟩
 rw[er];obtain⟨A,B,C⟩:=h.ga r hr;exact⟨A,B,w _ _ C⟩
attribute [local irreducible] fA dn in
theorem Nl(h:zq L)(w:bM v=true)(s:fK v)(u:iI L v=0):zq (kr L v):=by
 obtain⟨t,x⟩:=K8 (L:=L) (a:=aL v) (r:=v.req) (kr L v) rfl rfl;have e : ∀ q,(kr L v).g q=if q=zJ L v then aH (L.g (zJ L v)) 4 v.req else L.g q:=fun q=>rfl;have b : ∀ j p,(p=0\/p=1)->(kr L v).g j p=L.g j p:=fun j p o=>by
  rw[e];by_cases c:j=zJ L v
  ·subst c; rw[d_ rfl]; rcases o with rfl|rfl <;> rfl
  ·rw[b_ c]
 refine⟨fun i j m n => ?_,fun q d => ?_,fun q d => ?_⟩
 ·unfold nS;rw[b i 0 (.inl rfl),b i 1 (.inr rfl),b j 0 (.inl rfl),b j 1 (.inr rfl)];exact h.up i j m n
 ·rw[b q 1 (.inr rfl)];refine⟨(h.wf q d).1,?_⟩;rw[e];by_cases c:q=zJ L v
  ·rw[d_ c]; exact s.req
  rw[b_ c]; exact(h.wf q d).2
 rw[b q 0 (.inl rfl),b q 1 (.inr rfl)];obtain⟨f,k,l⟩:=h.ga q d;exact⟨f,k,t _ _ l⟩
theorem Nn(h:zq L)(e:fK v):zq (bP L v):=by
 unfold bP;by_cases c:bH L v=0
 ·rw[d_ c];have b:=(DK (jK c)).1;have a:dR L v=0:=by
   unfold bH at c;rw[b_ (by rw[b]; decide)]at c;split at c; · cases c
   split at c; · cases c
   split at c; · cases c
   exact c
  have d:zq (iJ L v):=by
   unfold dR at a;unfold iJ;by_cases f:v.kind=1
   ·rw[d_ f]; exact⟨h.up,h.wf,h.ga⟩
   rw[b_ f]at a ⊢;by_cases g:v.kind=2
   ·rw[d_ g]; exact⟨h.up,h.wf,h.ga⟩
   rw[b_ g]at a ⊢;by_cases i:v.kind=3
   ·rw[d_ i]at a ⊢; exact Nk h b e a
   rw[b_ i]at a ⊢;by_cases j:v.kind=4
   ·rw[d_ j]at a ⊢; exact Nl h b e a
   rw[b_ j]at a ⊢;by_cases k:v.kind=5
   ·rw[d_ k]; exact⟨h.up,h.wf,h.ga⟩
   rw[b_ k];by_cases l:v.kind=6
   ·rw[d_ l]; exact⟨h.up,h.wf,h.ga⟩
   ·rw[b_ l]; exact⟨h.up,h.wf,h.ga⟩
  exact⟨d.up,d.wf,d.ga⟩
 rw[b_ c]; exact h
theorem Vv(k a:Nat):zq (kK k a).core:=⟨fun i j _ h=>L_ h (u_ _),fun q h=>L_ h (u_ _),fun q h=>L_ h (u_ _)⟩
theorem fT.new(k l d e f c b g:Nat):fT (yj k l d e f c b) (kK k g).core where
 T:=⟨fun q=>⟨fun h=>(nomatch h),fun⟨i,h,_⟩=>L_ h (u_ _)⟩,rfl,fun i h=>L_ h (u_ _)⟩
 inn:=rfl
 left:=rfl
 known:=rfl
 row:=fun i h=>L_ h (u_ _)
 own:=fun a _=>rfl
 gi:=fun i j h=>L_ h (u_ _)
 gn:=rfl
 g1:=fun q h=>L_ h (u_ _)
 g2:=fun q h=>L_ h (u_ _)
 ask:=fun a r _=>⟨fun h=>(nomatch h),fun⟨j,h,_⟩=>L_ h (u_ _)⟩
 ga:=fun i h=>L_ h (u_ _)
 li:=fun i j h=>L_ h (u_ _)
structure StC(L:gy)(m:dP)(l:List Int)(gl:List Je):Prop where
 nn:l.length=L.nn
 gn:gl.length=L.gn
 n : ∀ k,k<L.nn->l.getD k 0=L.id k/\m.T.par (l.getD k 0)=L.par k/\Dj m (l.getD k 0)=L.R k
 g : ∀ k,k<L.gn->(gl.getD k g0).x=L.g k
theorem StC.of{m:dP}{l:List Int}{c:List Je}(h:fT m L)(F:Inv0 L N)(u:zq L)(B:l.Pairwise (· < ·) /\ ∀ k,k∈l<->m.T.has k=true)(s:GrS m c):StC L m l c:=by
 have w:l=(List.range L.nn).map L.id:=uF B.1 (by
  rw[List.pairwise_map];exact(List.pairwise_lt_range (n:=L.nn)).imp_of_mem fun {a b} _ hb hab=>F.rise a b hab (N_.1 hb)) fun k=>by
  rw[B.2,h.T.has,List.mem_map];exact⟨fun⟨i,d,e⟩=>⟨i,N_.2 d,e⟩,fun⟨i,d,e⟩=>⟨i,N_.1 d,e⟩⟩
 have y:c.map KZ=(List.range L.gn).map fun q=>nS (L.g q):=uF (by rw[List.pairwise_map]; exact s.up) (by
  rw[List.pairwise_map];exact(List.pairwise_lt_range (n:=L.gn)).imp_of_mem fun {a b} _ hb hab=>u.up a b hab (N_.1 hb)) fun k=>by
  rw[List.mem_map,List.mem_map];constructor
  ·rintro ⟨x,v,e⟩;obtain⟨i,d,p⟩:=s.mem x v;obtain⟨q,o,r⟩:=h.g2 i d;refine⟨q,N_.2 o,?_⟩;rw[r,<- p]; exact e
  ·rintro ⟨q,o,e⟩;obtain⟨j,G,C⟩:=h.g1 q (N_.1 o);obtain⟨x,v,E⟩:=s.all j G;refine⟨x,v,?_⟩;rw[<- e,<- C,<- E]; rfl
 have I:c.length=L.gn:=by have:=K_ List.length y; rwa [List.length_map,List.length_map,List.length_range]at this
 refine⟨by rw[w,List.length_map,List.length_range],I,fun k f => ?_,fun k f => ?_⟩
 ·have:l.getD k 0=L.id k:=by
   rw[w,r_,o_ (by rw[List.length_map,List.length_range]; exact f)];simp
  rw[this];exact⟨rfl,h.T.par k f,h.row k f⟩
 have t:k<c.length:=by omega
 have H:c.getD k g0∈c:=by rw[r_,o_ t]; exact P_ t
 have D:KZ (c.getD k g0)=nS (L.g k):=by
  have A:=K_ (fun z=>z.getD k 0) y;simp only[r_,List.getElem?_map,o_ t,List.getElem?_range f]at A;rw[r_,o_ t]; exact A
 obtain⟨i,d,p⟩:=s.mem _ H;obtain⟨q,o,r⟩:=h.g2 i d;have J:nS (L.g q)=nS (L.g k):=by rw[r,<- p,<- D]; rfl
 have:q=k:=by
  rcases Nat.lt_trichotomy q k with h5|h5|h5
  ·have:=u.up q k h5 f; omega
  ·exact h5
  ·have:=u.up k q h5 o; omega
 rw[p,<- r,this]
end
end Rt
end Go.Proofs.YtahbiajdgealnaaGreatDoor
namespace Go.Proofs.YtahbiajdgealnaaGreatDoor
open Go.RowKit Go.WideShapes Go.ChangeShapes Go.Deep
theorem QE{w:World}{x:Addr}{v:Value}(h:w.cell? x=some v) : ∃ b a,x=⟨b,a,none⟩:=by
 obtain⟨b,a,c⟩:=x
 cases c with
 | none=>exact⟨b,a,rfl⟩
 | some q =>
   unfold World.cell? at h;simp at h;split at h <;> cases h
def At4(a k1 k2 c:IntKind)(w:World)(b off:Nat)(x0 x1 x2 d:Int):Prop :=
 w.cell? ⟨b,off,none⟩=some (.int a x0)/\w.cell? ⟨b,off+1,none⟩=some (.int k1 x1)/\w.cell? ⟨b,off+2,none⟩=some (.int k2 x2)/\w.cell? ⟨b,off+3,none⟩=some (.int c d)
def Wf4(a k1 k2 b:IntKind)(x0 x1 x2 c:Int):Prop:=(Lit.int a x0).wf=true/\(Lit.int k1 x1).wf=true/\(Lit.int k2 x2).wf=true/\(Lit.int b c).wf=true
def Sl4(g k1 k2 h:IntKind)(w:World)(a:Option Addr)(len:Nat)(c d e f:Nat->Int):Prop :=
 ∀ i,i<len->(∃ b j,a=some ⟨b,j,none⟩/\At4 g k1 k2 h w b (j+i*4) (c i) (d i) (e i) (f i))/\Wf4 g k1 k2 h (c i) (d i) (e i) (f i)
theorem Sl4.up{m k1 k2 n:IntKind}{w w':World}{a:Option Addr}{len:Nat}{g j k l:Nat->Int}(h:Sl4 m k1 k2 n w a len g j k l)(f:Below w.heap.size w w'):Sl4 m k1 k2 n w' a len g j k l:=by
 intro i q;obtain⟨⟨b,d,e,o,r,s,t⟩,hw⟩:=h i q;have c:=block_lt_of_cell o
 dsimp only at c
 exact⟨⟨b,d,e,(f.cell (p:=⟨b,d+i*4,none⟩) c).trans o,(f.cell (p:=⟨b,d+i*4+1,none⟩) c).trans r,(f.cell (p:=⟨b,d+i*4+2,none⟩) c).trans s,(f.cell (p:=⟨b,d+i*4+3,none⟩) c).trans t⟩,hw⟩
instance {g k1 k2 i:IntKind} {w w':World} {a:Option Addr} {len:Nat} {c d e f:Nat->Int}:Rt.Tr w w' (Sl4 g k1 k2 i w a len c d e f) (Sl4 g k1 k2 i w' a len c d e f):=⟨fun b h=>h.up b⟩
end Go.Proofs.YtahbiajdgealnaaGreatDoor
namespace Go.Proofs.YtahbiajdgealnaaGreatDoor
open Go.RowKit Go.WideShapes Go.ChangeShapes Go.Deep
def yt(P:Program):Nat->TypeId->Option (List (Option IntKind))
 | 0,_=>none
 | d+1,t=>match P.underlying t with
   | some (.int k)=>some [some k]
   | some .bool=>some [none]
   | some (.array n e)=>(yt P d e).bind fun a=>if P.cellsOf e=a.length/\P.cellsOf t=n*a.length then some (List.replicate n a).flatten else none
   | some (.struct fs)=>(fs.toList.foldlM (fun l f=>(yt P d f.type).bind fun a=>if f.offset=l.length/\P.cellsOf f.type=a.length then some (l++a)else none) []).bind fun l=>if P.cellsOf t=l.length then some l else none
   | _=>none
def Q6(k:Option IntKind)(v:Value):Prop:=match k with|some k => ∃ n,v = .int k n/\(Lit.int k n).wf=true|none => ∃ b,v = .bool b
def Z5(ks:List (Option IntKind))(cs:List Value):Prop:=cs.length=ks.length /\ ∀(j:Nat) (k:Option IntKind),ks[j]? = some k -> ∃ v,cs[j]? = some v/\Q6 k v
theorem Cr{ks:List (Option IntKind)}{k:Option IntKind} : ∀(n j:Nat),(List.replicate n ks).flatten[j]? = some k->ks[j % ks.length]? = some k/\j / ks.length<n
 | 0,j,h=>by simp at h
 | n+1,j,h=>by
   rw[List.replicate_succ,List.flatten_cons]at h;by_cases b:j<ks.length
   ·rw[List.getElem?_append_left b]at h;rw[Nat.mod_eq_of_lt b,Nat.div_eq_of_lt b]; exact⟨h,by omega⟩
   ·rw[List.getElem?_append_right (by omega)]at h;have c:0<ks.length:=by
     rcases Nat.eq_zero_or_pos ks.length with e|e
     ·obtain⟨a,_⟩:=Cr n _ h;have:=(List.getElem?_eq_some_iff.1 a).1; omega
     ·exact e
    obtain⟨a,d⟩:=Cr n _ h;rw[Nat.mod_eq_sub_mod (by omega),Nat.div_eq_sub_div c (by omega)];exact⟨a,by omega⟩
section
variable {H:Type} {enc:TypeId × Value->H} {P:Program} {w:World} {base:Nat} {spare:Nat->Bool} {held:Bool}
theorem FK{ks:List (Option IntKind)}{cs:List Value}{o s j:Nat}{k:Option IntKind}(h:Z5 ks ((cs.drop o).take s))(e:s=ks.length)(b:ks[j]? = some k) : ∃ v,cs[o+j]? = some v/\Q6 k v:=by
 obtain⟨n,a,c⟩:=h.2 j k b;have d:=(List.getElem?_eq_some_iff.1 b).1;rw[List.getElem?_take_of_lt (by omega),List.getElem?_drop]at a;exact⟨n,a,c⟩
theorem Ct : ∀(d:Nat) (t:TypeId) (q:List (Option IntKind)),yt P d t=some q -> ∀(C:Nat) (p:List Value) (x:DataW H × List MemPlace),DataW.trod enc P w base spare held C t p=some x->Z5 q p
 | 0,_,_,h=>by simp[yt]at h
 | d+1,t,q,h=>by
   intro C p x z;unfold yt at h;split at h
   ·rename_i k hu;simp only[Option.some.injEq]at h; subst h;obtain⟨n,rfl,_,U⟩:=DataW.trod_int hu z;refine⟨rfl,fun j W a => ?_⟩
    match j,a with
    | 0,a=>simp at a; subst a; exact⟨_,rfl,n,rfl,U⟩
    | j+1,a=>simp at a
   ·rename_i hu;simp only[Option.some.injEq]at h; subst h;obtain⟨b,rfl,_⟩:=DataW.trod_bool hu z;refine⟨rfl,fun j W a => ?_⟩
    match j,a with
    | 0,a=>simp at a; subst a; exact⟨_,rfl,b,rfl⟩
    | j+1,a=>simp at a
   ·rename_i n e hu;obtain⟨I,S,h⟩:=Option.bind_eq_some_iff.1 h;split at h
    ·rename_i hc;simp only[Option.some.injEq]at h; subst h;obtain⟨Y,m,_,_,c,F,J⟩:=DataW.trod_array hu z;refine⟨by rw[c,hc.2]; simp,fun j k a => ?_⟩;obtain⟨r,A⟩:=Cr n j a;have u:=J (j / I.length) A;rw[o_ (by omega),hc.1]at u;have:=FK (Ct d e I S _ _ _ u) rfl r;rw[Nat.mul_comm,Nat.div_add_mod]at this;exact this
    ·cases h
   ·rename_i fs hu;obtain⟨l,c,h⟩:=Option.bind_eq_some_iff.1 h;split at h
    ·rename_i hc;simp only[Option.some.injEq]at h; subst h;obtain⟨Y,m,_,_,T,F,K⟩:=DataW.trod_struct hu z;refine⟨by rw[T,hc],?_⟩;have M : ∀ f,f∈fs.toList -> ∃ y,DataW.trod enc P w base spare held m f.type ((p.drop f.offset).take (P.cellsOf f.type))=some y:=by
      intro f N;obtain⟨i,u,e⟩:=List.mem_iff_getElem.1 N;have E:i<fs.size:=(by simpa using u);have r:fs[i]? = some f:=(by rw[Array.getElem?_eq_getElem E]; simpa using e);have:=K i f r;rw[o_ (by rw[F]; exact E)]at this;exact⟨_,this⟩
     have X : ∀(L:List Field) (o:List (Option IntKind)),(∀ f,f∈L -> ∃ y,DataW.trod enc P w base spare held m f.type ((p.drop f.offset).take (P.cellsOf f.type))=some y)->(∀(j:Nat) (k:Option IntKind),o[j]? = some k -> ∃ v,p[j]? = some v/\Q6 k v) -> ∀ l,L.foldlM (fun l f=>(yt P d f.type).bind fun q=>if f.offset=l.length/\P.cellsOf f.type=q.length then some (l++q)else none) o=some l -> ∀(j:Nat) (k:Option IntKind),l[j]? = some k -> ∃ v,p[j]? = some v/\Q6 k v:=by
      intro L
      induction L with
      | nil=>intro o _ B l c; simp at c; subst c; exact B
      | cons f L ih =>
        intro o D B l c;rw[List.foldlM_cons]at c;obtain⟨Z,r,A⟩:=Option.bind_eq_some_iff.1 c;obtain⟨G,R,s⟩:=Option.bind_eq_some_iff.1 r;split at s
        ·rename_i hcc;simp only[Option.some.injEq]at s; subst s;refine ih (o++G) (fun g O=>D g (List.mem_cons_of_mem _ O)) (fun j k a => ?_) l A;by_cases Q:j<o.length
         ·rw[List.getElem?_append_left Q]at a; exact B j k a
         ·rw[List.getElem?_append_right (by omega)]at a;obtain⟨y,V⟩:=D f (List.mem_cons_self ..);have:=FK (Ct d f.type G R _ _ _ V) hcc.2 a;rw[hcc.1,show o.length+(j-o.length)=j by omega]at this;exact this
        ·cases s
     exact X fs.toList [] M (fun j k a=>by simp at a) l c
    ·cases h
   ·cases h
end
section
variable {H:Type} {enc:TypeId × Value->H} {P:Program} {w:World} {base:Nat} {spare:Nat->Bool} {held:Bool}
theorem QF{t e:TypeId}{ks:List (Option IntKind)}{fuel D:Nat}{cs:List Value}{x:DataW H × List MemPlace}(S:P.underlying t=some (.slice e))(O:yt P D e=some ks)(F:P.cellsOf e=ks.length)(C:0<ks.length)
 (h:DataW.trod enc P w base spare held fuel t cs=some x) : ∃ a c l,cs = [.slice a c l]/\c<=maxLen/\c<=l /\ ∃ X:Nat->Nat->Value,(∀ i,i<c -> ∀(j:Nat) (k:Option IntKind),ks[j]? = some k->Q6 k (X i j))/\Fx.ni w a c ks.length (Fx.flat ks.length X):=by
 rcases open_slice S h with ⟨rfl,_⟩|⟨a',c,l,m,n,D',Pl,rfl,_,hl,hm,hmm,_,hx⟩
 ·exact⟨none,0,0,rfl,by unfold maxLen; omega,z_ _,fun _ _=>undef,fun i d=>L_ d (by omega),fun h=>L_ h (by omega)⟩
 have W:c<=m:=by rw[hmm]; split <;> omega
 have r : ∀ i j:Nat,∃ q:Value,i<c -> ∀ k,ks[j]? = some k->w.cell? (a'.add (i*ks.length+j))=some q/\Q6 k q:=by
  intro i j;by_cases d:i<c/\j<ks.length
  ·obtain⟨U,A,J⟩:=hx i (by omega);rw[F]at A;obtain⟨_,V,M⟩:=World.cells?_some A;obtain⟨q,y,z⟩:=(Ct _ _ _ O _ _ _ J).2 j _ (o_ d.2);refine⟨q,fun _ k v => ?_⟩;rw[o_ d.2,Option.some.injEq]at v;subst v;have E:=M j (by omega);rw[add_add]at E;exact⟨by rw[<- y]; simpa using E,z⟩
  ·refine⟨undef,fun y k z=>L_ ⟨y,(List.getElem?_eq_some_iff.1 z).1⟩ d⟩
 refine⟨some a',c,l,rfl,by omega,hl,fun i j=>Classical.choose (r i j),fun i d j k v=>(Classical.choose_spec (r i j) d k v).2,fun K => ?_⟩;have G:a'.add (0*ks.length+0)=a':=by unfold Addr.add; simp
 obtain⟨Z,L⟩:=r 0 0;have Q:=o_ C;have B:=(L K _ Q);have g:=B.1;rw[G]at g;have o : ∃ b f,a'=⟨b,f,none⟩:=by
  have u:=B.2;unfold Q6 at u;split at u
  ·obtain⟨Y,rfl,_⟩:=u; exact QE g
  ·obtain⟨T,rfl⟩:=u;unfold World.cell? at g
   cases a' with
   | mk b f sp =>
     cases sp with
     | none=>exact⟨b,f,rfl⟩
     | some s=>simp at g; split at g <;> simp_all
 obtain⟨b,f,o⟩:=o;refine⟨b,f,by rw[o],fun p R => ?_⟩;have N:p % ks.length<ks.length:=I_ _ C;have d:p / ks.length<c:=Nat.div_lt_of_lt_mul (by rw[Nat.mul_comm]; exact R);have:=(Classical.choose_spec (r (p / ks.length) (p % ks.length)) d _ (o_ N)).1;have I:a'.add (p / ks.length*ks.length+p % ks.length)=⟨b,f+p,none⟩:=by rw[o,addr_add,Nat.mul_comm,Nat.div_add_mod]
 exact(K_ w.cell? I).symm.trans this
end
section
variable {H:Type} {enc:TypeId × Value->H} {P:Program} {w:World}
theorem ni.uE{w:World}{a:Option Addr}{n s:Nat}{x y:Nat->Value}(h:Fx.ni w a n s x)(e : ∀ p,p<n*s->x p=y p):Fx.ni w a n s y:=fun f=>by
 obtain⟨b,j,d,g⟩:=h f;exact⟨b,j,d,fun i c=>by rw[<- e i c]; exact g i c⟩
end
end Go.Proofs.YtahbiajdgealnaaGreatDoor
namespace Go.Proofs.YtahbiajdgealnaaGreatDoor
open Go.RowKit Rt
open Fx (fE eO fM bA gN gM dB dS gD jA eG jB fZ jC jf Lv sN Ln Ws Qv Wl Rp Wc Qs Wr Sb Lk Wk rC rV sR Rs Rn Rd Rk Wb Wx Wo DX Wt qY Jc Qn FZ Bn yZ zx CP DU qo gI zy ng uy uw vL wX zw CV zQ rv aA aQ bI aM ev cB Stp dI aT flat dA Mp eU aW gU iQ bD down iO jP kL iP ni bK bJ cells_one iD bV tO unseen jL iB bX dJ bL bR cK cO gJ gV pV gP)
set_option maxRecDepth 20000
set_option linter.unusedVariables false
namespace Rt
def QG(L:gy)(c:Option Addr)(d:Nat)(a:Option Addr)(b:Nat):Dz:=⟨L.inn,L.left,L.known,c,L.nn,d,a,L.gn,b⟩
def Vw(L:gy):Nat->Nat->Value:=fun k=>lW (L.id k) (L.par k) (L.R k)
def Vx(L:gy):Nat->Nat->Value:=fun k=>jc (L.g k)
structure LWf(L:gy):Prop where
 n : ∀ k,k<L.nn->iG (L.id k)/\iG (L.par k) /\ ∀ p,p<54->qI (L.R k p)
 g : ∀ k,k<L.gn->qI (L.g k 0)/\iG (L.g k 1)/\iG (L.g k 2)/\qI (L.g k 3)/\iG (L.g k 4)
 k : ∀ i,i<6->iG (L.known i)
 bn:L.nn<=900000
 bg:L.gn<=900000
theorem adO{n:Int}(h:iG n):(Lit.int .u64 n).wf=true:=Fx.sO h
theorem aoQ{n:Int}(h:qI n):(Lit.int .i64 n).wf=true:=Fx.Rl h
theorem K9{n:Int}(h:iG n):oh (some .u64) (.int .u64 n)=some (.int .u64 n):=by simp[oh,adO h]
theorem Vy{n:Int}(h:qI n):oh (some .i64) (.int .i64 n)=some (.int .i64 n):=by simp[oh,aoQ h]
theorem Em(b:Nat->Bool):Fx.Kd (List.replicate 6 none) (fun j => .bool (b j)):=fun i a=>⟨.bool (b i),by rw[List.getElem_replicate]; rfl⟩
theorem Z6{id par:Int}{R:Nat->Int}(h:iG id/\iG par /\ ∀ p,p<54->qI (R p)):Fx.Kd (some .u64::some .u64::List.replicate 54 (some .i64)) (lW id par R):=fun i a=>by
 match i,a with
 | 0,_=>exact⟨_,K9 h.1⟩
 | 1,_=>exact⟨_,K9 h.2.1⟩
 | i+2,a =>
   have b:i<54:=(by simp at a; omega);have e:(some IntKind.u64::some IntKind.u64::List.replicate 54 (some IntKind.i64))[i+2]=some .i64:=(by rw[List.getElem_cons_succ,List.getElem_cons_succ,List.getElem_replicate]);rw[e,MF _ _ _ (p:=i) rfl];exact⟨_,Vy (h.2.2 i b)⟩
theorem Z7{x:Nat->Int}(h:qI (x 0)/\iG (x 1)/\iG (x 2)/\qI (x 3)/\iG (x 4)):Fx.Kd [some .i64,some .u64,some .u64,some .i64,some .u64] (jc x):=fun i a=>by
 match i,a with
 | 0,_=>exact⟨_,Vy h.1⟩
 | 1,_=>exact⟨_,K9 h.2.1⟩
 | 2,_=>exact⟨_,K9 h.2.2.1⟩
 | 3,_=>exact⟨_,Vy h.2.2.2.1⟩
 | 4,_=>exact⟨_,K9 h.2.2.2.2⟩
theorem LWf.of{L:gy}{N:Nat}(a:Inv0 L N)(o:Ai L)(m:zq L)(A:N<=900000):LWf L where
 n:=fun k c=>by
  have y:=a.pos k c;have z:=a.top k c;have f:=mD (a.may k c);refine⟨⟨by omega,by omega⟩,?_,fun p r=>by have:=f p r; exact⟨by omega,by omega⟩⟩
  rcases a.up k c with e|⟨j,b,e⟩
  ·rw[e]; exact⟨by omega,by omega⟩
  ·have h:=a.pos j b;have l:=a.top j b;rw[<- e]; exact⟨by omega,by omega⟩
 g:=fun k c=>by
  obtain⟨d,u,v,w,x⟩:=o.gb k c;obtain⟨s,t⟩:=m.wf k c;obtain⟨j,b,e⟩:=iE.1 d;rw[a.Ca]at b;rw[(a.tid j b).1]at e;have h:=a.pos j b;have l:=a.top j b;exact⟨⟨by omega,by omega⟩,s,by rw[<- e]; exact⟨by omega,by omega⟩,⟨by omega,by omega⟩,t⟩
 k:=fun i q=>by have:=a.kn i q; exact⟨by omega,by omega⟩
 bn:=by have:=a.nn; omega
 bg:=by have:=a.gn; omega
end Rt
structure LP(w:World)(s:Dz)(L:gy):Prop where
 e:s=QG L s.na s.nc s.ga s.gc
 n:ni w s.na L.nn 56 (flat 56 (Vw L))
 g:ni w s.ga L.gn 5 (flat 5 (Vx L))
theorem LP.up{w w':World}{s:Dz}{L:gy}(h:LP w s L)(a:Below w.heap.size w w'):LP w' s L:=⟨h.e,h.n.up a rfl,h.g.up a rfl⟩
instance {w w':World} {s:Dz} {L:gy}:Rt.Tr w w' (LP w s L) (LP w' s L):=⟨fun b h=>h.up b⟩
theorem LP.ldg{w:World}{p:Nat}{m:lu}(h:CZ w p m):LP w m.s m.core:=⟨rfl,h.an,h.ag⟩
theorem LP.of{w:World}{B:Nat}{m:dP}{s:Dz}{l:List Int}{p:List Je}{L:gy}{N:Nat}(h:StQ w B m s l p)(d:fT m L)(r:Inv0 L N)(q:zq L):LP w s L:=by
 have e:=StC.of d r q h.ls h.gs;have f:s.nn=L.nn:=by rw[h.nn,e.nn]
 have i:s.gn=L.gn:=by rw[h.gn,e.gn]
 refine⟨?_,?_,?_⟩
 ·cases s
  unfold QG;have a:=h.inn;have b:=h.left;have c:=h.known;simp only at a b c f i ⊢;rw[a,b,c,d.inn,d.left,d.known,f,i]
 ·have:=h.n.arr;rw[f]at this;refine ni.uE this<|bK fun k o j _ => ?_;obtain⟨a,b,c⟩:=e.n k o;unfold Vr Vw;rw[b,c,a]
 have:=h.g.arr;rw[i]at this;refine ni.uE this<|bK fun k o j _ => ?_;unfold Wz Vx;rw[e.g k o]
theorem adP(L:gy)(t A m x:Option Addr)(u B o y:Nat)(w:World)(l:LWf L)(hN1:ni w t L.nn 56 (flat 56 (Vw L)))(hN2:ni w A L.nn 56 (flat 56 (Vw L)))(hG1:ni w m L.gn 5 (flat 5 (Vx L)))(hG2:ni w x L.gn 5 (flat 5 (Vx L))) :
 Calls Tryz.prog 17 #[.agg (aA 20 (nL (QG L t u m o))),.agg (aA 20 (nL (QG L A B x y)))] w fun e w'=>e = .returned (.bool true)/\Below w.heap.size w w':=by
 have hbn:=l.bn;have hbg:=l.bg;refine Kent Tryz.func17 80 ?_;refine ay<|qP fun c w1 lK S s1 z1 => ?_;have V:=bG s1.old (Below.refl w.heap.size w);have uh:=gY lK;have vS:=S.lt;refine qP fun d w2 ae s s2 z2 => ?_;have⟨z,b2⟩:=fq s2.old S V;have su:=jI ae V.size;have Ka:=cu ae S.lt;have AL:=s.lt;refine av aF<|aC<|Ws<|ay<|av (pt c)<|Lv (.agg (aA 6 (fun j => .bool (L.inn j)))) (fI z.aI 0 (fun j h=>by rw[E_]; exact zX _ h))<|av (pt d)<|Lv (.agg (aA 6 (fun j => .bool (L.inn j)))) (fI s.aI 0 (fun j h=>by rw[E_]; exact zX _ h))<|Lv aF (Fx.Ev (n:=6) (ks:=List.replicate 6 none) (X:=fun j => .bool (L.inn j)) (Y:=fun j => .bool (L.inn j)) 12 true rfl rfl rfl (Fx.Ih (fun _ _=>rfl)) (Em _) (Em _) rfl (by kernel_rfl) (by kernel_rfl) (by kernel_rfl) (by kernel_rfl) (by kernel_rfl))<|av aF<|av (pf c 6)<|Lv (.agg (aA 6 (fun j => .bool (L.left j)))) (fI z.aI 6 (fun j h=>AP (p:=j) _ h (by omega)))<|av (pf d 6)<|Lv (.agg (aA 6 (fun j => .bool (L.left j)))) (fI s.aI 6 (fun j h=>AP (p:=j) _ h (by omega)))<|Lv aF (Fx.Ev (n:=6) (ks:=List.replicate 6 none) (X:=fun j => .bool (L.left j)) (Y:=fun j => .bool (L.left j)) 12 true rfl rfl rfl (Fx.Ih (fun _ _=>rfl)) (Em _) (Em _) rfl (by kernel_rfl) (by kernel_rfl) (by kernel_rfl) (by kernel_rfl) (by kernel_rfl))<|av aF<|av aF<|av (pf c 12)<|Lv (.agg (aA 6 (rv .u64 L.known))) (fI z.aI 12 (fun j h=>jW (p:=j) _ h (by omega)))<|av (pf d 12)<|Lv (.agg (aA 6 (rv .u64 L.known))) (fI s.aI 12 (fun j h=>jW (p:=j) _ h (by omega)))<|Lv aF (Fx.Ev (n:=6) (ks:=List.replicate 6 (some .u64)) (X:=rv .u64 L.known) (Y:=rv .u64 L.known) 12 true rfl rfl rfl (Fx.Ih (fun _ _=>rfl)) (Fx.JA fun i Q=>adO (l.k i Q)) (Fx.JA fun i Q=>adO (l.k i Q)) rfl (by kernel_rfl) (by kernel_rfl) (by kernel_rfl) (by kernel_rfl) (by kernel_rfl))<|av aF<|av aF<|av (pf c 18)<|Lv (.slice t (L.nn) (u)) (aN z.aI 18)<|av (au L.nn)<|av (pf d 18) ?_;refine Lv (.slice A (L.nn) (B)) (aN s.aI 18)<|av (au L.nn)<|Lv aF (jM rfl)<|av aF<|av aF<|av (pf c 19)<|Lv (.slice m (L.gn) (o)) (aN z.aI 19)<|av (au L.gn)<|av (pf d 19)<|Lv (.slice x (L.gn) (y)) (aN s.aI 19)<|av (au L.gn)<|Lv aF (jM rfl)<|av aF<|aC<|aK<|Wk<|sN<|Ws<|ay<|av (au 0)<|aC<|Wb<|Wo (fun f v => ∃ k:Nat,k<=L.nn/\f 2=(pt c)/\f 3=(pt d)/\f 5=au (k:Int)/\aQ v c 20 (nL (QG L t u m o)) 53/\aQ v d 20 (nL (QG L A B x y)) 53/\Below w.heap.size w v) (fun f _=>(L.nn-(intOf (f 5)).toNat)) ⟨0,by omega,(by rfl),(by rfl),Fx.ic,z,s,b2⟩ ?_;rintro f1 C ⟨k,hk,J,O,E,K,U,H⟩;refine Ws<|ay<|aX E<|Lv (pf c 18) (iZ J 18)<|Lv (.slice t (L.nn) (u)) (aN K.aI 18)<|av (au L.nn) ?_;by_cases ac:(k:Int)<(L.nn:Int)
 ·refine Lv aG (gW ac)<|aC<|aO<|Wk<|sN<|Ws<|Wb<|Ws ?_;refine xM<|Qv (pf c 18) (fun b a=>iZ J 18)<|Qv (.slice t (L.nn) (u)) (fun b a=>aN (K.aI.dr a) 18)<|dY E ?_;obtain⟨W,oq1,eq1,m6⟩:=(hN1.up H rfl) (by omega);have agh:W<C.heap.size:=m6.lt (by omega);refine Qv (pf W (56*k+oq1)) (fun b a=>dh 56 (hx:=(rfl.trans (K_ (fun q=>Value.slice q (L.nn) (u)) eq1))))<|Qv (.agg (aA 56 (Vw L k))) (fun b a=>fI (m6.dr a) (56*k) (fun R r=>Fx.iX (k:=k) (by omega) r))<|Qv (pf d 18) (fun b a=>iZ O 18)<|Qv (.slice A (L.nn) (B)) (fun b a=>aN (U.aI.dr a) 18)<|dY E ?_;obtain⟨Z,oq2,Gb,m7⟩:=(hN2.up H rfl) (by omega);have aoT:Z<C.heap.size:=m7.lt (by omega);refine Qv (pf Z (56*k+oq2)) (fun b a=>dh 56 (hx:=(rfl.trans (K_ (fun q=>Value.slice q (L.nn) (B)) Gb))))<|Qv (.agg (aA 56 (Vw L k))) (fun b a=>fI (m7.dr a) (56*k) (fun R r=>Fx.iX (k:=k) (by omega) r))<|Qv aF (fun b a=>Fx.Ev (n:=56) (ks:=((some .u64)::(some .u64)::List.replicate 54 (some .i64))) (X:=Vw L k) (Y:=Vw L k) 12 true rfl rfl rfl (Fx.Ih (fun _ _=>rfl)) (Z6 (l.n k (by omega))) (Z6 (l.n k (by omega))) rfl (by kernel_rfl) (by kernel_rfl) (by kernel_rfl) (by kernel_rfl) (by kernel_rfl))<|Qn ?_;rintro _ ⟨G,rfl⟩;obtain⟨CY,M⟩ : ∃ b,b=World.drewN C G:=⟨_,rfl⟩;rw[<- M];have s3:Stp C.heap.size C CY:=by rw[M]; exact Sb (jH C G)
  have⟨m8,m9,b4⟩:=jZ s3.old K U H;clear M;refine sN<|aK<|Wk<|bR<|sN<|Wl<|aX E<|Lv (au ((k:Int)+1)) fC<|av (au ((k:Int)+1))<|Ln<|gV ⟨k+1,by omega,J,O,Fx.ic,m8,m9,b4⟩ ?_;show(L.nn-(intOf (au ((k:Int)+1))).toNat)<_;simp only[E,intOf]; omega
 refine Lv aF (gX ac)<|aC<|aK<|Wx<|cK<|gJ<|cO<|sN<|Ws<|ay<|av (au 0)<|aC<|Wb<|Wo (fun f v => ∃ k:Nat,k<=L.gn/\f 2=(pt c)/\f 3=(pt d)/\f 6=au (k:Int)/\aQ v c 20 (nL (QG L t u m o)) 53/\aQ v d 20 (nL (QG L A B x y)) 53/\Below w.heap.size w v) (fun f _=>(L.gn-(intOf (f 6)).toNat)) ⟨0,by omega,J,O,Fx.ic,K,U,H⟩ ?_;rintro f2 D ⟨k,hk,P,h5,F,T,m13,I⟩;refine Ws<|ay<|aX F<|Lv (pf c 19) (iZ P 19)<|Lv (.slice m (L.gn) (o)) (aN T.aI 19)<|av (au L.gn) ?_;by_cases ad:(k:Int)<(L.gn:Int)
 ·refine Lv aG (gW ad)<|aC<|aO<|Wk<|sN<|Ws<|Wb<|Ws ?_;refine xM<|Qv (pf c 19) (fun b a=>iZ P 19)<|Qv (.slice m (L.gn) (o)) (fun b a=>aN (T.aI.dr a) 19)<|dY F ?_;obtain⟨aa,oq3,ZP,m14⟩:=(hG1.up I rfl) (by omega);have aoV:aa<D.heap.size:=m14.lt (by omega);refine Qv (pf aa (5*k+oq3)) (fun b a=>dh 5 (hx:=(rfl.trans (K_ (fun q=>Value.slice q (L.gn) (o)) ZP))))<|Qv (.agg (aA 5 (Vx L k))) (fun b a=>fI (m14.dr a) (5*k) (fun R r=>Fx.iX (k:=k) (by omega) r))<|Qv (pf d 19) (fun b a=>iZ h5 19)<|Qv (.slice x (L.gn) (y)) (fun b a=>aN (m13.aI.dr a) 19)<|dY F ?_;obtain⟨ab,oq4,eq4,m15⟩:=(hG2.up I rfl) (by omega);have avJ:ab<D.heap.size:=m15.lt (by omega);refine Qv (pf ab (5*k+oq4)) (fun b a=>dh 5 (hx:=(rfl.trans (K_ (fun q=>Value.slice q (L.gn) (y)) eq4))))<|Qv (.agg (aA 5 (Vx L k))) (fun b a=>fI (m15.dr a) (5*k) (fun R r=>Fx.iX (k:=k) (by omega) r))<|Qv aF (fun b a=>Fx.Ev (n:=5) (ks := [(some .i64),(some .u64),(some .u64),(some .i64),(some .u64)]) (X:=Vx L k) (Y:=Vx L k) 12 true rfl rfl rfl (Fx.Ih (fun _ _=>rfl)) (Z7 (l.g k (by omega))) (Z7 (l.g k (by omega))) rfl (by kernel_rfl) (by kernel_rfl) (by kernel_rfl) (by kernel_rfl) (by kernel_rfl))<|Qn ?_;rintro _ ⟨G,rfl⟩;obtain⟨wq2,N⟩ : ∃ b,b=World.drewN D G:=⟨_,rfl⟩;rw[<- N];have s4:Stp D.heap.size D wq2:=by rw[N]; exact Sb (jH D G)
  have⟨m16,m17,b6⟩:=jZ s4.old T m13 I;clear N;refine sN<|aK<|Wk<|bR<|sN<|Wl<|aX F<|Lv (au ((k:Int)+1)) fC<|av (au ((k:Int)+1))<|Ln<|gV ⟨k+1,by omega,P,h5,Fx.ic,m16,m17,b6⟩ ?_;show(L.gn-(intOf (au ((k:Int)+1))).toNat)<_;simp only[F,intOf]; omega
 refine Lv aF (gX ad)<|aC<|aK<|Wx<|cK<|gJ<|cO<|sN<|ay<|av aG<|aC<|Wr<|aJ aG ?_;exact⟨rfl,I⟩
theorem YF{w:World}{b c:Dz}{L:gy}(h1:LP w b L)(a:LP w c L)(d:LWf L):Calls Tryz.prog 17 #[.agg (aA 20 (nL b)),.agg (aA 20 (nL c))] w fun e w'=>e = .returned (.bool true)/\Below w.heap.size w w':=by
 rw[h1.e,a.e];exact adP L _ _ _ _ _ _ _ _ w d h1.n a.n h1.g a.g
namespace Rt
def Np(x y:Value):Nat->Value:=fun q=>if q=0 then x else y
theorem agU(x y v:Value):dA (Np x y) 0 v=Np v y:=by funext q; unfold dA Np; split <;> rfl
theorem agV(x y v:Value) : ∀ j,j<2->dA (Np x y) 1 v j=Np x v j:=fun j a=>by
 unfold dA Np
 rcases j with _|_|j
 ·rfl
 ·rfl
 ·omega
def Hu(a:Nat->Nat):Nat->Value:=fun i=>(pt (a i))
def Hw(w:World)(B n:Nat)(b:Nat->Nat)(a:Nat->lu):Prop := ∀ i,i<n->vw w B (b i) (a i)
theorem Hw.up{w w':World}{B n:Nat}{b:Nat->Nat}{a:Nat->lu}(h:Hw w B n b a)(c:Below w.heap.size w w'):Hw w' B n b a:=fun i d=>(h i d).up c
instance {w w':World} {B n:Nat} {c:Nat->Nat} {a:Nat->lu}:Rt.Tr w w' (Hw w B n c a) (Hw w' B n c a):=⟨fun b h=>h.up b⟩
theorem Hw.kH{w w':World}{B n:Nat}{c:Nat->Nat}{b:Nat->lu}{a:List TypeId}(h:Hw w B n c b)(e:iD a w w')(f:(Kn.all fun T => !a.contains T)=true):Hw w' B n c b:=fun i d=>(h i d).kH e f
instance {w w':World} {B n:Nat} {d:Nat->Nat} {c:Nat->lu} {a:List TypeId}:Rt.Tc a w w' (Hw w B n d c) (Hw w' B n d c) (Kn.all fun T => !a.contains T):=⟨fun b h e=>h.kH b (by simpa using e)⟩
theorem Hw.put{w:World}{B n o p:Nat}{b:Nat->Nat}{a:Nat->lu}{m:lu}(h:Hw w B n b a)(d:vw w B p m):Hw w B n (aH b o p) (aH a o m):=fun i c=>by
 unfold aH;by_cases e:i=o
 ·rw[d_ e,d_ e]; exact d
 ·rw[b_ e,b_ e]; exact h i c
theorem Hw.snoc{w:World}{B n p:Nat}{b:Nat->Nat}{a:Nat->lu}{m:lu}(h:Hw w B n b a)(c:vw w B p m):Hw w B (n+1) (aH b n p) (aH a n m):=fun i d=>by
 unfold aH;by_cases e:i=n
 ·rw[d_ e,d_ e]; exact c
 ·rw[b_ e,b_ e]; exact h i (by omega)
theorem adQ{n p:Nat}{a:Nat->Nat}{z:Nat->Value} : ∀ j,j<(n+1)*1->iB (Hu a) (n*1) (bI z (0*1) 1 (fun _=>(pt p))) j=Hu (aH a n p) j:=by
 intro j b;unfold iB Hu aH;by_cases h:j<n*1
 ·rw[d_ h,b_ (by omega)]
 rw[b_ h,d_ (by omega)];unfold bI;rw[d_ (by omega)]
theorem Vz{o p:Nat}{a:Nat->Nat}:dA (Hu a) o (pt p)=Hu (aH a o p):=by
 funext j; unfold dA Hu aH
 by_cases h:j=o
 ·rw[d_ h,d_ h]
 rw[b_ h,b_ h]
theorem adR{n:Nat}{e:Nat->EvM}{v:EvM}{z:Nat->Value} : ∀ j,j<(n+1)*14->iB (evX e) (n*14) (bI z (0*14) 14 (bQ v)) j=evX (aH e n v) j:=fun j a =>
 (Fx.xJ j a).trans (bK (fun i _ q _=>by unfold Fx.qE aH; split <;> rfl) j a)
structure WM where
 n:Nat
 la:Option Addr
 lc:Nat
 pl:Nat->Nat
 ml:Nat->lu
 an:Nat
 aa:Option Addr
 ac:Nat
 ev:Nat->EvM
end Rt
structure og(w:World)(B p:Nat)(M:WM)(T:Nat):Prop where
 c:aQ w p 2 (Np (.slice M.la M.n M.lc) (.slice M.aa M.an M.ac)) 44
 l:Fx.Own w B 72 1 (.slice M.la M.n M.lc) M.n (Hu M.pl)
 a:Fx.Own w B 32 14 (.slice M.aa M.an M.ac) M.an (evX M.ev)
 g:Hw w B M.n M.pl M.ml
 inv : ∀ i,i<M.n->Inv (M.ml i).core T
 wf : ∀ k,k<M.an->fK (M.ev k)
 may : ∀ k,k<M.an->bM (M.ev k)=true
 sm : ∀ k,k<M.an->nZ (M.ev k)
 cz:Cz M.n M.an M.ev fun o=>(M.ml o).s.known
 pB:B<=p
 n1:1<=M.n
 n6:M.n<=6
def adS:List Nat := [44,72,32]++Kn
theorem og.up{w w':World}{B p T:Nat}{M:WM}(h:og w B p M T)(b:Below w.heap.size w w'):og w' B p M T := { h with c:=h.c.bZ (Sb b) (t_ h.c.lt),l:=h.l.up b,a:=h.a.up b,g:=h.g.up b }
instance {w w':World} {B p T:Nat} {M:WM}:Rt.Tr w w' (og w B p M T) (og w' B p M T):=⟨fun b h=>h.up b⟩
theorem og.kH{w w':World}{B p T:Nat}{M:WM}{e:List TypeId}(h:og w B p M T)(b:iD e w w')(j:(adS.all fun T => !e.contains T)=true):og w' B p M T:=by
 have i : ∀ d∈adS,e.contains d=false:=fun d f=>by
  have:=List.all_eq_true.1 j d f
  simpa using this
 exact { h with c:=h.c.kH b (i _ (by decide)),l:=h.l.kH b (i _ (by decide)),a:=h.a.kH b (i _ (by decide)),g:=h.g.kH b (List.all_eq_true.2 fun T f=>List.all_eq_true.1 j T (List.mem_append_right _ f)) }
instance {w w':World} {B p T:Nat} {M:WM} {a:List TypeId}:Rt.Tc a w w' (og w B p M T) (og w' B p M T) (adS.all fun T => !a.contains T):=⟨fun b h e=>h.kH b (by simpa using e)⟩
theorem YG{w:World}{B p k a:Nat}(d:aQ w p 27 (mE (kK k a)) 71)(f:aQ w a 1 (fun _ => .slice none 0 0) 123)(h1:B<=p)(b:B<=a):vw w B p (kK k a) where
 c:=d
 n:=wX _ _ _ _ _
 g:=wX _ _ _ _ _
 tc:=f
 t:=wX _ _ _ _ _
 r:=⟨fun _ _=>wX _ _ _ _ _,fun _ _ _ _ _ _ e=>by cases e⟩
 pB:=h1
 tB:=b
 bn:=J_ _
 bg:=J_ _
 bt:=J_ _
 br:=fun _ _=>J_ _
theorem Rt.Bg(k a:Nat):Inv (kK k a).core 0 where
 Ca:=rfl
 nn:=J_ _
 tid:=fun _ h=>L_ h (u_ _)
 rise:=fun _ _ _ h=>L_ h (u_ _)
 pos:=fun _ h=>L_ h (u_ _)
 top:=fun _ h=>L_ h (u_ _)
 up:=fun _ h=>L_ h (u_ _)
 dep:=fun _=>⟨0,J_ _,by show(-1:Int)<0; decide⟩
 gn:=z_ _
 rn:=fun _ _=>z_ _
 may:=fun _ h=>L_ h (u_ _)
 g47:=fun _ h=>L_ h (u_ _)
 kn:=fun _ _=>⟨M_ _,by show(0:Int)<_; decide⟩
 s:=⟨fun _ h=>L_ h (u_ _),fun _ h=>L_ h (u_ _)⟩
 b:=⟨fun _ _=>M_ _,fun _ h=>L_ h (u_ _),fun _ _ _ h=>L_ h (u_ _)⟩
set_option maxRecDepth 20000 in
theorem Nq(n:Nat)(w:World)(V:1<=n)(W:n<=6) :
 Calls Tryz.prog 12 #[au (n:Int)] w fun e w' => ∃ p M,e = .returned (pt p)/\M.n=n/\M.an=0/\(∀ i,(M.ml i).core=(kK n 0).core)/\og w' w.heap.size p M 0/\Below w.heap.size w w':=by
 refine Kent Tryz.func12 30 ?_;refine ay<|av (.pointer none)<|aC<|ay<|av (.agg (aA 2 (fun _ => .slice none 0 0)))<|qP fun b P lK X s1 z1 => ?_;have b1:=bG s1.old (Below.refl w.heap.size w);have uh:=gY lK;have vS:=X.lt;refine av (pt b)<|aC<|Ws<|ay<|av (au 0)<|aC<|Wb ?_;have m2:aQ P b 2 (Np (.slice none 0 0) (.slice none 0 0)) 44:=X.congr (fun j _=>by unfold Np; split <;> rfl)
 have m3:Fx.Own P w.heap.size 72 1 (.slice none 0 0) 0 (Hu (fun _=>0)):=wX _ _ _ _ _;have m4:Hw P w.heap.size 0 (fun _=>0) (fun _=>kK n 0):=fun _ h=>L_ h (u_ _);refine Wo (fun f G => ∃ k:Nat,∃ a:Option Addr,∃ u:Nat,∃ t:Nat->Nat,∃ r:Nat->lu,k<=n/\(∀ i,∃ z,r i=kK n z)/\f 0=au (n:Int)/\f 3=(pt b)/\f 4=au (k:Int)/\aQ G b 2 (Np (.slice a k u) (.slice none 0 0)) 44/\Fx.Own G w.heap.size 72 1 (.slice a (k) (u)) k (Hu t)/\Hw G w.heap.size k t r/\Below w.heap.size w G) (fun f _=>(n-(intOf (f 4)).toNat)) ⟨0,none,0,(fun _=>0),(fun _=>kK n 0),by omega,(fun _=>⟨0,rfl⟩),Fx.ic,(by rfl),Fx.ic,m2,m3,m4,b1⟩ ?_;rintro f1 w2 ⟨k,a,u,t,r,hk,F,J,E,K,m5,m6,m7,A⟩;refine Ws<|ay<|aX K<|aX J ?_;by_cases S:(k:Int)<(n:Int)
 ·refine Lv aG (gW S)<|aC<|aO<|Wk<|sN<|Ws<|Wb<|ay<|aX J<|lX (afu n _ V W) ?_;rintro e9 w3 ⟨d,O,T,hp3,_,hb3,hc3,ht3,aoW⟩;refine⟨.tuple #[(pt d),au 0],T,?_⟩;clear T;have⟨N,m9,m10,Q⟩:=nV hb3 m5 m6 m7 A;have hL1:vw w3 w.heap.size d (kK n O):=YG hc3 ht3 (m_ A.size hp3) (m_ A.size aoW);refine av (.tuple #[(pt d),au 0])<|av (pt d)<|av (au 0)<|av (pt d)<|av (au 0)<|aC<|Wl<|aX E<|aX E<|av (pt b)<|av (pt b)<|Lv (.slice a (k) (u)) (aN N.aI 0)<|av (pt d)<|yZ (vs := [(0,(pt d))]) (s:=1) (zc:=fun _ => .pointer none) (y:=bI (fun j => .pointer none) (0*1) 1 (fun _=>(pt d))) (by rfl) rfl rfl Tryz.underlying41 (by kernel_rfl) (by rfl) (by rfl) (by kernel_rfl) (by rw[bD (off:=0*1) (s:=1) (y:=fun _=>(pt d)) rfl (cells_one (by rfl)) (by rfl)]; rfl) rfl fun g2 w4 I Y s3 z2 => ?_;have⟨m12,L,m14,m15,H⟩:=vM s3.old N m9 m10 hL1 Q;have su:=jI I Q.size;have Fw:=cu I N.lt;have Aj:(.slice a (k) (u):Value).ownBlock≠some g2:=by rw[I]; exact m9.jX (z_ _)
  have AL:=Y.lt;refine zx (B:=w.heap.size) (s:=1) (bytes:=8) (k:=k) (m:=1) (v := .slice a (k) (u)) (x:=Hu t) (by rfl) rfl rfl rfl Tryz.underlying41 (by kernel_rfl) (by kernel_rfl) rfl rfl L Y.aI (yM (fun _=>rfl)) (by omega) (by omega) (by omega) H.size fun D C w5 ho1 U vR hlt1 => ?_;have gK:=zy U L;have⟨Z,m18,m19⟩:=F7 gK m12 m14 m15;have m16:Fx.Own w5 w.heap.size 72 1 (bO D (k+1) C) (k+1) (Hu (aH t k d)):=(ho1.congr (fun j hj=>adQ j hj));have R:Below w.heap.size w w5:=zw H U H.size (fun q hq=>(L.ge hq).1);refine av (pt b)<|av (pt b)<|iM Z 0 (bO D (k+1) C) fun w6 m20 s4 z3 => ?_;have m21:aQ w6 b 2 (Np (bO D (k+1) C) (.slice none 0 0)) 44:=m20.to (agU _ _ _);have kg:=gI s4 Z.ty;have⟨m22,m23,m24⟩:=F7 kg m18 m19 m16;have b6:=s4.below R R.size (by omega);refine Ln<|bR<|sN<|Wl<|aX K<|Lv (au ((k:Int)+1)) fC<|av (au ((k:Int)+1))<|Ln ?_;have nT:Hw w6 w.heap.size (k+1) (aH t k d) (aH r k (kK n O)):=m22.snoc m23
  skip
  refine gV ⟨k+1,(some ⟨D,0,none⟩),C,(aH t k d),(aH r k (kK n O)),by omega,(fun i=>by unfold aH; split <;> first|exact⟨_,rfl⟩|exact F i),(J.trans Fx.ic),E,Fx.ic,m21,m24,nT,b6⟩ ?_
  show(n-(intOf (au ((k:Int)+1))).toNat)<_;simp only[K,intOf]; omega
 refine Lv aF (gX S)<|aC<|aK<|Wx<|cK<|gJ<|cO<|sN<|ay<|aX E<|av (pt b)<|aC<|Wr<|aJ (pt b) ?_;obtain rfl:k=n:=by omega
 exact⟨b,⟨k,a,u,t,r,0,none,0,fun _=>⟨0,0,fun _=>0,0,0,0,0,0,0⟩⟩,rfl,rfl,rfl,(fun i=>by obtain⟨z,e⟩:=F i; show(r i).core=_; rw[e]; rfl),{ c:=m5,l:=m6,a:=wX _ _ _ _ _,g:=m7,inv:=fun i _=>by obtain⟨z,e⟩:=F i; show Inv (r i).core 0; rw[e]; exact Bg k z,wf:=fun _ h=>L_ h (u_ _),may:=fun _ h=>L_ h (u_ _),sm:=fun _ h=>L_ h (u_ _),cz:=Cz.zero k (fun o _=>by obtain⟨z,e⟩:=F o; show(r o).s.known=_; rw[e]; rfl),pB:=uh,n1:=V,n6:=W },A⟩
end Go.Proofs.YtahbiajdgealnaaGreatDoor
namespace Go.Proofs.YtahbiajdgealnaaGreatDoor
open Go.RowKit Go Rt
set_option linter.unusedVariables false
set_option maxRecDepth 20000
namespace Rt
section
variable {L:gy} {N:Nat} {v:EvM}
theorem Nr(b:Inv0 L N)(h:Ai L):Ai (bP L v):=by
 unfold bP;by_cases c:bH L v=0
 ·rw[d_ c];have a:=(DK (jK c)).1;have d:dR L v=0:=by
   unfold bH at c;rw[b_ (by rw[a]; decide)]at c;split at c; · cases c
   split at c; · cases c
   split at c; · cases c
   exact c
  have:=GY b h a d;exact⟨this.us,this.gb⟩
 rw[b_ c]; exact h
def Cu(L:gy)(x i:Int):Int:=if L.node x<0 then 0 else fJ (L.R (L.node x).toNat) i
theorem Ns(i:Int):fJ FH i=0:=by
 unfold fJ;by_cases c:(gH i&&may FH)=true
 ·rw[d_ c];rw[R_]at c;obtain⟨a,d,e,b⟩:=qL c.1;have:=yK (mD c.2) a d;rw[b,this]; rfl
 rw[b_ c]
theorem fT.local{m:dP}(h:fT m L)(a:Inv0 L N)(x i:Int):fJ (aZ m x) i=Cu L x i:=by
 unfold aZ Cu;by_cases c:L.node x<0
 ·rw[b_ (by rw[(h.K7 a x).2 c]; decide),d_ c]; exact Ns i
 rw[d_ ((h.node a x).2 (by omega)),b_ c,h.rk a (by omega)]
structure Hy(m m':dP):Prop where
 et:m'.tp=m.tp
 em:m'.mb=m.mb
 ep:m'.pb=m.pb
 er:m'.rb=m.rb
 eg:m'.gb=m.gb
 ea:m'.ab=m.ab
theorem Hy.refl(m:dP):Hy m m:=⟨rfl,rfl,rfl,rfl,rfl,rfl⟩
theorem Hy.trans{a b c:dP}(h:Hy a b)(k:Hy b c):Hy a c:=⟨k.et.trans h.et,k.em.trans h.em,k.ep.trans h.ep,k.er.trans h.er,k.eg.trans h.eg,k.ea.trans h.ea⟩
end
end Rt
structure Cv(w:World)(B lp:Nat)(m:dP)(L:gy)(N:Nat):Prop where
 q:lH w B lp m
 s:fT m L
 i:Inv0 L N
 u:Ai L
 g:zq L
section
variable {w w':World} {B lp:Nat} {m:dP} {L:gy} {N:Nat} {v:EvM}
theorem Cv.up(h:Cv w B lp m L N)(a:Below w.heap.size w w'):Cv w' B lp m L N := { h with q:=h.q.up a }
instance:Rt.Tr w w' (Cv w B lp m L N) (Cv w' B lp m L N):=⟨fun b h=>h.up b⟩
theorem Cv.kH{a:List TypeId}(h:Cv w B lp m L N)(b:Fx.iD a w w')(c:(a.contains 106 || a.contains 135)=false):Cv w' B lp m L N := { h with q:=h.q.kH b c }
instance {a:List TypeId}:Rt.Tc a w w' (Cv w B lp m L N) (Cv w' B lp m L N) (!(a.contains 106 || a.contains 135)):=⟨fun b h e=>h.kH b (by simpa using e)⟩
theorem Cv.weak{a:Nat}(h:Cv w B lp m L N)(b:a<=B):Cv w a lp m L N := { h with q:=h.q.weak b }
theorem Cv.mono{N':Nat}(h:Cv w B lp m L N)(a:N<=N'):Cv w B lp m L N' := { h with i:=h.i.mono a }
theorem Cv.wf(h:Cv w B lp m L N)(a:N<=900000):LWf L:=LWf.of h.i h.u h.g a
theorem lH.yu(h:lH w B lp m)(a:Fx.jP (UC m lp w.heap.size) w w')(c:B<=w.heap.size):Below B w w':=⟨a.os,a.tape,a.output,a.size,fun k d=>a.block k (by omega) fun b=>by
 rcases b with b|b
 ·have:=(h.ltS b).1; omega
 ·omega⟩
theorem lH.typed(h:lH w B lp m)(d:Fx.jP (UC m lp w.heap.size) w w'):Fx.wZ [106] w w':=⟨d.os,d.tape,d.output,d.size,fun k T b e=>d.block k b.ltw fun f=>by
 rcases f with (rfl|rfl|rfl|rfl|rfl|rfl)|f
 ·have:=Fx.Ty.only h.c.ty b;rw[this]at e; simp at e
 ·exact h.t.map.rA b
 ·exact h.p.rA b
 ·exact h.r.rA b
 ·exact h.g.rA b
 ·exact h.a.rA b
 ·have:=b.ltw; omega⟩
theorem QH{B:Nat}{a b c:World}(h:Below a.heap.size a b)(e:Below B b c)(d:a.heap.size<=B):Below a.heap.size a c:=h.trans (e.mono d)
theorem Cw{P:Program}{g:Nat}{a b:Array Value}{w:World}{R:Ending->World->Prop}(h:Calls P g b w R)(e:a=b):Calls P g a w R:=e ▸ h
theorem OZ{x:Value}{y:Nat->Value}(hy : ∀ j,j<14->y j=bQ v j):(#[x,.agg (Fx.aA 14 y)]:Array Value) = #[x,.agg (Fx.aA 14 (bQ v))]:=K_ (fun z=>(#[x,.agg z]:Array Value)) (Fx.eT hy)
theorem Z8(k:Nat)(d:1<=k/\k<=6)(w:World):Calls Tryz.prog 14 #[au (k:Int)] w fun e w' => ∃ lp m,e = .returned (.tuple #[(pt lp),au 0])/\Cv w' w.heap.size lp m (kK k 0).core 0/\Below w.heap.size w w' :=
 (agO k d w).mono fun e w' ⟨lp,m,c,⟨n,i,j,l,h,g,a⟩,f,b⟩=>⟨lp,m,c,⟨f,by rw[a]; exact fT.new ..,(Bg k 0).toInv0,(Bg k 0).s,Vv k 0⟩,b⟩
theorem yS(h:Cv w B lp m L N)(b:fK v)(c:1<=B)(d:Fx.iQ w 0 0 8 Gd){y:Nat->Value}(hy : ∀ j,j<14->y j=bQ v j) :
 Calls Tryz.prog 15 #[(pt lp),.agg (Fx.aA 14 y)] w fun e w'=>e = .returned (au (bH L v))/\Cv w' B lp (jG m v) (bP L v) (N+1)/\Fx.jP (UC m lp w.heap.size) w w':=by
 have a:=h.s.apply h.q.t.inv h.i v;refine Cw ((Yn m lp B w h.q v b (h.s.sound h.q.t.inv h.i) c d).mono fun e w' ⟨k,l,f⟩=>⟨by rw[k,a.1],⟨l,a.2,Ah h.i,Nr h.i h.u,Nn h.g b⟩,f⟩) (OZ hy)
theorem Jf(h:Cv w B lp m L N)(g:fK v)(a:1<=B)(b:Fx.iQ w 0 0 8 Gd){y:Nat->Value}(hy : ∀ j,j<14->y j=bQ v j) :
 Calls Tryz.prog 22 #[(pt lp),.agg (Fx.aA 14 y)] w fun e w'=>e = .returned (au (bH L v))/\Below w.heap.size w w':=by
 have f:=h.s.apply h.q.t.inv h.i v;refine Cw ((aox m lp B w h.q v g (h.s.sound h.q.t.inv h.i) a b).mono fun e w' ⟨d,c⟩=>⟨by rw[d,f.1],c⟩) (OZ hy)
theorem YH(h:Cv w B lp m L N):Calls Tryz.prog 23 #[(pt lp)] w fun e w'=>e = .returned (.agg (Fx.aA 6 (Fx.rv .u64 L.known)))/\Below w.heap.size w w':=by
 rw[<- h.s.known]; exact Yo m lp B w h.q
theorem O1(h:Cv w B lp m L N)(i x:Int)(hi : -9223372036854775808<=i/\i<=9223372036854775807):Calls Tryz.prog 19 #[(pt lp),au i,aD x] w fun e w'=>e = .returned (au (Cu L x i))/\Below w.heap.size w w':=by
 rw[<- h.s.local h.i]; exact Yp m lp B w h.q i x hi
structure LQ(w:World)(B:Nat)(s:Dz)(L:gy):Prop where
 e:s=QG L s.na s.nc s.ga s.gc
 n:Fx.Own w B 61 56 (.slice s.na L.nn s.nc) L.nn (Fx.flat 56 (Vw L))
 g:Fx.Own w B 66 5 (.slice s.ga L.gn s.gc) L.gn (Fx.flat 5 (Vx L))
theorem LQ.r{s:Dz}(h:LQ w B s L):LP w s L:=⟨h.e,h.n.arr,h.g.arr⟩
theorem LQ.up{s:Dz}(h:LQ w B s L)(a:Below w.heap.size w w'):LQ w' B s L:=⟨h.e,h.n.up a,h.g.up a⟩
instance {s:Dz}:Rt.Tr w w' (LQ w B s L) (LQ w' B s L):=⟨fun b h=>h.up b⟩
theorem LQ.kH{s:Dz}{a:List TypeId}(h:LQ w B s L)(c:Fx.iD a w w')(b:(a.contains 61 || a.contains 66)=false):LQ w' B s L:=by
 rw[Bool.or_eq_false_iff]at b;exact⟨h.e,h.n.kH c b.1,h.g.kH c b.2⟩
instance {s:Dz} {a:List TypeId}:Rt.Tc a w w' (LQ w B s L) (LQ w' B s L) (!(a.contains 61 || a.contains 66)):=⟨fun b h e=>h.kH b (by simpa using e)⟩
theorem LQ.CU{s:Dz}{a:List TypeId}(h:LQ w B s L)(c:Fx.wZ a w w')(b:(a.contains 61 || a.contains 66)=false):LQ w' B s L:=by
 rw[Bool.or_eq_false_iff]at b;exact⟨h.e,h.n.CU c b.1,h.g.CU c b.2⟩
theorem Jg(h:Cv w B lp m L N)(z:N<=900000):Calls Tryz.prog 18 #[(pt lp)] w fun e w' => ∃ s,e = .returned (.agg (Fx.aA 20 (nL s)))/\LQ w' w.heap.size s L/\Below w.heap.size w w':=by
 refine(YC m lp B w h.q (by rw[h.s.gn]; have:=h.i.gn; omega)).mono fun e w' ⟨s,l,y,x,a,v⟩=>⟨s,x,?_,v⟩;have b:=StC.of h.s h.i h.g a.ls a.gs;have o:s.nn=L.nn:=by rw[a.nn,b.nn]
 have p:s.gn=L.gn:=by rw[a.gn,b.gn]
 have f:=a.n;have d:=a.g;rw[o]at f;rw[p]at d;refine⟨(LP.of a h.s h.i h.g).e,f.congr (Fx.bK fun k c j _ => ?_),d.congr (Fx.bK fun k c j _ => ?_)⟩
 ·obtain⟨r,t,u⟩:=b.n k c;unfold Vr Vw;rw[t,u,r]
 unfold Wz Vx;rw[b.g k c]
end
end Go.Proofs.YtahbiajdgealnaaGreatDoor
namespace Go.Proofs.YtahbiajdgealnaaGreatDoor
open Go.RowKit Rt
open Fx (fE eO fM bA gN gM dB dS gD jA eG jB fZ jC jf Lv sN Ln Ws Qv Wl Rp Wc Qs Wr Sb Lk Wk rC rV sR Rs Rn Rd Rk Wb Wx Wo DX Wt qY Jc Qn FZ Bn yZ zx CP DU qo gI zy ng uy uw vL wX zw CV zQ rv aA aQ bI aM ev cB Stp dI aT flat dA Mp eU aW gU iQ bD down iO jP kL iP ni bK bJ cells_one iD bV tO unseen jL iB bX dJ bL bR cK cO gJ gV pV gP)
set_option maxRecDepth 20000
set_option linter.unusedVariables false
namespace Rt
def O4:Int:=1099511627777
def VA(n:Int)(i:Nat):Int:=if i=0 then n else 0
def vA:EvM:=⟨1,1,fun _=>0,1,0,0,10,0,0⟩
def vB:EvM:=⟨2,1,VA 1,3,O4,0,4,1,0⟩
def vC:EvM:=⟨1,2,VA 1,5,O4,2,4,0,0⟩
def vD:EvM:=⟨2,1,VA 2,3,O4,0,4,1,0⟩
theorem Nt{n:Int}(h:iG n)(i:Nat):iG (VA n i):=by
 unfold VA;split
 ·exact h
 exact⟨by decide,by decide⟩
theorem agW:fK vA:=⟨⟨by decide,by decide⟩,⟨by decide,by decide⟩,fun _ _=>⟨M_ 0,(by decide:(0:Int)<=18446744073709551615)⟩,⟨by decide,by decide⟩,⟨by decide,by decide⟩,⟨by decide,by decide⟩,⟨by decide,by decide⟩,⟨by decide,by decide⟩,⟨by decide,by decide⟩⟩
theorem agX:fK vB:=⟨⟨by decide,by decide⟩,⟨by decide,by decide⟩,fun i _=>Nt ⟨by decide,by decide⟩ i,⟨by decide,by decide⟩,⟨by decide,by decide⟩,⟨by decide,by decide⟩,⟨by decide,by decide⟩,⟨by decide,by decide⟩,⟨by decide,by decide⟩⟩
theorem agY:fK vC:=⟨⟨by decide,by decide⟩,⟨by decide,by decide⟩,fun i _=>Nt ⟨by decide,by decide⟩ i,⟨by decide,by decide⟩,⟨by decide,by decide⟩,⟨by decide,by decide⟩,⟨by decide,by decide⟩,⟨by decide,by decide⟩,⟨by decide,by decide⟩⟩
theorem agZ:fK vD:=⟨⟨by decide,by decide⟩,⟨by decide,by decide⟩,fun i _=>Nt ⟨by decide,by decide⟩ i,⟨by decide,by decide⟩,⟨by decide,by decide⟩,⟨by decide,by decide⟩,⟨by decide,by decide⟩,⟨by decide,by decide⟩,⟨by decide,by decide⟩⟩
theorem VB{m:dP}(b:m.T.ok)(v:EvM):(jG m v).T.ok:=by
 unfold jG;by_cases c:bY m v=0
 ·rw[d_ c];have f:=pI c;have a:=(pJ c).2.1;have g:=lU f;show(iK m v).T.ok;unfold fB at a;unfold iK;by_cases d:v.kind=1
  ·rw[d_ d]at a ⊢;have e:m.T.err (mZ v) v.node=0:=by
    unfold iV at a;split at a
    ·cases a
    ·exact a
   exact Bo.put b e (by unfold mZ; omega)
  rw[b_ d]
  repeat' split
  all_goals exact b
 rw[b_ c]; exact b
structure En(m:dP)(L:gy)(N:Nat):Prop where
 s:fT m L
 t:m.T.ok
 i:Inv0 L N
theorem En.new(k:Nat):En (yj k 0 0 0 0 0 0) (kK k 0).core 0:=⟨fT.new ..,Bo.zero _ _,(Bg k 0).toInv0⟩
theorem En.apply{m:dP}{L:gy}{N:Nat}(h:En m L N)(v:EvM):En (jG m v) (bP L v) (N+1):=⟨(h.s.apply h.t h.i v).2,VB h.t v,Ah h.i⟩
theorem En.err{m:dP}{L:gy}{N:Nat}(h:En m L N)(v:EvM){c:Int}(e:bY m v=c):bH L v=c:=(h.s.apply h.t h.i v).1.symm.trans e
theorem En.loc{m:dP}{L:gy}{N:Nat}(h:En m L N)(x i:Int){c:Int}(e:fJ (aZ m x) i=c):Cu L x i=c:=(h.s.local h.i x i).symm.trans e
noncomputable def wq0:dP:=yj 2 0 0 0 0 0 0
noncomputable def CY:dP:=jG wq0 vA
noncomputable def wq2:dP:=jG CY vC
noncomputable def Qc:dP:=jG wq2 vD
theorem tw0:En wq0 (kK 2 0).core 0 := .new 2
theorem tw1:En CY (bP (kK 2 0).core vA) 1:=tw0.apply vA
theorem tw2:En wq2 (bP (bP (kK 2 0).core vA) vC) 2:=tw1.apply vC
theorem tw3:En Qc (bP (bP (bP (kK 2 0).core vA) vC) vD) 3:=tw2.apply vD
theorem YI:bH (kK 2 0).core vA=0:=tw0.err vA (by kernel_rfl)
theorem YJ:bH (bP (kK 2 0).core vA) vB=11:=tw1.err vB (by kernel_rfl)
theorem YK:bH (bP (kK 2 0).core vA) vC=0:=tw1.err vC (by kernel_rfl)
theorem YL:bH (bP (bP (kK 2 0).core vA) vC) vD=0:=tw2.err vD (by kernel_rfl)
theorem O5:aZ Qc O4=(bB (wq2.R 0) 2 4).1:=by
 unfold aZ;rw[d_ (show Qc.T.has O4=true by kernel_rfl)];unfold Dj;rw[show Qc.idx O4=0 by kernel_rfl,show Qc.R 0=(oK wq2 (fun x=>bB x 2 4) (wq2.T.path O4)).R 0 by kernel_rfl];show(if wq2.T.x 0∈wq2.T.path O4 then(bB (wq2.R 0) 2 4).1 else wq2.R 0)=_;rw[d_];rw[show wq2.T.path O4 = [O4] by kernel_rfl];exact List.mem_singleton.2 (by kernel_rfl)
theorem YM:Cu (bP (bP (bP (kK 2 0).core vA) vC) vD) O4 1=6:=tw3.loc _ _ (by rw[O5]; kernel_rfl)
theorem YN:Cu (bP (bP (bP (kK 2 0).core vA) vC) vD) O4 2=0:=tw3.loc _ _ (by rw[O5]; kernel_rfl)
theorem YO:(bP (bP (bP (kK 2 0).core vA) vC) vD).gn=1:=tw3.s.gn.symm.trans (by kernel_rfl)
end Rt
theorem tL(w:World)(c:iQ w 0 0 8 Gd) :
 Calls Tryz.prog 11 #[] w fun e w'=>e = .returned (.bool true)/\Below w.heap.size w w':=by
 have g:=c.lt (by omega);have f:1<=w.heap.size:=by omega
 refine Kent Tryz.func11 69 ?_;refine ay<|av aF<|aC<|ay<|lX (Z8 2 (by omega) _) ?_;rintro H Y ⟨lp,X,d,R,I⟩;refine⟨_,d,?_⟩;clear d;have n:=R.weak (Below.refl w.heap.size w).size;have h:=bG I (Below.refl w.heap.size w);refine av (.tuple #[(pt lp),au 0])<|av (pt lp)<|av (au 0)<|av (pt lp)<|av (au 0)<|aC<|Ws<|ay<|av (au 0)<|Lv aF (jM rfl)<|av aF<|av (pt lp)<|Lv aF (Fx.qD rfl rfl rfl (by kernel_rfl))<|av aF<|aC<|aK<|Wk<|sN<|ay<|av (aD 1099511627777)<|aC<|ay<|av (pt lp)<|av (.agg (aA 14 (bI (bI (bI (bI (fun a=>if a<1 then au 0 else if a<8 then aD 0 else if a<9 then .int .u8 (0)else if a<10 then aD 0 else if a<12 then au 0 else aD 0) 0 1 (fun _=>au 1)) 1 1 (fun _=>aD 1)) 8 1 (fun _ => .int .u8 (1))) 11 1 (fun _=>au 10))))<|dL (yS (v:=vA) n agW f (c.below h g) (fun j l=>by rcases j with _|_|_|_|_|_|_|_|_|_|_|_|_|_|j <;> first|rfl|omega)) (au 0) (by rw[YI]) ?_
 rintro Z ⟨A,t⟩;have U:=n.q.typed t;have N:=n.q.yu t h.size;have r:=QH h N (z_ _);refine av (au 0)<|aC<|ay<|av (pt lp)<|Lv (.agg (aA 6 (bI (rv .u64 (fun _=>0)) 0 1 (fun _=>aD 1)))) (Fx.vI (vs := [(0,aD 1)]) (s:=1) (m:=6) (x:=rv .u64 (fun _=>0)) rfl rfl Tryz.underlying30 (by kernel_rfl) (by kernel_rfl) (by rw[bD (off:=0) (s:=1) (y:=fun _=>aD 1) (by kernel_rfl) (cells_one (by rfl)) (by rfl)]; rfl))<|av (aD 1099511627777)<|av (.agg (aA 14 (bI (bI (bI (bI (bI (bI (bI (fun a=>if a<1 then au 0 else if a<8 then aD 0 else if a<9 then .int .u8 (0)else if a<10 then aD 0 else if a<12 then au 0 else aD 0) 0 1 (fun _=>au 2)) 1 1 (fun _=>aD 1)) 2 6 (bI (rv .u64 (fun _=>0)) 0 1 (fun _=>aD 1))) 8 1 (fun _ => .int .u8 (3))) 9 1 (fun _=>aD 1099511627777)) 11 1 (fun _=>au 4)) 12 1 (fun _=>aD 1))))<|dL (Jf (v:=vB) A agX f (c.below r g) (fun j l=>by rcases j with _|_|_|_|_|_|_|_|_|_|_|_|_|_|j <;> first|rfl|omega)) (au 11) (by rw[YJ]) ?_
 intro w3 J;have⟨p,i⟩:=fq J A r;refine av (au 11)<|aC<|ay<|av (pt lp)<|Lv (.agg (aA 6 (bI (rv .u64 (fun _=>0)) 0 1 (fun _=>aD 1)))) (Fx.vI (vs := [(0,aD 1)]) (s:=1) (m:=6) (x:=rv .u64 (fun _=>0)) rfl rfl Tryz.underlying30 (by kernel_rfl) (by kernel_rfl) (by rw[bD (off:=0) (s:=1) (y:=fun _=>aD 1) (by kernel_rfl) (cells_one (by rfl)) (by rfl)]; rfl))<|av (aD 1099511627777)<|av (.agg (aA 14 (bI (bI (bI (bI (bI (bI (bI (fun a=>if a<1 then au 0 else if a<8 then aD 0 else if a<9 then .int .u8 (0)else if a<10 then aD 0 else if a<12 then au 0 else aD 0) 0 1 (fun _=>au 1)) 1 1 (fun _=>aD 2)) 2 6 (bI (rv .u64 (fun _=>0)) 0 1 (fun _=>aD 1))) 8 1 (fun _ => .int .u8 (5))) 9 1 (fun _=>aD 1099511627777)) 10 1 (fun _=>au 2)) 11 1 (fun _=>au 4))))<|dL (yS (v:=vC) p agY f (c.below i g) (fun j l=>by rcases j with _|_|_|_|_|_|_|_|_|_|_|_|_|_|j <;> first|rfl|omega)) (au 0) (by rw[YK]) ?_
 rintro w4 ⟨o,u⟩;have V:=p.q.typed u;have O:=p.q.yu u i.size;have k:=QH i O (z_ _);refine av (au 0)<|aC<|ay<|av (pt lp)<|Lv (.agg (aA 6 (bI (rv .u64 (fun _=>0)) 0 1 (fun _=>aD 2)))) (Fx.vI (vs := [(0,aD 2)]) (s:=1) (m:=6) (x:=rv .u64 (fun _=>0)) rfl rfl Tryz.underlying30 (by kernel_rfl) (by kernel_rfl) (by rw[bD (off:=0) (s:=1) (y:=fun _=>aD 2) (by kernel_rfl) (cells_one (by rfl)) (by rfl)]; rfl))<|av (aD 1099511627777)<|av (.agg (aA 14 (bI (bI (bI (bI (bI (bI (bI (fun a=>if a<1 then au 0 else if a<8 then aD 0 else if a<9 then .int .u8 (0)else if a<10 then aD 0 else if a<12 then au 0 else aD 0) 0 1 (fun _=>au 2)) 1 1 (fun _=>aD 1)) 2 6 (bI (rv .u64 (fun _=>0)) 0 1 (fun _=>aD 2))) 8 1 (fun _ => .int .u8 (3))) 9 1 (fun _=>aD 1099511627777)) 11 1 (fun _=>au 4)) 12 1 (fun _=>aD 1))))<|dL (yS (v:=vD) o agZ f (c.below k g) (fun j l=>by rcases j with _|_|_|_|_|_|_|_|_|_|_|_|_|_|j <;> first|rfl|omega)) (au 0) (by rw[YL]) ?_
 rintro w5 ⟨B,z⟩;have W:=o.q.typed z;have P:=o.q.yu z k.size;have D:=QH k P (z_ _);refine av (au 0)<|aC<|ay<|av (au 0)<|Lv aG (dX rfl)<|av aG<|av (au 11)<|Lv aG (dX rfl)<|av aG<|av aG<|av (au 0)<|Lv aG (dX rfl)<|av aG<|av aG<|av (au 0)<|Lv aG (dX rfl)<|av aG<|av aG<|av (pt lp)<|av (aD 1099511627777)<|dL (O1 B 1 O4 (by omega)) (au 6) (by rw[YM]) ?_;intro w6 K;have⟨C,E⟩:=fq K B D;refine Lv aG (dX rfl)<|av aG<|av aG<|av (pt lp)<|av (aD 1099511627777)<|dL (O1 C 2 O4 (by omega)) (au 0) (by rw[YN]) ?_;intro w7 L;have⟨T,F⟩:=fq L C E;refine Lv aG (dX rfl)<|av aG<|av aG<|av (pt lp)<|lX (Jg T (by omega)) ?_;rintro H w8 ⟨b,d,S,M⟩;refine⟨_,d,?_⟩;clear d;have G:=bG M F;have Q:b.gn=1:=(K_ Dz.gn S.e).trans YO;refine Lv (.slice b.ga (b.gn) (b.gc)) (Fx.Pf (y:=nL b) rfl rfl Tryz.underlying53 rfl (by kernel_rfl) (by kernel_rfl) rfl)<|av (au b.gn)<|Lv aG (jf rfl rfl rfl (by rw[Q]; rfl))<|av aG<|av aG<|aC<|Wr<|aJ aG ?_;exact⟨rfl,G⟩
namespace Rt
structure Gf where
 who:Nat
 meet:Bool
 other:Nat
 kind:Nat
 node:Nat
 dst:Nat
 aS:Nat
 req:Nat
 of:Nat
structure HY(x:Gf):Prop where
 who:x.who<=255
 other:x.other<=255
 kind:x.kind<=255
 node:x.node<=255
 dst:x.dst<=255
 aS:x.aS<=65535
 req:x.req<=255
 of:x.of<=255
def Gg(x:Gf):Nat->Value:=fun p=>if p=0 then .int .u8 (x.who:Int)else if p=1 then .bool x.meet else if p=2 then .int .u8 (x.other:Int)else if p=3 then .int .u8 (x.kind:Int)else if p=4 then .int .u8 (x.node:Int)else if p=5 then .int .u8 (x.dst:Int)else if p=6 then .int .u16 (x.aS:Int)else if p=7 then .int .u8 (x.req:Int)else .int .u8 (x.of:Int)
theorem FL{k n r:Nat}(e:r=k % n):Int.tmod (k:Int) (n:Int)=(r:Int):=by
 rw[Int.tmod_eq_emod_of_nonneg (by omega),e];exact(Int.natCast_emod k n).symm
theorem Eo(V:EvM)(x:Int) : ∀ j,j<14->dA (bQ V) 9 (aD x) j=bQ { V with node:=x } j:=fun j a=>by
 rcases j with _|_|_|_|_|_|_|_|_|_|_|_|_|_|j <;> first|rfl|omega
theorem VD(V:EvM)(x:Int) : ∀ j,j<14->dA (bQ V) 10 (au x) j=bQ ⟨V.o,V.seq,V.deps,V.kind,V.node,x,V.aS,V.req,V.of⟩ j:=fun j a=>by
 rcases j with _|_|_|_|_|_|_|_|_|_|_|_|_|_|j <;> first|rfl|omega
theorem FM(V:EvM)(x:Int) : ∀ j,j<14->dA (bQ V) 11 (au x) j=bQ { V with aS:=x } j:=fun j a=>by
 rcases j with _|_|_|_|_|_|_|_|_|_|_|_|_|_|j <;> first|rfl|omega
theorem VE(V:EvM)(x:Int) : ∀ j,j<14->dA (bQ V) 12 (aD x) j=bQ { V with req:=x } j:=fun j a=>by
 rcases j with _|_|_|_|_|_|_|_|_|_|_|_|_|_|j <;> first|rfl|omega
theorem aha(V:EvM)(x:Int) : ∀ j,j<14->dA (bQ V) 13 (aD x) j=bQ { V with of:=x } j:=fun j a=>by
 rcases j with _|_|_|_|_|_|_|_|_|_|_|_|_|_|j <;> first|rfl|omega
end Rt
set_option maxRecDepth 20000 in
set_option maxHeartbeats 2000000 in
theorem YP(M:WM)(B p T:Nat)(x:Gf)(w:World)(Z:og w B p M T)(hx:HY x) :
 Calls Tryz.prog 38 #[(pt p),.agg (aA 9 (Gg x))] w fun e w' => ∃ V,fK V/\nZ V/\(V.o=((x.who % M.n:Nat):Int)+1/\V.seq=(M.ml (x.who % M.n)).s.known (x.who % M.n)+1/\V.deps=(M.ml (x.who % M.n)).s.known)/\e = .returned (.agg (aA 14 (bQ V)))/\Below w.heap.size w w':=by
 have hWc:=Z.c;have hWl:=Z.l;have hWa:=Z.a;have hWg:=Z.g;have hn1:=Z.n1;have hn6:=Z.n6;have hpB:=Z.pB;have lpp:p<w.heap.size:=hWc.lt;have hxw:=hx.who;have hxo:=hx.other;have hxk:=hx.kind;have hxn:=hx.node;have hxt:=hx.dst;have hxa:=hx.aS;have hxr:=hx.req;have hxf:=hx.of;refine Kent Tryz.func38 143 ?_;refine ay<|qP fun G w1 lK m1 s1 z1 => ?_;have⟨m2,m3,m4,m5,b1⟩:=vM s1.old hWc hWl hWa hWg (Below.refl w.heap.size w);have uh:=gY lK;have nE:=cu lK hWc.lt;have vS:=m1.lt;refine wL 14 (fun h=>if h<1 then au 0 else if h<8 then aD 0 else if h<9 then .int .u8 (0)else if h<10 then aD 0 else if h<12 then au 0 else aD 0) fun U w2 xU m6 s2 z2 => ?_;have⟨m7,m8,m9,m10,m11,b2⟩:=ru s2.old m2 m3 m4 m5 m1 b1;have su:=jI xU b1.size;have TI:=cu xU m2.lt;have OG:(.slice M.aa (M.an) (M.ac):Value).ownBlock≠some U:=by rw[xU]; exact m4.jX (z_ _)
 have Fv:=cu xU m1.lt;have AL:=m6.lt;refine aC<|Ws ?_;obtain⟨o,eo⟩ : ∃ r,r=x.who % M.n:=⟨_,rfl⟩;have ho:o<M.n:=by rw[eo]; exact I_ _ (by omega)
 refine xM<|aU (pt G)<|Qv (.int .u8 (x.who:Int)) (fun E D=>aN (m11.aI.dr D) 0)<|Qv (au x.who) (fun E D=>dB rfl rfl (by kernel_rfl) Tryz.underlying3 (iP (by omega) rfl))<|aU (pt p)<|aU (pt p)<|aU (pt p)<|Qv (.slice M.la (M.n) (M.lc)) (fun E D=>aN (m7.aI.dr D) 0)<|aU (au M.n)<|Qv (au o) (fun E D=>Fx.wJ rfl rfl rfl (by omega) (FL eo))<|aU (au o)<|Qn ?_;rintro _ ⟨qd,rfl⟩;obtain⟨CY,rP⟩ : ∃ E,E=World.drewN w2 qd:=⟨_,rfl⟩;rw[<- rP];have s3:Stp w2.heap.size w2 CY:=by rw[rP]; exact Sb (jH w2 qd)
 have⟨m12,m13,m14,m15,m16,m17,b3⟩:=jm s3.old m7 m8 m9 m10 m11 m6 b2;clear rP;refine sN<|ay<|av (pt p)<|av (pt p)<|av (pt p)<|Lv (.slice M.la (M.n) (M.lc)) (aN m12.aI 0)<|av (au o) ?_;obtain⟨EM,eq1⟩:=m13.addr (by omega);have m18:Fx.Own CY B 72 1 (bO EM M.n M.lc) M.n (Hu M.pl):=m13.fH (K_ (fun q=>Value.slice q M.n M.lc) eq1);refine Lv (pf EM o) (dh 1 (hx:=(rfl.trans (K_ (fun q=>Value.slice q (M.n) (M.lc)) eq1))))<|Lv (pt (M.pl o)) (aN m18.aI o)<|av (pt (M.pl o))<|aC<|Ws ?_;obtain⟨H,ahb⟩ : ∃ r,r=x.kind % 7:=⟨_,rfl⟩;have avM:H<7:=by rw[ahb]; exact I_ _ (by omega)
 have YQ:=m15 o (by omega);have FN:=YQ.c;have ahc:=YQ.n;have hkn:=(Z.inv o (by omega)).kn;have hko:=hkn o (by omega);have hko:0<=(M.ml o).s.known o/\(M.ml o).s.known o<1099511627776:=hko;have hU : ∀ k,k<(M.ml o).s.nn->iG ((M.ml o).id k):=fun k hk=>by have Y:=(Z.inv o (by omega)).pos k hk; have I:=(Z.inv o (by omega)).top k hk; exact⟨by show(0:Int)<=(M.ml o).core.id k; omega,by show(M.ml o).core.id k<=_; omega⟩
 have hbn:=(Z.g o (by omega)).bn;refine qY (T:=32) (T':=32) (a := .tmp 7) (v := .tmp 44) (m:=14) (z:=fun h=>if h<1 then au 0 else if h<8 then aD 0 else if h<9 then .int .u8 (0)else if h<10 then aD 0 else if h<12 then au 0 else aD 0) (y:=bI (bI (bI (bI (fun h=>if h<1 then au 0 else if h<8 then aD 0 else if h<9 then .int .u8 (0)else if h<10 then aD 0 else if h<12 then au 0 else aD 0) 0 1 (fun _=>au ((o:Int)+1))) 1 1 (fun _=>aD ((M.ml o).s.known o+1))) 2 6 (rv .u64 ((M.ml o).s.known))) 8 1 (fun _ => .int .u8 ((H:Int)+1))) (u := .agg (aA 14 (bI (bI (bI (bI (fun h=>if h<1 then au 0 else if h<8 then aD 0 else if h<9 then .int .u8 (0)else if h<10 then aD 0 else if h<12 then au 0 else aD 0) 0 1 (fun _=>au ((o:Int)+1))) 1 1 (fun _=>aD ((M.ml o).s.known o+1))) 2 6 (rv .u64 ((M.ml o).s.known))) 8 1 (fun _ => .int .u8 ((H:Int)+1))))) 20 21 (List.replicate 22 (0,2,[],[])) #[au (o:Int),au ((o:Int)+1),(pt (M.pl o)),au (o:Int),(pt (M.pl o)),(pt (M.pl o)),(pf (M.pl o) 12),(pf (M.pl o) (o+12)),aD ((M.ml o).s.known o),aD ((M.ml o).s.known o+1),(pt (M.pl o)),(pt (M.pl o)),(pt (M.pl o)),(pf (M.pl o) 12),.agg (aA 6 (rv .u64 ((M.ml o).s.known))),(pf G 3),.int .u8 (x.kind:Int),.int .u8 (H:Int),.int .u8 ((H:Int)+1),.agg (aA 14 (bI (bI (bI (bI (fun h=>if h<1 then au 0 else if h<8 then aD 0 else if h<9 then .int .u8 (0)else if h<10 then aD 0 else if h<12 then au 0 else aD 0) 0 1 (fun _=>au ((o:Int)+1))) 1 1 (fun _=>aD ((M.ml o).s.known o+1))) 2 6 (rv .u64 ((M.ml o).s.known))) 8 1 (fun _ => .int .u8 ((H:Int)+1)))),undef,undef] (by kernel_rfl) (by kernel_rfl) (by kernel_rfl) (by kernel_rfl) (by kernel_rfl) (by kernel_rfl) rfl (by kernel_rfl) rfl rfl (by kernel_rfl) (fun A=>(show ev _ (.tmp 7)=(pt A)from by kernel_rfl)) (fun A=>(show ev _ (.tmp 44) = .agg (aA 14 (bI (bI (bI (bI (fun h=>if h<1 then au 0 else if h<8 then aD 0 else if h<9 then .int .u8 (0)else if h<10 then aD 0 else if h<12 then au 0 else aD 0) 0 1 (fun _=>au ((o:Int)+1))) 1 1 (fun _=>aD ((M.ml o).s.known o+1))) 2 6 (rv .u64 ((M.ml o).s.known))) 8 1 (fun _ => .int .u8 ((H:Int)+1))))from by kernel_rfl)) (bJ _ _) (bV (bV (bV (bV (fun jq _=>by show((fun h=>if h<1 then au 0 else if h<8 then aD 0 else if h<9 then .int .u8 (0)else if h<10 then aD 0 else if h<12 then au 0 else aD 0:Nat->Value) jq).oneCell'=true; simp only[]; repeat (first|rfl|split)) (fun _ _=>rfl)) (fun _ _=>rfl)) (fun _ _=>rfl)) (fun _ _=>rfl)) (by kernel_rfl) (fun A => ?_) ?_
 ·refine⟨?_,?_,?_,?_,?_,?_,?_,?_,?_,?_,?_,?_,?_,?_,?_,?_,?_,?_,?_,?_,?_,?_,trivial⟩
  ·exact .inr (.inr pR)
  ·exact .inr (.inr (sw (au ((o:Int)+1)) fun E D=>Fx.Jz rfl (show ev _ (.tmp 25)=au (o:Int)from by kernel_rfl) (show ev _ (.const (au 1))=au 1 from by kernel_rfl) Fx.io))
  ·exact .inr (.inr pR)
  ·exact .inr (.inr pR)
  ·exact .inr (.inr pR)
  ·exact .inr (.inr pR)
  ·exact .inr (.inr pR)
  ·exact .inr (.inr (sw (pf (M.pl o) (o+12)) fun E D=>gD rfl (show ev _ (.tmp 31)=(pf (M.pl o) 12)from by kernel_rfl) (show ev _ (.tmp 28)=au (o:Int)from by kernel_rfl) Tryz.underlying30 (s:=1) (by kernel_rfl) (by omega) (by omega) (by omega)))
  ·exact .inr (.inr (sw (aD ((M.ml o).s.known o)) fun E D=>bA (x:=mE (M.ml o)) rfl (show ev _ (.tmp 32)=(pf (M.pl o) (o+12))from by kernel_rfl) (by kernel_rfl) (FN.aI.below D (by have:=FN.lt; omega)) (i:=o+12) (by omega) (by omega) (lN _ (by omega) (jW _ (by omega) (by omega)))))
  ·exact .inr (.inr (sw (aD ((M.ml o).s.known o+1)) fun E D=>Fx.Jz rfl (show ev _ (.tmp 33)=aD ((M.ml o).s.known o)from by kernel_rfl) (show ev _ (.const (aD 1))=aD 1 from by kernel_rfl) (jL (by omega) (by omega))))
  ·exact .inr (.inr pR)
  ·exact .inr (.inr pR)
  ·exact .inr (.inr pR)
  ·exact .inr (.inr pR)
  ·exact .inr (.inr (sw (.agg (aA 6 (rv .u64 ((M.ml o).s.known)))) fun E D=>eG (x:=mE (M.ml o)) (y:=rv .u64 ((M.ml o).s.known)) rfl (show ev _ (.tmp 38)=(pf (M.pl o) 12)from by kernel_rfl) (by kernel_rfl) (by kernel_rfl) (FN.aI.below D (by have:=FN.lt; omega)) (i:=12) (by omega) (by omega) (fun j C=>lN _ (by omega) (jW _ C (by omega)))))
  ·exact .inr (.inr pR)
  ·exact .inr (.inr (sw (.int .u8 (x.kind:Int)) fun E D=>bA (x:=Gg x) rfl (show ev _ (.tmp 40)=(pf G 3)from by kernel_rfl) (by kernel_rfl) (m16.aI.below D (by have:=m16.lt; omega)) (i:=3) (by omega) (by omega) rfl))
  ·exact .inr (.inr (sw (.int .u8 (H:Int)) fun E D=>Fx.wJ rfl (show ev _ (.tmp 41) = .int .u8 (x.kind:Int)from by kernel_rfl) (show ev _ (.const (.int .u8 (7))) = .int .u8 (7)from by kernel_rfl) (by omega) (FL ahb)))
  ·exact .inr (.inr (sw (.int .u8 ((H:Int)+1)) fun E D=>Fx.Jz rfl (show ev _ (.const (.int .u8 (1))) = .int .u8 (1)from by kernel_rfl) (show ev _ (.tmp 42) = .int .u8 (H:Int)from by kernel_rfl) (Fx.u8e (by omega) (by omega))))
  ·exact .inr (.inr (sw (.agg (aA 14 (bI (bI (bI (bI (fun h=>if h<1 then au 0 else if h<8 then aD 0 else if h<9 then .int .u8 (0)else if h<10 then aD 0 else if h<12 then au 0 else aD 0) 0 1 (fun _=>au ((o:Int)+1))) 1 1 (fun _=>aD ((M.ml o).s.known o+1))) 2 6 (rv .u64 ((M.ml o).s.known))) 8 1 (fun _ => .int .u8 ((H:Int)+1))))) fun E D=>fZ (vs := [(0,au ((o:Int)+1)),(1,aD ((M.ml o).s.known o+1)),(2,.agg (aA 6 (rv .u64 ((M.ml o).s.known)))),(3,.int .u8 ((H:Int)+1))]) (places := #[(0,1),(1,1),(2,6),(8,1),(9,1),(10,1),(11,1),(12,1),(13,1)]) (m:=14) (x:=fun h=>if h<1 then au 0 else if h<8 then aD 0 else if h<9 then .int .u8 (0)else if h<10 then aD 0 else if h<12 then au 0 else aD 0) rfl (Fx.aax (show ev _ (.tmp 26)=au ((o:Int)+1)from by kernel_rfl) (show ev _ (.tmp 34)=aD ((M.ml o).s.known o+1)from by kernel_rfl) (show ev _ (.tmp 39) = .agg (aA 6 (rv .u64 ((M.ml o).s.known)))from by kernel_rfl) (show ev _ (.tmp 43) = .int .u8 ((H:Int)+1)from by kernel_rfl)) Tryz.underlying32 (by kernel_rfl) (by kernel_rfl) (by rw[bD (off:=0) (s:=1) (y:=fun _=>au ((o:Int)+1)) (by kernel_rfl) (cells_one (by rfl)) (by rfl)]; rw[bD (off:=1) (s:=1) (y:=fun _=>aD ((M.ml o).s.known o+1)) (by kernel_rfl) (cells_one (by rfl)) (by rfl)]; rw[bD (off:=2) (s:=6) (y:=rv .u64 ((M.ml o).s.known)) (by kernel_rfl) (bJ _ _) (by rfl)]; rw[bD (off:=8) (s:=1) (y:=fun _ => .int .u8 ((H:Int)+1)) (by kernel_rfl) (cells_one (by rfl)) (by rfl)]; rfl)))
  ·exact .inl rfl
  exact .inr (.inl rfl)
 rintro A w3 f1 hf1 DY m19 hb1;have adA:p≠A:=t_ (n_ (m12.lt) DY);have apb:G≠A:=t_ (n_ (m16.lt) DY);have ady:U≠A:=t_ (n_ (m17.lt) DY);have apc:EM≠A:=t_ (n_ (m18.lt) DY);have ahd:(M.pl o)≠A:=t_ (n_ (FN.lt) DY);have adB:(.slice M.aa (M.an) (M.ac):Value).ownBlock≠some A:=fun e=>by have:=(m14.ge e).2; omega
 have⟨m22,m23,m24,nT,pY,b4⟩:=ru hb1 m15 m16 m17 m18 ahc b3;have DY:w.heap.size<=A:=m_ b3.size DY;have LJ:=m19.lt;have q1:f1 3=(pt G):=by rw[hf1]; kernel_rfl
 have q2:f1 4=(pt U):=by rw[hf1]; kernel_rfl
 have q3:f1 6=(pt (M.pl o)):=by rw[hf1]; kernel_rfl
 have q4:f1 7=(pt A):=by rw[hf1]; kernel_rfl
 clear hf1;refine sN<|Ws ?_;obtain⟨d,eV0⟩ : ∃ V:EvM,V=(⟨(o:Int)+1,(M.ml o).s.known o+1,(M.ml o).s.known,(H:Int)+1,0,0,0,0,0⟩:EvM):=⟨_,rfl⟩;have hz1:iG 0:=⟨by decide,by decide⟩;have hz2:qI 0:=⟨by decide,by decide⟩;have t:fK d:=by rw[eV0]; exact⟨⟨by show(_:Int)<=(o:Int)+1; omega,by show(o:Int)+1<=_; omega⟩,⟨by show(0:Int)<=(M.ml o).s.known o+1; omega,by show(M.ml o).s.known o+1<=_; omega⟩,fun i hi=>⟨(hkn i hi).1,by have q:(M.ml o).s.known i<1099511627776:=(hkn i hi).2; show(M.ml o).s.known i<=_; omega⟩,⟨by show(0:Int)<=(H:Int)+1; omega,by show(H:Int)+1<=255; omega⟩,hz1,hz2,hz2,hz1,hz1⟩
 have oN:aQ w3 A 14 (bQ d) 32:=m19.congr (fun j C=>by rw[eV0]; rcases j with _|_|_|_|_|_|_|_|_|_|_|_|_|_|j <;> first|rfl|omega|exact K_ (Value.int .u8) (by omega))
 have X:nZ d:=by rw[eV0]; exact⟨by show(0:Int)<=_; decide,by show(0:Int)<=_; decide⟩
 have hd0:d.o=(o:Int)+1/\d.seq=(M.ml o).s.known o+1/\d.deps=(M.ml o).s.known:=by rw[eV0]; exact⟨rfl,rfl,rfl⟩
 have ek0:d.kind=(H:Int)+1:=by rw[eV0]
 refine Wl<|av (aD 0)<|aC ?_;have qx:Fx.Own w3 B 72 1 (.slice M.la (M.n) (M.lc)) M.n (Hu M.pl):=nT.fH (K_ (fun q=>Value.slice q M.n M.lc) eq1.symm);refine CV (fun f w_ => ∃ nd:Int,iG nd/\f 3=(pt G)/\f 4=(pt U)/\f 7=(pt A)/\f 8=aD nd/\aQ w_ G 9 (Gg x) 36/\aQ w_ U 14 (fun h=>if h<1 then au 0 else if h<8 then aD 0 else if h<9 then .int .u8 (0)else if h<10 then aD 0 else if h<12 then au 0 else aD 0) 32/\aQ w_ A 14 (bQ d) 32/\Below w.heap.size w w_) ?_ ?_
 ·refine Ws ?_;have YR:=m22 o (by omega);have VF:=YR.c;have arJ:=YR.n;refine Wl<|aX q3<|av (pt (M.pl o))<|av (pt (M.pl o))<|av (pf (M.pl o) 18)<|Lv (.slice (M.ml o).s.na ((M.ml o).s.nn) ((M.ml o).s.nc)) (aN VF.aI 18)<|av (au (((M.ml o).s.nn:Nat):Int))<|Lv (.bool (decide (0<(((M.ml o).s.nn:Nat):Int)))) (Fx.Rc rfl rfl rfl)<|aC<|Wc (b:=decide (0<(((M.ml o).s.nn:Nat):Int))) rfl (fun c51 => ?_)<|fun c51 => ?_
  ·have c51:=h_ c51;obtain⟨WA,ahf⟩ : ∃ r,r=x.node % (M.ml o).s.nn:=⟨_,rfl⟩;have apd:WA<(M.ml o).s.nn:=(by rw[ahf]; exact I_ _ (by omega));refine xM<|dY q3<|aU (pt (M.pl o))<|aU (pt (M.pl o))<|aU (pf (M.pl o) 18)<|Qv (.slice (M.ml o).s.na ((M.ml o).s.nn) ((M.ml o).s.nc)) (fun E D=>aN (VF.aI.dr D) 18)<|Qv (pf G 4) (fun E D=>iZ q1 4)<|Qv (.int .u8 (x.node:Int)) (fun E D=>aN (m23.aI.dr D) 4)<|Qv (au x.node) (fun E D=>dB rfl rfl (by kernel_rfl) Tryz.underlying3 (iP (by omega) rfl))<|dY q3<|aU (pt (M.pl o))<|aU (pt (M.pl o))<|aU (pf (M.pl o) 18)<|Qv (.slice (M.ml o).s.na ((M.ml o).s.nn) ((M.ml o).s.nc)) (fun E D=>aN (VF.aI.dr D) 18)<|aU (au (((M.ml o).s.nn:Nat):Int))<|Qv (au WA) (fun E D=>Fx.wJ rfl rfl rfl (by omega) (FL ahf)) ?_;obtain⟨QY,Gb⟩:=pY.addr (by omega);have oZ:Fx.Own w3 B 61 56 (.slice (some ⟨QY,0,none⟩) ((M.ml o).s.nn) ((M.ml o).s.nc)) ((M.ml o).s.nn) (Js (M.ml o)):=pY.fH (K_ (fun q=>Value.slice q ((M.ml o).s.nn) ((M.ml o).s.nc)) Gb);refine Qv (pf QY (56*WA)) (fun E D=>dh 56 (hx:=(rfl.trans (K_ (fun q=>Value.slice q ((M.ml o).s.nn) ((M.ml o).s.nc)) Gb))))<|aU (pf QY (56*WA))<|Qv (aD ((M.ml o).id WA)) (fun E D=>aN (oZ.aI.dr D) (56*WA) (Fx.iC (k:=WA) (j:=0) (by omega) (by omega) rfl))<|aU (aD ((M.ml o).id WA))<|Qn ?_;rintro _ ⟨qd,rfl⟩;obtain⟨wq2,vZ⟩ : ∃ E,E=World.drewN w3 qd:=⟨_,rfl⟩;rw[<- vZ];have s5:Stp w3.heap.size w3 wq2:=(by rw[vZ]; exact Sb (jH w3 qd));have⟨oO,qb,sD,sZ,b5⟩:=vM s5.old m23 m24 oN oZ b4;clear vZ;have nW:Fx.Own wq2 B 61 56 (.slice (M.ml o).s.na ((M.ml o).s.nn) ((M.ml o).s.nc)) ((M.ml o).s.nn) (Js (M.ml o)):=sZ.fH (K_ (fun q=>Value.slice q ((M.ml o).s.nn) ((M.ml o).s.nc)) Gb.symm);exact tO ⟨((M.ml o).id WA),(hU WA apd),q1,q2,q4,Fx.ic,oO,qb,sD,b5⟩
  have c51:=j_ c51;refine Wk ?_;exact tO ⟨0,⟨by decide,by decide⟩,q1,q2,q4,Fx.ic,m23,m24,oN,b4⟩
 rintro f2 w4 ⟨nd,O6,Y,I,F,h4,mV,nk,K,J⟩;refine Ws<|ay<|Lv (pf A 8) (iZ F 8)<|Lv (.int .u8 (d.kind)) (aN K.aI 8)<|aC<|Wb<|ay ?_;by_cases c73:d.kind=1
 ·refine Lv aG (dX c73)<|av aG<|aC<|aO<|Ws<|Ws ?_;obtain⟨r76,ahg⟩ : ∃ r,r=x.node % 2:=⟨_,rfl⟩;have avN:r76<2:=by rw[ahg]; exact I_ _ (by omega)
  refine Wl<|Lv (pf G 4) (iZ Y 4)<|Lv (.int .u8 (x.node:Int)) (aN mV.aI 4)<|Lv (.int .u8 (r76:Int)) (Fx.wJ rfl rfl rfl (by omega) (FL ahg)) ?_;by_cases c77:(r76:Int)=1
  ·refine Lv aG (dX c77)<|aC<|aO<|Wl<|aX h4<|Lv (pf A 9) (iZ F 9)<|iM K 9 (aD nd) fun w5 qQ s6 z3 => ?_;obtain⟨L,eV1⟩ : ∃ V:EvM,V=⟨d.o,d.seq,d.deps,d.kind,nd,d.dst,d.aS,d.req,d.of⟩:=⟨_,rfl⟩;have La:fK L:=(by rw[eV1]; exact⟨t.o,t.seq,t.deps,t.kind,O6,t.dst,t.aS,t.req,t.of⟩);have apf:L.o=(o:Int)+1/\L.seq=(M.ml o).s.known o+1/\L.deps=(M.ml o).s.known:=(by rw[eV1]; exact hd0);have apg:nZ L:=(by rw[eV1]; exact⟨X.aS,X.req⟩);have nX:aQ w5 A 14 (bQ L) 32:=qQ.congr (fun j C=>by rw[eV1]; exact Eo _ _ j C);have gK:=gI s6 K.ty;have sj:=jD gK mV;have xq:=nk.bZ s6 (by omega);have b7:=s6.below J J.size (by omega);refine aC<|Wl<|Lv (pf G 6) (iZ Y 6)<|Lv (.int .u16 (x.aS:Int)) (aN sj.aI 6)<|Lv (au x.aS) (dB rfl rfl (by kernel_rfl) Tryz.underlying2 (iP (by omega) rfl))<|Lv (pf A 11) (iZ F 11)<|iM nX 11 (au x.aS) fun w6 sF s7 z4 => ?_;obtain⟨V2,eV2⟩ : ∃ V:EvM,V=⟨L.o,L.seq,L.deps,L.kind,L.node,L.dst,(x.aS:Int),L.req,L.of⟩:=⟨_,rfl⟩;have aph:fK V2:=(by rw[eV2]; exact⟨La.o,La.seq,La.deps,La.kind,La.node,La.dst,(show qI (x.aS:Int)from⟨by omega,by omega⟩),La.req,La.of⟩);have apj:V2.o=(o:Int)+1/\V2.seq=(M.ml o).s.known o+1/\V2.deps=(M.ml o).s.known:=(by rw[eV2]; exact apf);have apk:nZ V2:=(by rw[eV2]; exact⟨by show(x.aS:Int)<=65536; omega,apg.req⟩);have uj:aQ w6 A 14 (bQ V2) 32:=sF.congr (fun j C=>by rw[eV2]; exact FM _ _ j C);have uH:=xq.bZ s7 (by omega);have b8:=s7.below b7 b7.size (by omega);refine Ln<|bR<|sN<|ay<|Lv (.agg (aA 14 (bQ V2))) (fI uj.aI 0 (ha:=F))<|fD uH 0 (ha:=I) (h1:=(iw _)) fun w7 um s8 z5 => ?_;have uI:aQ w7 U 14 (bQ V2) 32:=aT um;have uZ:=uj.bZ s8 (by omega);have b9:=s8.below b8 b8.size (by omega);refine aC (Wr (⟨.agg (aA 14 (bQ V2)),rV Tryz.results38 ⟨_,I,aW uI.aI (by kernel_rfl) (by kernel_rfl)⟩,?_⟩));exact⟨V2,aph,apk,by rw[<- eo]; exact apj,rfl,b9⟩
  refine Lv aF (fF c77)<|aC<|aK<|Wk<|sN<|Wl<|Lv (pf G 6) (iZ Y 6)<|Lv (.int .u16 (x.aS:Int)) (aN mV.aI 6)<|Lv (au x.aS) (dB rfl rfl (by kernel_rfl) Tryz.underlying2 (iP (by omega) rfl))<|Lv (pf A 11) (iZ F 11)<|iM K 11 (au x.aS) fun w8 tu s9 z6 => ?_;obtain⟨V3,eV3⟩ : ∃ V:EvM,V=⟨d.o,d.seq,d.deps,d.kind,d.node,d.dst,(x.aS:Int),d.req,d.of⟩:=⟨_,rfl⟩;have apl:fK V3:=by rw[eV3]; exact⟨t.o,t.seq,t.deps,t.kind,t.node,t.dst,(show qI (x.aS:Int)from⟨by omega,by omega⟩),t.req,t.of⟩
  have apm:V3.o=(o:Int)+1/\V3.seq=(M.ml o).s.known o+1/\V3.deps=(M.ml o).s.known:=by rw[eV3]; exact hd0
  have apn:nZ V3:=by rw[eV3]; exact⟨by show(x.aS:Int)<=65536; omega,X.req⟩
  have tC:aQ w8 A 14 (bQ V3) 32:=tu.congr (fun j C=>by rw[eV3]; exact FM _ _ j C);have qg:=nk.bZ s9 (by omega);have b10:=s9.below J J.size (by omega);refine Ln<|bR<|sN<|ay<|Lv (.agg (aA 14 (bQ V3))) (fI tC.aI 0 (ha:=F))<|fD qg 0 (ha:=I) (h1:=(iw _)) fun w9 vg s10 z7 => ?_;have om:aQ w9 U 14 (bQ V3) 32:=aT vg;have m64:=tC.bZ s10 (by omega);have b11:=s10.below b10 b10.size (by omega);refine aC (Wr (⟨.agg (aA 14 (bQ V3)),rV Tryz.results38 ⟨_,I,aW om.aI (by kernel_rfl) (by kernel_rfl)⟩,?_⟩));exact⟨V3,apl,apn,by rw[<- eo]; exact apm,rfl,b11⟩
 refine Lv aF (fF c73)<|av aF<|aC<|aK<|ay ?_;by_cases c85:d.kind=2
 ·refine Lv aG (dX c85)<|av aG<|aC<|aO<|ay<|aX h4<|Lv (pf A 9) (iZ F 9)<|iM K 9 (aD nd) fun tT xA s11 z8 => ?_;obtain⟨P,eV4⟩ : ∃ V:EvM,V=⟨d.o,d.seq,d.deps,d.kind,nd,d.dst,d.aS,d.req,d.of⟩:=⟨_,rfl⟩;have Lb:fK P:=by rw[eV4]; exact⟨t.o,t.seq,t.deps,t.kind,O6,t.dst,t.aS,t.req,t.of⟩
  have apo:P.o=(o:Int)+1/\P.seq=(M.ml o).s.known o+1/\P.deps=(M.ml o).s.known:=by rw[eV4]; exact hd0
  have apq:nZ P:=by rw[eV4]; exact⟨X.aS,X.req⟩
  have wP:aQ tT A 14 (bQ P) 32:=xA.congr (fun j C=>by rw[eV4]; exact Eo _ _ j C);have xk:=gI s11 K.ty;have xB:=jD xk mV;have xC:=nk.bZ s11 (by omega);have b12:=s11.below J J.size (by omega);refine aC<|Wl<|Lv (pf G 6) (iZ Y 6)<|Lv (.int .u16 (x.aS:Int)) (aN xB.aI 6)<|Lv (au x.aS) (dB rfl rfl (by kernel_rfl) Tryz.underlying2 (iP (by omega) rfl))<|Lv (au ((x.aS:Int)+1)) fC<|Lv (pf A 11) (iZ F 11)<|iM wP 11 (au ((x.aS:Int)+1)) fun F3 rF s12 z9 => ?_;obtain⟨V5,eV5⟩ : ∃ V:EvM,V=⟨P.o,P.seq,P.deps,P.kind,P.node,P.dst,(x.aS:Int)+1,P.req,P.of⟩:=⟨_,rfl⟩;have apr:fK V5:=by rw[eV5]; exact⟨Lb.o,Lb.seq,Lb.deps,Lb.kind,Lb.node,Lb.dst,(show qI ((x.aS:Int)+1)from⟨by omega,by omega⟩),Lb.req,Lb.of⟩
  have aps:V5.o=(o:Int)+1/\V5.seq=(M.ml o).s.known o+1/\V5.deps=(M.ml o).s.known:=by rw[eV5]; exact apo
  have apt:nZ V5:=by rw[eV5]; exact⟨by show(x.aS:Int)+1<=65536; omega,apq.req⟩
  have sH:aQ F3 A 14 (bQ V5) 32:=rF.congr (fun j C=>by rw[eV5]; exact FM _ _ j C);have wQ:=xC.bZ s12 (by omega);have b13:=s12.below b12 b12.size (by omega);refine Ln<|bR<|sN<|ay<|Lv (.agg (aA 14 (bQ V5))) (fI sH.aI 0 (ha:=F))<|fD wQ 0 (ha:=I) (h1:=(iw _)) fun CW uo s13 z10 => ?_;have yG:aQ CW U 14 (bQ V5) 32:=aT uo;have xR:=sH.bZ s13 (by omega);have b14:=s13.below b13 b13.size (by omega);refine aC (Wr (⟨.agg (aA 14 (bQ V5)),rV Tryz.results38 ⟨_,I,aW yG.aI (by kernel_rfl) (by kernel_rfl)⟩,?_⟩));exact⟨V5,apr,apt,by rw[<- eo]; exact aps,rfl,b14⟩
 refine Lv aF (fF c85)<|av aF<|aC<|aK<|ay ?_;by_cases c94:d.kind=3
 ·refine Lv aG (dX c94)<|av aG<|aC<|aO<|ay<|aX h4<|Lv (pf A 9) (iZ F 9)<|iM K 9 (aD nd) fun F4 ze Dw z11 => ?_;obtain⟨Q,eV6⟩ : ∃ V:EvM,V=⟨d.o,d.seq,d.deps,d.kind,nd,d.dst,d.aS,d.req,d.of⟩:=⟨_,rfl⟩;have Lc:fK Q:=by rw[eV6]; exact⟨t.o,t.seq,t.deps,t.kind,O6,t.dst,t.aS,t.req,t.of⟩
  have apu:Q.o=(o:Int)+1/\Q.seq=(M.ml o).s.known o+1/\Q.deps=(M.ml o).s.known:=by rw[eV6]; exact hd0
  have apv:nZ Q:=by rw[eV6]; exact⟨X.aS,X.req⟩
  have xS:aQ F4 A 14 (bQ Q) 32:=ze.congr (fun j C=>by rw[eV6]; exact Eo _ _ j C);have Ui:=gI Dw K.ty;have wR:=jD Ui mV;have vo:=nk.bZ Dw (by omega);have b15:=Dw.below J J.size (by omega);refine aC<|ay<|Lv (pf G 6) (iZ Y 6)<|Lv (.int .u16 (x.aS:Int)) (aN wR.aI 6)<|Lv (au x.aS) (dB rfl rfl (by kernel_rfl) Tryz.underlying2 (iP (by omega) rfl))<|Lv (au ((x.aS:Int)+1)) fC<|Lv (pf A 11) (iZ F 11)<|iM xS 11 (au ((x.aS:Int)+1)) fun LG uK s15 z12 => ?_;obtain⟨R,eV7⟩ : ∃ V:EvM,V=⟨Q.o,Q.seq,Q.deps,Q.kind,Q.node,Q.dst,(x.aS:Int)+1,Q.req,Q.of⟩:=⟨_,rfl⟩;have Ld:fK R:=by rw[eV7]; exact⟨Lc.o,Lc.seq,Lc.deps,Lc.kind,Lc.node,Lc.dst,(show qI ((x.aS:Int)+1)from⟨by omega,by omega⟩),Lc.req,Lc.of⟩
  have apw:R.o=(o:Int)+1/\R.seq=(M.ml o).s.known o+1/\R.deps=(M.ml o).s.known:=by rw[eV7]; exact apu
  have apx:nZ R:=by rw[eV7]; exact⟨by show(x.aS:Int)+1<=65536; omega,apv.req⟩
  have xD:aQ LG A 14 (bQ R) 32:=uK.congr (fun j C=>by rw[eV7]; exact FM _ _ j C);have VG:=gI s15 xS.ty;have zf:=jD VG wR;have wS:=vo.bZ s15 (by omega);have b16:=s15.below b15 b15.size (by omega);refine aC<|Wl<|Lv (pf G 7) (iZ Y 7)<|Lv (.int .u8 (x.req:Int)) (aN zf.aI 7)<|Lv (aD x.req) (dB rfl rfl (by kernel_rfl) Tryz.underlying28 (jL (by omega) rfl))<|Lv (aD ((x.req:Int)+1)) fC<|Lv (pf A 12) (iZ F 12)<|iM xD 12 (aD ((x.req:Int)+1)) fun LH zG s16 z13 => ?_;obtain⟨V8,eV8⟩ : ∃ V:EvM,V=⟨R.o,R.seq,R.deps,R.kind,R.node,R.dst,R.aS,(x.req:Int)+1,R.of⟩:=⟨_,rfl⟩;have apy:fK V8:=by rw[eV8]; exact⟨Ld.o,Ld.seq,Ld.deps,Ld.kind,Ld.node,Ld.dst,Ld.aS,(show iG ((x.req:Int)+1)from⟨by omega,by omega⟩),Ld.of⟩
  have apz:V8.o=(o:Int)+1/\V8.seq=(M.ml o).s.known o+1/\V8.deps=(M.ml o).s.known:=by rw[eV8]; exact apw
  have apA:nZ V8:=by rw[eV8]; exact⟨apx.aS,by show(x.req:Int)+1<=256; omega⟩
  have zh:aQ LH A 14 (bQ V8) 32:=zG.congr (fun j C=>by rw[eV8]; exact VE _ _ j C);have zi:=wS.bZ s16 (by omega);have b17:=s16.below b16 b16.size (by omega);refine Ln<|bR<|sN<|ay<|Lv (.agg (aA 14 (bQ V8))) (fI zh.aI 0 (ha:=F))<|fD zi 0 (ha:=I) (h1:=(iw _)) fun w16 zk Jq z14 => ?_;have zV:aQ w16 U 14 (bQ V8) 32:=aT zk;have BM:=zh.bZ Jq (by omega);have b18:=Jq.below b17 b17.size (by omega);refine aC (Wr (⟨.agg (aA 14 (bQ V8)),rV Tryz.results38 ⟨_,I,aW zV.aI (by kernel_rfl) (by kernel_rfl)⟩,?_⟩));exact⟨V8,apy,apA,by rw[<- eo]; exact apz,rfl,b18⟩
 refine Lv aF (fF c94)<|av aF<|aC<|aK<|ay ?_;by_cases ahh:d.kind=4
 ·refine Lv aG (dX ahh)<|av aG<|aC<|aO<|ay<|Lv (pf G 7) (iZ Y 7)<|Lv (.int .u8 (x.req:Int)) (aN mV.aI 7)<|Lv (aD x.req) (dB rfl rfl (by kernel_rfl) Tryz.underlying28 (jL (by omega) rfl))<|Lv (aD ((x.req:Int)+1)) fC<|Lv (pf A 12) (iZ F 12)<|iM K 12 (aD ((x.req:Int)+1)) fun Py AQ Jt z15 => ?_;obtain⟨S,eV9⟩ : ∃ V:EvM,V=⟨d.o,d.seq,d.deps,d.kind,d.node,d.dst,d.aS,(x.req:Int)+1,d.of⟩:=⟨_,rfl⟩;have Lf:fK S:=by rw[eV9]; exact⟨t.o,t.seq,t.deps,t.kind,t.node,t.dst,t.aS,(show iG ((x.req:Int)+1)from⟨by omega,by omega⟩),t.of⟩
  have apB:S.o=(o:Int)+1/\S.seq=(M.ml o).s.known o+1/\S.deps=(M.ml o).s.known:=by rw[eV9]; exact hd0
  have ahi:nZ S:=by rw[eV9]; exact⟨X.aS,by show(x.req:Int)+1<=256; omega⟩
  have Bp:aQ Py A 14 (bQ S) 32:=AQ.congr (fun j C=>by rw[eV9]; exact VE _ _ j C);have ahj:=gI Jt K.ty;have zm:=jD ahj mV;have D9:=nk.bZ Jt (by omega);have b19:=Jt.below J J.size (by omega);refine aC<|Wl<|Lv (pf G 8) (iZ Y 8)<|Lv (.int .u8 (x.of:Int)) (aN zm.aI 8)<|Lv (aD x.of) (dB rfl rfl (by kernel_rfl) Tryz.underlying28 (jL (by omega) rfl))<|Lv (aD ((x.of:Int)+1)) fC<|Lv (pf A 13) (iZ F 13)<|iM Bp 13 (aD ((x.of:Int)+1)) fun Sq BN s19 z16 => ?_;obtain⟨WB,YS⟩ : ∃ V:EvM,V=⟨S.o,S.seq,S.deps,S.kind,S.node,S.dst,S.aS,S.req,(x.of:Int)+1⟩:=⟨_,rfl⟩;have ahk:fK WB:=by rw[YS]; exact⟨Lf.o,Lf.seq,Lf.deps,Lf.kind,Lf.node,Lf.dst,Lf.aS,Lf.req,(show iG ((x.of:Int)+1)from⟨by omega,by omega⟩)⟩
  have ahl:WB.o=(o:Int)+1/\WB.seq=(M.ml o).s.known o+1/\WB.deps=(M.ml o).s.known:=by rw[YS]; exact apB
  have ahm:nZ WB:=by rw[YS]; exact⟨ahi.aS,ahi.req⟩
  have Ea:aQ Sq A 14 (bQ WB) 32:=BN.congr (fun j C=>by rw[YS]; exact aha _ _ j C);have tX:=D9.bZ s19 (by omega);have b20:=s19.below b19 b19.size (by omega);refine Ln<|bR<|sN<|ay<|Lv (.agg (aA 14 (bQ WB))) (fI Ea.aI 0 (ha:=F))<|fD tX 0 (ha:=I) (h1:=(iw _)) fun Xc wh s20 z17 => ?_;have rQ:aQ Xc U 14 (bQ WB) 32:=aT wh;have nN:=Ea.bZ s20 (by omega);have Ml:=s20.below b20 b20.size (by omega);refine aC (Wr (⟨.agg (aA 14 (bQ WB)),rV Tryz.results38 ⟨_,I,aW rQ.aI (by kernel_rfl) (by kernel_rfl)⟩,?_⟩));exact⟨WB,ahk,ahm,by rw[<- eo]; exact ahl,rfl,Ml⟩
 refine Lv aF (fF ahh)<|av aF<|aC<|aK<|ay ?_;by_cases ahn:d.kind=5
 ·refine Lv aG (dX ahn)<|av aG<|aC<|aO<|ay<|aX h4<|Lv (pf A 9) (iZ F 9)<|iM K 9 (aD nd) fun Pz nO ZM z18 => ?_;obtain⟨N,YT⟩ : ∃ V:EvM,V=⟨d.o,d.seq,d.deps,d.kind,nd,d.dst,d.aS,d.req,d.of⟩:=⟨_,rfl⟩;have Dn:fK N:=by rw[YT]; exact⟨t.o,t.seq,t.deps,t.kind,O6,t.dst,t.aS,t.req,t.of⟩
  have aho:N.o=(o:Int)+1/\N.seq=(M.ml o).s.known o+1/\N.deps=(M.ml o).s.known:=by rw[YT]; exact hd0
  have ahp:nZ N:=by rw[YT]; exact⟨X.aS,X.req⟩
  have oF:aQ Pz A 14 (bQ N) 32:=nO.congr (fun j C=>by rw[YT]; exact Eo _ _ j C);have ahq:=gI ZM K.ty;have nP:=jD ahq mV;have oG:=nk.bZ ZM (by omega);have J6:=ZM.below J J.size (by omega);refine aC<|ay<|Lv (pf G 6) (iZ Y 6)<|Lv (.int .u16 (x.aS:Int)) (aN nP.aI 6)<|Lv (au x.aS) (dB rfl rfl (by kernel_rfl) Tryz.underlying2 (iP (by omega) rfl))<|Lv (au ((x.aS:Int)+1)) fC<|Lv (pf A 11) (iZ F 11)<|iM oF 11 (au ((x.aS:Int)+1)) fun w21 ql ZN z19 => ?_;obtain⟨O,YU⟩ : ∃ V:EvM,V=⟨N.o,N.seq,N.deps,N.kind,N.node,N.dst,(x.aS:Int)+1,N.req,N.of⟩:=⟨_,rfl⟩;have Dp:fK O:=by rw[YU]; exact⟨Dn.o,Dn.seq,Dn.deps,Dn.kind,Dn.node,Dn.dst,(show qI ((x.aS:Int)+1)from⟨by omega,by omega⟩),Dn.req,Dn.of⟩
  have ahr:O.o=(o:Int)+1/\O.seq=(M.ml o).s.known o+1/\O.deps=(M.ml o).s.known:=by rw[YU]; exact aho
  have Z9:nZ O:=by rw[YU]; exact⟨by show(x.aS:Int)+1<=65536; omega,ahp.req⟩
  have qJ:aQ w21 A 14 (bQ O) 32:=ql.congr (fun j C=>by rw[YU]; exact FM _ _ j C);have ahs:=gI ZN oF.ty;have pz:=jD ahs nP;have rT:=oG.bZ ZN (by omega);have QX:=ZN.below J6 J6.size (by omega);refine aC ?_;obtain⟨W,er6⟩ : ∃ r,r=x.dst % 6:=⟨_,rfl⟩;have hr6:W<6:=by rw[er6]; exact I_ _ (by omega)
  refine Wl<|Lv (pf G 5) (iZ Y 5)<|Lv (.int .u8 (x.dst:Int)) (aN pz.aI 5)<|Lv (au x.dst) (dB rfl rfl (by kernel_rfl) Tryz.underlying3 (iP (by omega) rfl))<|Lv (au W) (Fx.wJ rfl rfl rfl (by omega) (FL er6))<|Lv (au ((W:Int)+1)) fC<|Lv (pf A 10) (iZ F 10)<|iM qJ 10 (au ((W:Int)+1)) fun w22 wm s23 z20 => ?_;obtain⟨WE,YV⟩ : ∃ V:EvM,V=⟨O.o,O.seq,O.deps,O.kind,O.node,(W:Int)+1,O.aS,O.req,O.of⟩:=⟨_,rfl⟩;have ahu:fK WE:=by rw[YV]; exact⟨Dp.o,Dp.seq,Dp.deps,Dp.kind,Dp.node,(show qI ((W:Int)+1)from⟨by omega,by omega⟩),Dp.aS,Dp.req,Dp.of⟩
  have ahv:WE.o=(o:Int)+1/\WE.seq=(M.ml o).s.known o+1/\WE.deps=(M.ml o).s.known:=by rw[YV]; exact ahr
  have ahw:nZ WE:=by rw[YV]; exact⟨Z9.aS,Z9.req⟩
  have sK:aQ w22 A 14 (bQ WE) 32:=wm.congr (fun j C=>by rw[YV]; exact VD _ _ j C);have zY:=rT.bZ s23 (by omega);have Si:=s23.below QX QX.size (by omega);refine Ln<|bR<|sN<|ay<|Lv (.agg (aA 14 (bQ WE))) (fI sK.aI 0 (ha:=F))<|fD zY 0 (ha:=I) (h1:=(iw _)) fun w23 uQ s24 z21 => ?_;have rU:aQ w23 U 14 (bQ WE) 32:=aT uQ;have wu:=sK.bZ s24 (by omega);have Zv:=s24.below Si Si.size (by omega);refine aC (Wr (⟨.agg (aA 14 (bQ WE)),rV Tryz.results38 ⟨_,I,aW rU.aI (by kernel_rfl) (by kernel_rfl)⟩,?_⟩));exact⟨WE,ahu,ahw,by rw[<- eo]; exact ahv,rfl,Zv⟩
 refine Lv aF (fF ahn)<|av aF<|aC<|aK<|ay ?_;by_cases ahx:d.kind=6
 ·refine Lv aG (dX ahx)<|av aG<|aC<|aO ?_;obtain⟨W,er6⟩ : ∃ r,r=x.dst % 6:=⟨_,rfl⟩;have hr6:W<6:=by rw[er6]; exact I_ _ (by omega)
  refine Wl<|Lv (pf G 5) (iZ Y 5)<|Lv (.int .u8 (x.dst:Int)) (aN mV.aI 5)<|Lv (au x.dst) (dB rfl rfl (by kernel_rfl) Tryz.underlying3 (iP (by omega) rfl))<|Lv (au W) (Fx.wJ rfl rfl rfl (by omega) (FL er6))<|Lv (au ((W:Int)+1)) fC<|Lv (pf A 10) (iZ F 10)<|iM K 10 (au ((W:Int)+1)) fun w24 wz Wu z22 => ?_;obtain⟨WG,YW⟩ : ∃ V:EvM,V=⟨d.o,d.seq,d.deps,d.kind,d.node,(W:Int)+1,d.aS,d.req,d.of⟩:=⟨_,rfl⟩;have ahy:fK WG:=by rw[YW]; exact⟨t.o,t.seq,t.deps,t.kind,t.node,(show qI ((W:Int)+1)from⟨by omega,by omega⟩),t.aS,t.req,t.of⟩
  have ahz:WG.o=(o:Int)+1/\WG.seq=(M.ml o).s.known o+1/\WG.deps=(M.ml o).s.known:=by rw[YW]; exact hd0
  have ahA:nZ WG:=by rw[YW]; exact⟨X.aS,X.req⟩
  have qK:aQ w24 A 14 (bQ WG) 32:=wz.congr (fun j C=>by rw[YW]; exact VD _ _ j C);have EO:=nk.bZ Wu (by omega);have Wq:=Wu.below J J.size (by omega);refine Ln<|bR<|sN<|ay<|Lv (.agg (aA 14 (bQ WG))) (fI qK.aI 0 (ha:=F))<|fD EO 0 (ha:=I) (h1:=(iw _)) fun w25 BO s26 z23 => ?_;have xW:aQ w25 U 14 (bQ WG) 32:=aT BO;have BQ:=qK.bZ s26 (by omega);have Xa:=s26.below Wq Wq.size (by omega);refine aC (Wr (⟨.agg (aA 14 (bQ WG)),rV Tryz.results38 ⟨_,I,aW xW.aI (by kernel_rfl) (by kernel_rfl)⟩,?_⟩));exact⟨WG,ahy,ahA,by rw[<- eo]; exact ahz,rfl,Xa⟩
 refine Lv aF (fF ahx)<|av aF<|aC<|aK<|Wk<|bR<|sN<|ay<|Lv (.agg (aA 14 (bQ d))) (fI K.aI 0 (ha:=F))<|fD nk 0 (ha:=I) (h1:=(iw _)) fun w26 Aa ZO z24 => ?_;have xX:aQ w26 U 14 (bQ d) 32:=aT Aa;have DF:=K.bZ ZO (by omega);have Zw:=ZO.below J J.size (by omega);refine aC (Wr (⟨.agg (aA 14 (bQ d)),rV Tryz.results38 ⟨_,I,aW xX.aI (by kernel_rfl) (by kernel_rfl)⟩,?_⟩));exact⟨d,t,X,by rw[<- eo]; exact hd0,rfl,Zw⟩
theorem Rt.QI{L:gy}{v:EvM}(h:bH L v=0):bM v=true:=by
 unfold bH at h;split at h; · cases h
 rename_i h1; simpa using h1
structure Rt.DoR(o:Nat)(x:Gf)(M M':WM)(v:EvM):Prop where
 n:M'.n=M.n
 oth : ∀ q,q≠o->M'.ml q=M.ml q
 c:(v=zeroE/\M'.an=M.an/\M'.ev=M.ev/\((M'.ml o).core=(M.ml o).core\/x.meet=true/\(M'.ml o).core=Fp M.ev M.an (M.ml (x.other % M.n)).s.known (M.ml o).core))\/(x.meet=false/\M'.an=M.an+1/\M'.ev=aH M.ev M.an v/\bH (M.ml o).core v=0/\(M'.ml o).core=bP (M.ml o).core v/\v.o=(o:Int)+1/\v.seq=(M.ml o).s.known o+1/\v.deps=(M.ml o).s.known)
theorem Rt.Cx{L:gy}{v:EvM}(h:bH L v=0):(bP L v).known=aH L.known (aL v) (L.known (aL v)+1):=by
 rcases qN L v with ⟨_,a⟩|⟨h1,_⟩
 ·exact a
 exact L_ h h1
theorem Rt.Lg:fK zeroE:=by
 have z:iG 0:=⟨by decide,by decide⟩;have y:qI 0:=⟨by decide,by decide⟩;exact⟨y,z,fun _ _=>z,⟨by decide,by decide⟩,z,y,y,z,z⟩
def WH(p:Nat)(M:WM)(k:Nat):Prop:=k=p\/(Value.slice M.la M.n M.lc).ownBlock=some k\/(Value.slice M.aa M.an M.ac).ownBlock=some k
def YX(w:World)(p:Nat)(M a:WM):Prop := ∀ k,WH p a k->WH p M k\/w.heap.size<=k
theorem og.ge{w:World}{B p T:Nat}{M:WM}(h:og w B p M T) : ∀ k,WH p M k->B<=k/\k<w.heap.size:=fun k b=>by
 rcases b with rfl|e|e
 ·exact⟨h.pB,h.c.lt⟩
 ·exact h.l.ge e
 ·exact h.a.ge e
theorem og.yu{w w':World}{B p T:Nat}{M:WM}(h:og w B p M T)(a:B<=w.heap.size)(c:jP (WH p M) w w'):Below B w w':=Fx.jP.below (Below.refl B w) c (fun k b=>(h.ge k b).1) a
theorem og.Bz{w w':World}{B p T:Nat}{M:WM}(h:og w B p M T)(d:jP (WH p M) w w'):iD [44,72,32] w w':=Fx.iD.Rx d fun k b=>by
 rcases b with rfl|e|e
 ·exact⟨_,h.c.ty,by decide⟩
 ·exact⟨_,h.l.ty e,by decide⟩
 ·exact⟨_,h.a.ty e,by decide⟩
theorem YX.app{w b:World}{p g:Nat}{M a:WM}(i:(Value.slice M.aa M.an M.ac).ownBlock=some g\/g=b.heap.size)(l:w.heap.size<=b.heap.size)(h1:a.la=M.la:=by rfl)(c:a.n=M.n:=by rfl)(d:a.lc=M.lc:=by rfl)(f:(Value.slice a.aa a.an a.ac).ownBlock=some g:=by rfl):YX w p M a:=fun k j=>by
 rcases j with h|h|h
 ·exact .inl (.inl h)
 ·rw[h1,c,d]at h; exact .inl (.inr (.inl h))
 ·have e:g=k:=B_ (f.symm.trans h)
  rcases i with h5|h5
  ·exact .inl (.inr (.inr (e ▸ h5)))
  ·exact .inr (by omega)
theorem og.mono{w:World}{B p T T':Nat}{M:WM}(h:og w B p M T)(a:T<=T'):og w B p M T' := { h with inv:=fun i b=>(h.inv i b).mono a }
set_option maxRecDepth 20000 in
set_option maxHeartbeats 2000000 in
theorem ahB(M:WM)(B p T:Nat)(x:Gf)(w:World)(d:og w B p M T)(hB:B<=w.heap.size)(hx:HY x)(han:M.an<=60)(hT:T<=890000) :
 Calls Tryz.prog 13 #[(pt p),.agg (aA 9 (Gg x))] w fun e w' => ∃ v,e = .returned (.agg (aA 14 (bQ v)))/\fK v /\ ∃ O,og w' B p O (T+3660)/\DoR (x.who % M.n) x M O v/\O.an<=M.an+1/\(x.meet=true->O.an=M.an)/\jP (WH p M) w w'/\YX w p M O:=by
 have hWc:=d.c;have hWl:=d.l;have hWa:=d.a;have hWg:=d.g;have hn1:=d.n1;have hn6:=d.n6;have hpB:=d.pB;have lpp:p<w.heap.size:=hWc.lt;have hxw:=hx.who;have hxo:=hx.other;have hxk:=hx.kind;have hxn:=hx.node;have hxt:=hx.dst;have hxa:=hx.aS;have hxr:=hx.req;have hxf:=hx.of;refine Kent Tryz.func13 94 ?_;refine ay<|qP fun g1 w1 lK m1 s1 z1 => ?_;have⟨m2,f,m4,m5,m6⟩:=vM s1.old hWc hWl hWa hWg d;have b1:=(uw (WH p M) w).then s1 (.inr (uw (WH p M) w).size);have uh:w.heap.size<=g1:=by rw[lK]; exact(uw (WH p M) w).size
 have nE:=cu lK hWc.lt;have vS:=m1.lt;refine wL 14 (fun b=>if b<1 then au 0 else if b<8 then aD 0 else if b<9 then .int .u8 (0)else if b<10 then aD 0 else if b<12 then au 0 else aD 0) fun R w2 ad m7 s2 z2 => ?_;have⟨m8,m9,m10,m11,m12,m13⟩:=ru s2.old m2 f m4 m5 m6 m1;have b2:=b1.then s2 (.inr b1.size);have su:=jI ad b1.size;have agf:=cu ad m2.lt;have FE:(.slice M.aa (M.an) (M.ac):Value).ownBlock≠some R:=by rw[ad]; exact m4.jX (z_ _)
 have Aj:=cu ad m1.lt;have AL:=m7.lt;refine aC<|Ws ?_;obtain⟨o,Q⟩ : ∃ r,r=x.who % M.n:=⟨_,rfl⟩;have ho:o<M.n:=by rw[Q]; exact I_ _ (by omega)
 refine xM<|aU (pt g1)<|Qv (.int .u8 (x.who:Int)) (fun D C=>aN (m13.aI.dr C) 0)<|Qv (au x.who) (fun D C=>dB rfl rfl (by kernel_rfl) Tryz.underlying3 (iP (by omega) rfl))<|aU (pt p)<|aU (pt p)<|aU (pt p)<|Qv (.slice M.la (M.n) (M.lc)) (fun D C=>aN (m8.aI.dr C) 0)<|aU (au M.n)<|Qv (au o) (fun D C=>Fx.wJ rfl rfl rfl (by omega) (FL Q))<|aU (au o)<|Qn ?_;rintro _ ⟨qd,rfl⟩;obtain⟨CY,rP⟩ : ∃ D,D=World.drewN w2 qd:=⟨_,rfl⟩;rw[<- rP];have s3:Stp w2.heap.size w2 CY:=by rw[rP]; exact Sb (jH w2 qd)
 have⟨m14,m15,m16,m17,m18,Y,m20⟩:=jm s3.old m8 m9 m10 m11 m12 m13 m7;have Z:=b2.then s3 (.inr b2.size);clear rP;refine sN<|Ws<|ay<|av (pf g1 1) ?_;by_cases H:x.meet=true
 ·refine Lv aG (aN Y.aI 1 ((show _=Value.bool x.meet from rfl).trans (K_ Value.bool H)))<|aC<|aO<|Ws ?_;obtain⟨A,adT⟩ : ∃ r,r=x.other % M.n:=⟨_,rfl⟩;have avP:A<M.n:=by rw[adT]; exact I_ _ (by omega)
  have YQ:=m17 A (by omega);have FN:=YQ.c;have YR:=m17 o (by omega);refine jV [0,1,2,4,5,6,7,9,12,13,14,16,17,18,20,23,24,25,3,8,10,11,15,19,21,22,26,27,28,29,30,31,32,33,34,35,36,37] [0,0,0,1,0,0,0,0,4,0,0,4,0,0,0,4,0,0,0,4,0,4,0,0,0,0,4,0,0,0,4,0,0,0,4,2,0,3] [(37,3,[3]),(35,8,[11,10,8]),(37,8,[8]),(35,11,[11]),(37,11,[11]),(35,15,[15]),(37,15,[15]),(35,19,[34,33,32,31,30,29,19]),(37,19,[19]),(35,21,[34,33,32,31,30,29,28,22,21]),(37,21,[21]),(35,26,[34,33,32,31,30,29,28,27,26]),(37,26,[26]),(35,30,[34,33,32,31,30]),(37,30,[30]),(35,34,[34]),(37,34,[34]),(36,35,[35]),(37,35,[35])] fun qp dQ iA => ?_;have s4:Stp CY.heap.size CY qp:=Sb dQ;have⟨G,m22,m23,m24,nT,mY,pY,oN⟩:=mM dQ m14 m15 m16 m17 Y m20 FN YR;have b4:=Z.then s4 (.inr Z.size);refine aY (pt p)<|aY (pt p)<|aY (pt p)<|aY (au o)<|aY (pt p)<|aY (pt p)<|aY (pt p)<|aY (au o)<|aY (pt p)<|aY (pt p)<|aY (pf p 1)<|aY (pt p)<|aY (pt p)<|aY (pt p)<|aY (pf g1 2)<|aY (pt p)<|aY (pt p)<|aY (pt p)<|Rd (v := .slice M.la (M.n) (M.lc)) (by rfl) (by rfl) (uy _) (fun D C=>bA (x:=Np (.slice M.la (M.n) (M.lc)) (.slice M.aa (M.an) (M.ac))) rfl rfl (by kernel_rfl) (G.aI.below C (by have:=G.lt; omega)) (i:=0) (by omega) (by omega) rfl) ?_;refine Rs (.slice M.la (M.n) (M.lc)) (aN G.aI 0) ?_;obtain⟨S,J⟩:=m22.addr (by omega);have qx:Fx.Own qp B 72 1 (bO S M.n M.lc) M.n (Hu M.pl):=m22.fH (K_ (fun q=>Value.slice q M.n M.lc) J);refine Rp (pf S o) (fun _=>dh 1 (hx:=(rfl.trans (K_ (fun q=>Value.slice q (M.n) (M.lc)) J))))<|Rs (pt (M.pl o)) (aN qx.aI o) ?_;refine Rs (.slice M.aa (M.an) (M.ac)) (aN G.aI 1) ?_;refine Rs (.slice M.la (M.n) (M.lc)) (aN G.aI 0) ?_;refine Rs (.int .u8 (x.other:Int)) (aN nT.aI 2) ?_;refine Rp (au x.other) (fun D=>dB rfl rfl (by kernel_rfl) Tryz.underlying3 (iP (by omega) rfl))<|Rs (.slice M.la (M.n) (M.lc)) (aN G.aI 0) ?_;refine aY (au M.n)<|Rp (au A) (fun D=>Fx.wJ rfl rfl rfl (by omega) (FL adT))<|Rp (pf S A) (fun _=>dh 1 (hx:=(rfl.trans (K_ (fun q=>Value.slice q (M.n) (M.lc)) J))))<|Rs (pt (M.pl A)) (aN qx.aI A) ?_;refine aY (pt (M.pl A))<|aY (pt (M.pl A))<|aY (pf (M.pl A) 12)<|Rs (.agg (aA 6 (rv .u64 ((M.ml A).s.known)))) (fI pY.aI 12 (fun j W=>lN _ (by omega) (jW _ W (by omega)))) ?_;refine yD<|lX (X0 (M.ml o) B (M.pl o) T M.aa M.an M.ac M.ev ((M.ml A).s.known) _ oN (d.inv o (by omega)) m23.arr d.wf d.may d.sm han hT) ?_;rintro e9 w3 ⟨t,f,E,hlc,hI3,hL1,hb1⟩;refine⟨(pt t),E,?_⟩;clear E;have s5:=Sb hb1;have⟨oZ,lV,m32,oO,qH⟩:=vM hb1 G m23 m24 mY qx;have b5:=b4.then s5 (.inr b4.size);refine Ln ⟨s5.old,?_⟩;refine Rp (pf S o) (fun _=>dh 1 (hx:=(rfl.trans (K_ (fun q=>Value.slice q (M.n) (M.lc)) J))))<|gF<|pQ qH o (pt t) fun w4 sD s6 z3 => ?_;have gK:=gI s6 qH.JH;have⟨sV,qc,sZ,mV,tV⟩:=rz gK oZ lV m32 oO hL1;have b6:=b5.then s6 (.inl (.inr (.inl (by rw[J]; rfl))));have qQ:Fx.Own w4 B 72 1 (bO S M.n M.lc) M.n (Hu (aH M.pl o t)):=sD.congr (fun F _=>congrFun Vz F);refine Ln<|bS<|ay<|av (.agg (aA 14 (fun b=>if b<1 then au 0 else if b<8 then aD 0 else if b<9 then .int .u8 (0)else if b<10 then aD 0 else if b<12 then au 0 else aD 0)))<|fD mV 0 (h1:=(fun F _=>by show((fun b=>if b<1 then au 0 else if b<8 then aD 0 else if b<9 then .int .u8 (0)else if b<10 then aD 0 else if b<12 then au 0 else aD 0:Nat->Value) F).oneCell'=true; simp only[]; repeat (first|rfl|split))) fun w5 nX s7 z4 => ?_
  have sj:aQ w5 R 14 (fun b=>if b<1 then au 0 else if b<8 then aD 0 else if b<9 then .int .u8 (0)else if b<10 then aD 0 else if b<12 then au 0 else aD 0) 32:=aT nX;have kg:=gI s7 mV.ty;have xq:=jD kg sV;have sF:=qc.bZ s7 FE;have⟨uj,um,uI⟩:=F7 kg sZ tV qQ;have b7:=b6.then s7 (.inr su);refine aC (Wr (sR (⟨.agg (aA 14 (fun b=>if b<1 then au 0 else if b<8 then aD 0 else if b<9 then .int .u8 (0)else if b<10 then aD 0 else if b<12 then au 0 else aD 0)),rV Tryz.results13 ⟨_,rfl,aW sj.aI (by kernel_rfl) (by kernel_rfl)⟩,?_⟩)));have xu:Fx.Own w5 B 72 1 (.slice M.la (M.n) (M.lc)) M.n (Hu (aH M.pl o t)):=uI.fH (K_ (fun q=>Value.slice q M.n M.lc) J.symm);exact⟨zeroE,K_ (fun z=>Ending.returned (Value.agg z)) (Fx.eT (y:=bQ zeroE) fun j W=>by rcases j with _|_|_|_|_|_|_|_|_|_|_|_|_|_|j <;> first|rfl|omega),Lg,{ M with pl:=aH M.pl o t,ml:=aH M.ml o f },{ c:=xq,l:=xu,a:=sF,g:=uj.put um,inv:=(fun i U=>by show Inv (aH M.ml o f i).core _; unfold aH; split; exact hI3; exact(d.inv i U).mono (by omega)),wf:=d.wf,may:=d.may,sm:=d.sm,cz:=d.cz.learn (o:=o) (by omega) (L:=(M.ml o).core) rfl (fun q u=>by show(aH M.ml o f q).s.known=_; unfold aH; rw[b_ u]) (by show(aH M.ml o f o).s.known=_; unfold aH; rw[d_ rfl]; exact K_ gy.known hlc),pB:=hpB,n1:=hn1,n6:=hn6 },(by rw[<- Q]; exact⟨rfl,fun q u=>by show aH M.ml o f q=_; unfold aH; rw[b_ u],.inl ⟨rfl,rfl,rfl,.inr ⟨H,by rw[<- adT]; show(aH M.ml o f o).core=_; unfold aH; rw[d_ rfl]; exact hlc⟩⟩⟩),(by show M.an<=M.an+1; omega),(fun _=>rfl),b7,fun _ h => .inl h⟩
 rw[S_]at H;refine Lv aF (aN Y.aI 1 ((show _=Value.bool x.meet from rfl).trans (K_ Value.bool H)))<|aC<|aK<|Wk<|sN<|ay<|av (pt p)<|Lv (.agg (aA 9 (Gg x))) (fI Y.aI 0)<|lX (YP M B p T x _ m18 hx) ?_;rintro e9 w6 ⟨V,hV,hVs,hVd,E,hb2⟩;refine⟨_,E,?_⟩;clear E;rw[<- Q]at hVd;have s8:=Sb hb2;have⟨uZ,tu,tC,xw,vg,om⟩:=ru hb2 m14 m15 m16 m17 Y m20;have b8:=Z.then s8 (.inr Z.size);refine wL 14 (fun b=>if b<1 then au 0 else if b<8 then aD 0 else if b<9 then .int .u8 (0)else if b<10 then aD 0 else if b<12 then au 0 else aD 0) fun g3 w7 ae sG s9 z5 => ?_;have⟨m64,xA,wP,xB,xC,rF⟩:=ru s9.old uZ tu tC xw vg om;have b9:=b8.then s9 (.inr b8.size);have DY:=jI ae b8.size;have apE:=cu ae uZ.lt;have Nu:(.slice M.aa (M.an) (M.ac):Value).ownBlock≠some g3:=by rw[ae]; exact tC.jX (z_ _)
 have⟨apF,apG⟩:=wY ae vg.lt om.lt;have LJ:=sG.lt;refine fD sG 0 (h1:=(iw _)) fun w8 sH s10 z6 => ?_;have uJ:aQ w8 g3 14 (bQ V) 32:=aT sH;have rE:=gI s10 sG.ty;have⟨wQ,uo⟩:=Bu rE m64 xA;have yG:=wP.bZ s10 Nu;have⟨vk,xR⟩:=Bu rE xB xC;have ze:=rF.bZ s10 (by omega);have b10:=b9.then s10 (.inr DY);refine aC<|Ws ?_;have apH:=vk o (by omega);refine jV [0,1,2,4,3,5,6,7,8,9,10,11,12,13] [0,0,0,4,0,0,4,4,3,0,0,0,0,0] [(8,3,[6,5,3]),(8,6,[6]),(8,7,[7]),(9,8,[8]),(10,8,[9,8]),(11,8,[9,8]),(12,8,[8]),(13,8,[8])] fun BG fO mU => ?_;have s11:Stp w8.heap.size w8 BG:=Sb fO;have⟨xS,wR,vo,uK,xD,zf,wS,zG⟩:=mM fO wQ uo yG vk xR ze uJ apH;have b11:=b10.then s11 (.inr b10.size);refine aY (pt p)<|aY (pt p)<|aY (pt p)<|aY (au o)<|Rs (.slice M.la (M.n) (M.lc)) (aN xS.aI 0) ?_;obtain⟨QY,K⟩:=wR.addr (by omega);have zh:Fx.Own BG B 72 1 (bO QY M.n M.lc) M.n (Hu M.pl):=wR.fH (K_ (fun q=>Value.slice q M.n M.lc) K);refine Rp (pf QY o) (fun _=>dh 1 (hx:=(rfl.trans (K_ (fun q=>Value.slice q (M.n) (M.lc)) K))))<|Rs (pt (M.pl o)) (aN zh.aI o) ?_;refine Rs (.agg (aA 14 (bQ V))) (fI wS.aI 0) ?_;refine gF<|lX (Oq (M.ml o) B (M.pl o) T V _ zG hV (d.inv o (by omega)).w (by omega)) ?_;rintro e9 w9 ⟨t,f,E,hc3,hL2,hb3⟩;refine⟨.tuple #[(pt t),au (bH (M.ml o).core V)],E,?_⟩;clear E;have s12:=Sb hb3;have⟨zH,zi,zk,zV,Dx,BM,AQ⟩:=jm hb3 xS vo uK xD zf wS zh;have b12:=b11.then s12 (.inr b11.size);refine Ln<|aY (.tuple #[(pt t),au (bH (M.ml o).core V)])<|aY (pt t)<|aY (au (bH (M.ml o).core V))<|aY (pt t)<|aY (au (bH (M.ml o).core V))<|bS<|Ws<|ay<|av (au (bH (M.ml o).core V)) ?_;by_cases I:(bH (M.ml o).core V)=0
 ·refine Lv aF (jM I)<|aC<|aK<|Wk<|sN<|ay<|av (pt p)<|av (pt p)<|av (pt p)<|Lv (.slice M.la (M.n) (M.lc)) (aN zH.aI 0)<|av (au o)<|av (pt t)<|Lv (pf QY o) (dh 1 (hx:=(rfl.trans (K_ (fun q=>Value.slice q (M.n) (M.lc)) K))))<|pQ AQ o (pt t) fun tT Bp s13 z7 => ?_;have xQ:=gI s13 AQ.JH;have⟨zm,D9,BN,Ea,Eb,tX,wh⟩:=RD xQ zH zi zk zV Dx BM hL2;have b13:=b12.then s13 (.inl (.inr (.inl (by rw[K]; rfl))));have rQ:Fx.Own tT B 72 1 (bO QY M.n M.lc) M.n (Hu (aH M.pl o t)):=Bp.congr (fun F _=>congrFun Vz F);refine aC<|Ws ?_;have rR:Fx.Own tT B 72 1 (.slice M.la (M.n) (M.lc)) M.n (Hu (aH M.pl o t)):=rQ.fH (K_ (fun q=>Value.slice q M.n M.lc) K.symm);refine zQ [0,1,2,3,4,5,6,7,8,9,10] [0,0,0,0,1,4,2,2,0,0,3] (iD [32]) vL Fx.iD.trans (eZ := [(10,4,[4]),(6,5,[5]),(7,5,[6,5]),(10,5,[5]),(7,6,[6]),(8,6,[6]),(9,6,[6]),(10,6,[6]),(8,7,[7]),(9,7,[7]),(10,7,[7])]) (by kernel_rfl) (by kernel_rfl) (by kernel_rfl) (by kernel_rfl) (by kernel_rfl) fun QW lJ AB => ?_;have Dw:Stp tT.heap.size tT QW:=Sb lJ;have⟨nN,nO,oF,nP,oG,ql,qJ,pz⟩:=mM lJ zm D9 BN Ea Eb tX wh rR;have b14:=b13.then Dw (.inr b13.size);refine aY (pt p)<|aY (pt p)<|aY (pt p)<|aY (pf p 1)<|Rd (v := .slice M.aa (M.an) (M.ac)) (by rfl) (by rfl) (vL _) (fun D C=>bA (x:=Np (.slice M.la (M.n) (M.lc)) (.slice M.aa (M.an) (M.ac))) rfl rfl (by kernel_rfl) (nN.kH C (by decide)).aI (i:=1) (by omega) (by omega) rfl) ?_;refine Rs (.agg (aA 14 (bQ V))) (fI ql.aI 0) ?_;refine yD<|yZ (vs := [(0,.agg (aA 14 (bQ V)))]) (s:=14) (zc:=fun b=>if b<1 then au 0 else if b<8 then aD 0 else if b<9 then .int .u8 (0)else if b<10 then aD 0 else if b<12 then au 0 else aD 0) (y:=bI (fun j=>(fun b=>if b<1 then au 0 else if b<8 then aD 0 else if b<9 then .int .u8 (0)else if b<10 then aD 0 else if b<12 then au 0 else aD 0) (j % 14)) (0*14) 14 (bQ V)) (by rfl) rfl rfl Tryz.underlying42 (by kernel_rfl) (by rfl) (by rfl) (by kernel_rfl) (by rw[bD (off:=0*14) (s:=14) (y:=bQ V) rfl (bJ _ _) (by rfl)]; rfl) rfl fun g4 F3 af rT s15 z8 => ?_;have⟨wm,sK,wo,uQ,rU,oH,wu⟩:=jm s15.old nN nO oF oG ql qJ pz;have b15:=b14.then s15 (.inr b14.size);have Wy:=jI af b14.size;have XH:=cu af nN.lt;have XI:(.slice M.aa (M.an) (M.ac):Value).ownBlock≠some g4:=by rw[af]; exact nO.jX (z_ _)
  have⟨ajo,ajp,XJ⟩:=JL af nP.lt oG.lt ql.lt;have Ug:=rT.lt;refine Ln ⟨Fx.iD.of_below s15.old,?_⟩;refine yD<|zx (B:=B) (s:=14) (bytes:=112) (k:=M.an) (m:=1) (v := .slice M.aa (M.an) (M.ac)) (x:=evX M.ev) (by rfl) rfl rfl rfl Tryz.underlying42 (by kernel_rfl) (by kernel_rfl) rfl rfl sK rT.aI (yM (fun j=>(show(bQ V j).oneCell'=true by unfold bQ; repeat (first|rfl|split)))) (by omega) (by omega) (by omega) (m_ hB b15.size) fun N ab CW ho1 hg1 vR hlt1 => ?_
  have xg:=zy hg1 sK;have⟨qK,zZ⟩:=Bu xg wm wo;have BO:=uQ.grown hg1 FE;have ajq:R≠N:=fun e=>vR.elim (fun P=>FE (by rw[e]; exact P)) (fun P=>by have:=uQ.lt; omega);have xW:=rU.grown hg1 Nu;have ajr:g3≠N:=fun e=>vR.elim (fun P=>Nu (by rw[e]; exact P)) (fun P=>by have:=rU.lt; omega);have⟨BP,BQ⟩:=Bu xg oH wu;have wz:Fx.Own CW B 32 14 (bO N (M.an+1) ab) (M.an+1) (evX (aH M.ev M.an V)):=(ho1.congr (fun j W=>adR j W));have b16:jP (WH p M) w CW:=Fx.jP.grow b15 hg1 (fun q u => .inl (.inr (.inr u)));refine Ln ⟨xg,?_⟩;refine aY (pt p)<|aY (pf p 1)<|gF<|iM qK 1 (bO N (M.an+1) ab) fun F4 Aa s16 z9 => ?_;have xX:aQ F4 p 2 (Np (.slice M.la (M.n) (M.lc)) (bO N (M.an+1) ab)) 44:=Aa.congr (agV _ _ _);have xk:=gI s16 qK.ty;have⟨E5,BR,Ac,DI,EP,Ad⟩:=RB xk zZ BO xW BP BQ wz;have b17:=b16.then s16 (.inl (.inl rfl));refine Ln<|bS<|ay<|Lv (.agg (aA 14 (bQ V))) (fI Ac.aI 0)<|fD BR 0 (h1:=(iw _)) fun LG DJ Jq z10 => ?_;have BS:aQ LG R 14 (bQ V) 32:=aT DJ;have zl:=gI Jq BR.ty;have E8:=jD zl E5;have Ae:=Ac.bZ Jq (by omega);have⟨BU,AU⟩:=Bu zl DI EP;have IV:=Ad.aaA Jq (by omega);have TR:=jD zl xX;have b18:=b17.then Jq (.inr su);refine aC (Wr (⟨.agg (aA 14 (bQ V)),rV Tryz.results13 ⟨_,rfl,aW BS.aI (by kernel_rfl) (by kernel_rfl)⟩,?_⟩));have hinv:Inv f.core (T+3660):=by rw[hc3]; exact(GZ hVs (d.inv o (by omega))).mono (by omega)
  have eRo:aL V=o:=by unfold aL; omega
  have hk3:f.s.known=aH (M.ml o).s.known o ((M.ml o).s.known o+1):=(K_ gy.known hc3).trans (by rw[Cx I,eRo]; rfl);exact⟨V,rfl,hV,{ M with pl:=aH M.pl o t,ml:=aH M.ml o f,an:=M.an+1,aa:=some ⟨N,0,none⟩,ac:=ab,ev:=aH M.ev M.an V },{ c:=TR,l:=AU,a:=IV,g:=E8.put BU,inv:=(fun i U=>by show Inv (aH M.ml o f i).core _; unfold aH; split; exact hinv; exact(d.inv i U).mono (by omega)),wf:=(fun k X=>by have hk2:k<M.an+1:=X; show fK (aH M.ev M.an V k); unfold aH; split; exact hV; exact d.wf k (by omega)),may:=(fun k X=>by have hk2:k<M.an+1:=X; show bM (aH M.ev M.an V k)=true; unfold aH; split; exact QI I; exact d.may k (by omega)),sm:=(fun k X=>by have hk2:k<M.an+1:=X; show nZ (aH M.ev M.an V k); unfold aH; split; exact hVs; exact d.sm k (by omega)),cz:=d.cz.event (o:=o) (by omega) (jK I) eRo hVd.2.2 (fun q u=>by show(aH M.ml o f q).s.known=_; unfold aH; rw[b_ u]) (by show(aH M.ml o f o).s.known=_; unfold aH; rw[d_ rfl]; exact hk3),pB:=hpB,n1:=hn1,n6:=hn6 },(by rw[<- Q]; exact⟨rfl,fun q u=>by show aH M.ml o f q=_; unfold aH; rw[b_ u],.inr ⟨H,rfl,rfl,I,by show(aH M.ml o f o).core=_; unfold aH; rw[d_ rfl]; exact hc3,hVd⟩⟩),z_ _,(fun u=>by rw[H]at u; cases u),b18,YX.app vR b15.size⟩
 refine Lv aG (nC I)<|aC<|aO<|ay<|av (.agg (aA 14 (fun b=>if b<1 then au 0 else if b<8 then aD 0 else if b<9 then .int .u8 (0)else if b<10 then aD 0 else if b<12 then au 0 else aD 0)))<|fD Dx 0 (h1:=(fun F _=>by show((fun b=>if b<1 then au 0 else if b<8 then aD 0 else if b<9 then .int .u8 (0)else if b<10 then aD 0 else if b<12 then au 0 else aD 0:Nat->Value) F).oneCell'=true; simp only[]; repeat (first|rfl|split))) fun LH Uh Jt z11 => ?_
 have TS:aQ LH R 14 (fun b=>if b<1 then au 0 else if b<8 then aD 0 else if b<9 then .int .u8 (0)else if b<10 then aD 0 else if b<12 then au 0 else aD 0) 32:=aT Uh;have BL:=gI Jt Dx.ty;have TT:=jD BL zH;have abY:=zi.bZ Jt FE;have TU:=jD BL zk;have TV:=BM.bZ Jt (by omega);have P6:=jD BL AQ;have b19:=b12.then Jt (.inr su);refine aC (Wr (sR (⟨.agg (aA 14 (fun b=>if b<1 then au 0 else if b<8 then aD 0 else if b<9 then .int .u8 (0)else if b<10 then aD 0 else if b<12 then au 0 else aD 0)),rV Tryz.results13 ⟨_,rfl,aW TS.aI (by kernel_rfl) (by kernel_rfl)⟩,?_⟩)));have TY:Fx.Own LH B 72 1 (.slice M.la (M.n) (M.lc)) M.n (Hu M.pl):=P6.fH (K_ (fun q=>Value.slice q M.n M.lc) K.symm);exact⟨zeroE,K_ (fun z=>Ending.returned (Value.agg z)) (Fx.eT (y:=bQ zeroE) fun j W=>by rcases j with _|_|_|_|_|_|_|_|_|_|_|_|_|_|j <;> first|rfl|omega),Lg,M,{ c:=TT,l:=TY,a:=abY,g:=TU,inv:=fun i U=>(d.inv i U).mono (by omega),wf:=d.wf,may:=d.may,sm:=d.sm,cz:=d.cz,pB:=hpB,n1:=hn1,n6:=hn6 },⟨rfl,fun _ _=>rfl,.inl ⟨rfl,rfl,rfl,.inl rfl⟩⟩,by omega,(fun _=>rfl),b19,fun _ h => .inl h⟩
theorem ahC(M:WM)(B p T:Nat)(x:Gf)(w:World)(c:og w B p M T)(b:B<=w.heap.size)(hx:HY x)(m:M.an<=60)(l:T<=890000) :
 Calls Tryz.prog 13 #[(pt p),.agg (aA 9 (Gg x))] w fun e w' => ∃ v,e = .returned (.agg (aA 14 (bQ v)))/\fK v /\ ∃ a,og w' B p a (T+3660)/\DoR (x.who % M.n) x M a v/\a.an<=M.an+1/\(x.meet=true->a.an=M.an)/\Below B w w' :=
 (ahB M B p T x w c b hx m l).mono fun _ _ ⟨v,d,f,a,g,h,i,j,k,_⟩=>⟨v,d,f,a,g,h,i,j,c.yu b k⟩
end Go.Proofs.YtahbiajdgealnaaGreatDoor
namespace Go.Proofs.YtahbiajdgealnaaGreatDoor
open Go.RowKit Go.WideShapes Go.ChangeShapes Go.Deep Rt
def VH:Value->Bool | .bool b=>b|_=>false
theorem Q6.int{k:IntKind}{v:Value}(h:Q6 (some k) v):v = .int k (intOf v)/\(Lit.int k (intOf v)).wf=true:=by
 obtain⟨n,rfl,a⟩:=h; exact⟨rfl,a⟩
theorem Q6.bool{v:Value}(h:Q6 none v):v = .bool (VH v):=by
 obtain⟨b,rfl⟩:=h; rfl
theorem wf_u8{n:Int}(h:(Lit.int .u8 n).wf=true):0<=n/\n<=255:=by simp[Lit.wf,IntKind.min,IntKind.max,IntKind.bits,IntKind.signed]at h; omega
theorem wf_u16{n:Int}(h:(Lit.int .u16 n).wf=true):0<=n/\n<=65535:=by simp[Lit.wf,IntKind.min,IntKind.max,IntKind.bits,IntKind.signed]at h; omega
theorem Nv{n:Int}(h:(Lit.int .u8 n).wf=true) : ∃ m:Nat,n=(m:Int)/\m<=255:=by
 have:=wf_u8 h; exact⟨n.toNat,by omega,by omega⟩
theorem Fx.ni.congr{w:World}{a:Option Addr}{n s:Nat}{x y:Nat->Value}(h:Fx.ni w a n s x)(e : ∀ p,p<n*s->x p=y p):Fx.ni w a n s y:=fun f=>by
 obtain⟨b,j,d,g⟩:=h f;exact⟨b,j,d,fun i c=>by rw[<- e i c]; exact g i c⟩
def VI:List (Option IntKind) := [some .u8,none,some .u8,some .u8,some .u8,some .u8,some .u16,some .u8,some .u8]
def VJ(X:Nat->Value):Gf:=⟨(intOf (X 0)).toNat,VH (X 1),(intOf (X 2)).toNat,(intOf (X 3)).toNat,(intOf (X 4)).toNat,(intOf (X 5)).toNat,(intOf (X 6)).toNat,(intOf (X 7)).toNat,(intOf (X 8)).toNat⟩
theorem Lh{X:Nat->Value}(h : ∀(j:Nat) (k:Option IntKind),VI[j]? = some k->Q6 k (X j)):HY (VJ X) /\ ∀ j,j<9->X j=Gg (VJ X) j:=by
 have a : ∀ j,VI[j]? = some (some .u8)->X j = .int .u8 ((intOf (X j)).toNat:Int)/\(intOf (X j)).toNat<=255:=fun j d=>by
  obtain⟨e,b⟩:=(h j _ d).int;have:=wf_u8 b;exact⟨by rw[Int.toNat_of_nonneg this.1]; exact e,by omega⟩
 have c:X 6 = .int .u16 ((intOf (X 6)).toNat:Int)/\(intOf (X 6)).toNat<=65535:=by
  obtain⟨e,b⟩:=(h 6 (some .u16) rfl).int;have:=wf_u16 b;exact⟨by rw[Int.toNat_of_nonneg this.1]; exact e,by omega⟩
 refine⟨⟨(a 0 rfl).2,(a 2 rfl).2,(a 3 rfl).2,(a 4 rfl).2,(a 5 rfl).2,c.2,(a 7 rfl).2,(a 8 rfl).2⟩,fun j d => ?_⟩
 rcases j with _|_|_|_|_|_|_|_|_|j
 ·exact(a 0 rfl).1
 ·exact(h 1 none rfl).bool
 ·exact(a 2 rfl).1
 ·exact(a 3 rfl).1
 ·exact(a 4 rfl).1
 ·exact(a 5 rfl).1
 ·exact c.1
 ·exact(a 7 rfl).1
 ·exact(a 8 rfl).1
 omega
section
variable {H:Type} {enc:TypeId × Value->H} {P:Program} {w:World}
theorem QJ{t e:TypeId}{a:Option Addr}{len cap D:Nat}{d:DataW H}{r:List MemPlace}(q:P.underlying t=some (.slice e))(b:yt P D e=some VI)(l:P.cellsOf e=9)
 (h:DataW.Trod enc P w 0 (fun _=>true) true t (.slice a len cap) d r) : ∃ g:Nat->Gf,(∀ i,i<len->HY (g i))/\Fx.ni w a len 9 (Fx.flat 9 fun k=>Gg (g k)):=by
 obtain⟨v,n⟩:=h;obtain⟨s,x,u,f,_,_,X,c,m⟩:=QF q b l (by decide) n;simp[Value.cells]at f;obtain⟨rfl,rfl,rfl⟩:=f;exact⟨fun i=>VJ (X i),fun i o=>(Lh (c i o)).1,m.congr (Fx.bK fun k b j p=>(Lh (c k b)).2 j p)⟩
end
end Go.Proofs.YtahbiajdgealnaaGreatDoor
namespace Go.Proofs.YtahbiajdgealnaaGreatDoor
open Go.RowKit Rt
open Fx (fE eO fM bA gN gM dB dS gD jA eG jB fZ jC jf Lv sN Ln Ws Qv Wl Rp Wc Qs Wr Sb Lk Wk rC rV sR Rs Rn Rd Rk Wb Wx Wo DX Wt qY Jc Qn FZ Bn yZ zx CP DU qo gI zy ng uy uw vL wX zw CV zQ rv aA aQ bI aM ev cB Stp dI aT flat dA Mp eU aW gU iQ bD down iO jP kL iP ni bK bJ cells_one iD bV tO unseen jL iB bX dJ bL bR cK cO gJ gV pV gP)
set_option maxRecDepth 20000
set_option linter.unusedVariables false
theorem YZ{B:Nat}{a b c:World}(h:Below a.heap.size a b)(e:Below B b c)(d:a.heap.size<=B):Below a.heap.size a c:=h.trans (e.mono d)
theorem vw.CU{w w':World}{B p:Nat}{m:lu}{e:List TypeId}(h:vw w B p m)(b:Fx.wZ e w w')(k:(Kn.all fun T => !e.contains T)=true):vw w' B p m:=by
 have a : ∀ d∈Kn,e.contains d=false:=fun d f=>by
  have:=List.all_eq_true.1 k d f
  simpa using this
 exact { h with
  c:=h.c.CU b (a _ (by decide)),n:=h.n.CU b (a _ (by decide)),g:=h.g.CU b (a _ (by decide)),tc:=h.tc.CU b (a _ (by decide)),t:=h.t.CU b (a _ (by decide)),r:=⟨fun i j=>(h.r.1 i j).CU b (a _ (by decide)),h.r.2⟩ }
section
set_option linter.unusedVariables false
namespace Rt
structure Ab where
 inn:Nat->Bool
 left:Nat->Bool
 own:Nat->Int
 has:Int->Bool
 par:Int->Int
 R:Int->Nat->Int
 gh:Int->Int->Bool
 g:Int->Int->Nat->Int
 ask:Int->Int->Bool
def Ab.up(A:Ab)(x:Int):Nat->Int
 | 0=>x
 | i+1=>A.par (A.up x i)
def Ab.on(A:Ab)(x y:Int):Bool:=A.has y&&(List.range 6).any fun i=>decide (A.up x i=y)
def rZ(v:EvM):Int:=jd v.o v.seq
def aV(v:EvM):Nat:=(v.o-1).toNat
def dV(v:EvM):Nat:=(v.dst-1).toNat
def Ab.dl(A:Ab)(v:EvM)(y:Int)(p:Nat):Int :=
 if v.kind=1 then(if y=rZ v/\p=aV v then v.aS else 0)
 else if v.kind=2 then(if y=v.node/\p=aV v then v.aS else 0)
 else if v.kind=3 then(if A.on v.node y=true/\p=6+aV v then v.aS else 0)
 else if v.kind=4 then(if A.on (A.g v.o v.of 2) y=true/\p=12+aV v then A.g v.o v.of 3 else 0)
 else if v.kind=5 then(if y=v.node/\p=18+(6*aV v+dV v)then v.aS else 0)
 else 0
def Ab.qZ(A:Ab)(v:EvM):Ab where
 inn:=fun j=>A.inn j || (decide (v.kind=6)&&decide (j=dV v))
 left:=fun j=>A.left j || (decide (v.kind=7)&&decide (j=aV v))
 own:=fun j=>A.own j+if v.kind=1/\j=aV v then 1 else 0
 has:=fun y=>A.has y || (decide (v.kind=1)&&decide (y=rZ v))
 par:=fun y=>if v.kind=1/\y=rZ v then v.node else A.par y
 R:=fun y p=>A.R y p+A.dl v y p
 gh:=fun o r=>A.gh o r || (decide (v.kind=3)&&(decide (o=v.o)&&decide (r=v.req)))
 g:=fun o r j=>if v.kind=3/\o=v.o/\r=v.req then(if j=2 then v.node else if j=3 then v.aS else 0)else if v.kind=4/\o=v.o/\r=v.of/\j=4 then v.req else A.g o r j
 ask:=fun o r=>A.ask o r || ((decide (v.kind=3) || decide (v.kind=4))&&(decide (o=v.o)&&decide (r=v.req)))
structure Ab.Ok(A:Ab):Prop where
 z:A.has 0=false
 p : ∀ y,A.has y=true->A.par y=0\/A.has (A.par y)=true
 p0 : ∀ y,A.has y=false->A.par y=0
 g : ∀ o r,A.gh o r=true->A.has (A.g o r 2)=true
 r0 : ∀ y p,A.has y=false->A.R y p=0
structure Ab.Pre(A:Ab)(v:EvM):Prop where
 n1:v.kind=1->A.has (rZ v)=false/\rZ v≠0/\(v.node=0\/A.has v.node=true)
 n2:v.kind=2->A.has v.node=true
 n3:v.kind=3->A.has v.node=true/\A.gh v.o v.req=false
 n4:v.kind=4->A.gh v.o v.of=true
 n5:v.kind=5->A.has v.node=true
section
variable {A B:Ab} {u v:EvM} {y:Int}
theorem Ab.HZ(h:A.Ok){x:Int}(hx:A.has x=true) : ∀ i,A.up x i=0\/A.has (A.up x i)=true
 | 0 => .inr hx
 | i+1=>by
   show A.par (A.up x i)=0\/A.has (A.par (A.up x i))=true
   rcases Ab.HZ h hx i with e|e
   ·left; rw[e]; exact h.p0 0 h.z
   ·exact h.p _ e
theorem Ab.Bh(hy:A.has y=true):(A.qZ v).has y=true:=by show(A.has y || _)=true; rw[hy]; rfl
theorem Ab.O7(c:A.Pre v)(hy:A.has y=true):(A.qZ v).par y=A.par y:=by
 show(if v.kind=1/\y=rZ v then v.node else A.par y)=A.par y;rw[b_];rintro ⟨a,b⟩;have:=(c.n1 a).1;rw[<- b,hy]at this; cases this
theorem Ab.VK(c:A.Pre v):(A.qZ v).par 0=A.par 0:=by
 show(if v.kind=1/\(0:Int)=rZ v then v.node else A.par 0)=A.par 0;rw[b_];rintro ⟨a,b⟩;exact(c.n1 a).2.1 b.symm
theorem Ab.VL(h:A.Ok)(a:A.Pre v){x:Int}(hx:A.has x=true) : ∀ i,(A.qZ v).up x i=A.up x i
 | 0=>rfl
 | i+1=>by
   show(A.qZ v).par ((A.qZ v).up x i)=A.par (A.up x i);rw[Ab.VL h a hx i]
   rcases Ab.HZ h hx i with e|e
   ·rw[e]; exact Ab.VK a
   ·exact Ab.O7 a e
theorem Ab.VN(h:A.Ok)(b:A.Pre v){x:Int}(hx:A.has x=true)(y:Int):(A.qZ v).on x y=A.on x y:=by
 unfold Ab.on;have e:((List.range 6).any fun i=>decide ((A.qZ v).up x i=y))=((List.range 6).any fun i=>decide (A.up x i=y)):=by
  congr 1; funext i; rw[Ab.VL h b hx i]
 rw[e]
 cases hc:(List.range 6).any fun i=>decide (A.up x i=y)
 ·rw[H_,H_]
 rw[Bool.and_true,Bool.and_true];obtain⟨i,_,a⟩:=List.any_eq_true.1 hc;have a:=h_ a;show(A.has y || (decide (v.kind=1)&&decide (y=rZ v)))=A.has y
 cases hy:A.has y
 ·rcases Ab.HZ h hx i with e0|e0
  ·rw[a]at e0
   cases c1:decide (v.kind=1)
   ·rfl
   have:=(b.n1 (h_ c1)).2.1;rw[g_ (show ¬ y=rZ v by rw[e0]; exact fun q=>this q.symm)]; rfl
  rw[a,hy]at e0; cases e0
 rfl
theorem Ab.Li(f:A.Pre v){o r:Int}(d:A.gh o r=true)(j:Nat)(e:j≠4):(A.qZ v).g o r j=A.g o r j:=by
 show(if v.kind=3/\o=v.o/\r=v.req then(if j=2 then v.node else if j=3 then v.aS else 0)else if v.kind=4/\o=v.o/\r=v.of/\j=4 then v.req else A.g o r j)=A.g o r j;rw[b_,b_]
 ·exact fun q=>e q.2.2.2
 rintro ⟨a,b,c⟩;have:=(f.n3 a).2;rw[<- b,<- c,d]at this; cases this
theorem Ab.adU{o r:Int}(a:A.gh o r=true):(A.qZ v).gh o r=true:=by show(A.gh o r || _)=true; rw[a]; rfl
theorem Ab.adV(h:A.Ok)(b:A.Pre v):(A.qZ v).Ok where
 z:=by
  show(A.has 0 || (decide (v.kind=1)&&decide ((0:Int)=rZ v)))=false;rw[h.z,Bool.false_or]
  cases c1:decide (v.kind=1)
  ·rfl
  ·rw[g_ (fun q=>(b.n1 (h_ c1)).2.1 q.symm)]; rfl
 p:=fun y a=>by
  have a:(A.has y || (decide (v.kind=1)&&decide (y=rZ v)))=true:=a;show(if v.kind=1/\y=rZ v then v.node else A.par y)=0\/(A.qZ v).has (if v.kind=1/\y=rZ v then v.node else A.par y)=true;by_cases c:v.kind=1/\y=rZ v
  ·rw[d_ c];exact(b.n1 c.1).2.2.imp id Ab.Bh
  ·rw[b_ c];have u:A.has y=true:=by
    rcases Bool.or_eq_true_iff.1 a with q|q
    ·exact q
    ·rw[R_]at q; exact L_ ⟨h_ q.1,h_ q.2⟩ c
   exact(h.p y u).imp id Ab.Bh
 p0:=fun y a=>by
  have a:(A.has y || (decide (v.kind=1)&&decide (y=rZ v)))=false:=a;rw[Bool.or_eq_false_iff]at a;show(if v.kind=1/\y=rZ v then v.node else A.par y)=0;rw[b_]
  ·exact h.p0 y a.1
  ·rintro ⟨s,t⟩;rw[f_ s,f_ t]at a; cases a.2
 g:=fun o r d=>by
  have d:(A.gh o r || (decide (v.kind=3)&&(decide (o=v.o)&&decide (r=v.req))))=true:=d;by_cases c:v.kind=3/\o=v.o/\r=v.req
  ·have:(A.qZ v).g o r 2=v.node:=(by show(if v.kind=3/\o=v.o/\r=v.req then _ else _)=v.node; rw[d_ c]; rfl);rw[this]; exact Ab.Bh (b.n3 c.1).1
  ·have k:A.gh o r=true:=by
    rcases Bool.or_eq_true_iff.1 d with q|q
    ·exact q
    ·rw[R_,R_]at q; exact L_ ⟨h_ q.1,h_ q.2.1,h_ q.2.2⟩ c
   rw[Ab.Li b k 2 (by decide)];exact Ab.Bh (h.g o r k)
 r0:=fun y p a=>by
  have a:(A.has y || (decide (v.kind=1)&&decide (y=rZ v)))=false:=a;rw[Bool.or_eq_false_iff]at a;show A.R y p+A.dl v y p=0;rw[h.r0 y p a.1,Int.zero_add];have l : ∀ x,A.on x y=false:=fun x=>by unfold Ab.on; rw[a.1]; rfl
  unfold Ab.dl;by_cases f:v.kind=1
  ·rw[d_ f,b_];rintro ⟨e,_⟩; rw[f_ f,f_ e]at a; cases a.2
  rw[b_ f];by_cases i:v.kind=2
  ·rw[d_ i,b_];rintro ⟨e,_⟩; rw[e,b.n2 i]at a; cases a.1
  rw[b_ i];by_cases m:v.kind=3
  ·rw[d_ m,b_]; rw[l]; exact fun q=>by cases q.1
  rw[b_ m];by_cases n:v.kind=4
  ·rw[d_ n,b_]; rw[l]; exact fun q=>by cases q.1
  rw[b_ n];by_cases j:v.kind=5
  ·rw[d_ j,b_];rintro ⟨e,_⟩; rw[e,b.n5 j]at a; cases a.1
  rw[b_ j]
theorem Ab.VO(h:A.Ok)(c:A.Pre u)(i:A.Pre v)(y:Int)(p:Nat):(A.qZ u).dl v y p=A.dl v y p:=by
 unfold Ab.dl;by_cases d:v.kind=1
 ·rw[d_ d,d_ d]
 rw[b_ d,b_ d];by_cases e:v.kind=2
 ·rw[d_ e,d_ e]
 rw[b_ e,b_ e];by_cases a:v.kind=3
 ·rw[d_ a,d_ a,Ab.VN h c (i.n3 a).1]
 rw[b_ a,b_ a];by_cases b:v.kind=4
 ·have f:=i.n4 b;rw[d_ b,d_ b,Ab.Li c f 2 (by decide),Ab.Li c f 3 (by decide),Ab.VN h c (h.g _ _ f)]
 rw[b_ b,b_ b]
theorem Ab.QK(h1:A.inn=B.inn)(a:A.left=B.left)(b:A.own=B.own)(c:A.has=B.has)(d:A.par=B.par)(e:A.R=B.R)(f:A.gh=B.gh)(h:A.g=B.g)(i:A.ask=B.ask):A=B:=by
 cases A; cases B; simp only at h1 a b c d e f h i; subst h1 a b c d e f h i; rfl
theorem Ab.VP(h:A.Ok)(b:A.Pre u)(d:A.Pre v)(k:u.o≠v.o)(i:u.kind=1->v.kind=1->rZ u≠rZ v):(A.qZ u).qZ v=(A.qZ v).qZ u:=by
 apply Ab.QK
 ·funext j; exact Bool.or_right_comm _ _ _
 ·funext j; exact Bool.or_right_comm _ _ _
 ·funext j; exact Int.add_right_comm _ _ _
 ·funext y; exact Bool.or_right_comm _ _ _
 ·funext y
  show(if v.kind=1/\y=rZ v then v.node else if u.kind=1/\y=rZ u then u.node else A.par y)=(if u.kind=1/\y=rZ u then u.node else if v.kind=1/\y=rZ v then v.node else A.par y);by_cases c:v.kind=1/\y=rZ v
  ·rw[d_ c,d_ c,b_];rintro ⟨e,f⟩;exact i e c.1 (f.symm.trans c.2)
  rw[b_ c,b_ c]
 ·funext y p
  show A.R y p+A.dl u y p+(A.qZ u).dl v y p=A.R y p+A.dl v y p+(A.qZ v).dl u y p;rw[Ab.VO h b d,Ab.VO h d b,Int.add_right_comm]
 ·funext o r; exact Bool.or_right_comm _ _ _
 ·funext o r j
  show(if v.kind=3/\o=v.o/\r=v.req then _ else if v.kind=4/\o=v.o/\r=v.of/\j=4 then v.req else if u.kind=3/\o=u.o/\r=u.req then _ else if u.kind=4/\o=u.o/\r=u.of/\j=4 then u.req else A.g o r j) =
   (if u.kind=3/\o=u.o/\r=u.req then _ else if u.kind=4/\o=u.o/\r=u.of/\j=4 then u.req else if v.kind=3/\o=v.o/\r=v.req then _ else if v.kind=4/\o=v.o/\r=v.of/\j=4 then v.req else A.g o r j)
  by_cases c:o=v.o
  ·have a : ¬ o=u.o:=fun q=>k (q.symm.trans c);rw[b_ (show ¬ (u.kind=3/\o=u.o/\r=u.req)from fun q=>a q.2.1),b_ (show ¬ (u.kind=4/\o=u.o/\r=u.of/\j=4)from fun q=>a q.2.1),b_ (show ¬ (u.kind=3/\o=u.o/\r=u.req)from fun q=>a q.2.1),b_ (show ¬ (u.kind=4/\o=u.o/\r=u.of/\j=4)from fun q=>a q.2.1)]
  rw[b_ (show ¬ (v.kind=3/\o=v.o/\r=v.req)from fun q=>c q.2.1),b_ (show ¬ (v.kind=4/\o=v.o/\r=v.of/\j=4)from fun q=>c q.2.1),b_ (show ¬ (v.kind=3/\o=v.o/\r=v.req)from fun q=>c q.2.1),b_ (show ¬ (v.kind=4/\o=v.o/\r=v.of/\j=4)from fun q=>c q.2.1)]
 funext o r; exact Bool.or_right_comm _ _ _
end
end Rt
end
section
set_option linter.unusedVariables false
namespace Rt
def Cy(x:Nat->Int)(a:Nat):Int:=x a-x (6+a)+x (12+a)+(x (18+(6*0+a))+x (18+(6*1+a))+x (18+(6*2+a))+x (18+(6*3+a))+x (18+(6*4+a))+x (18+(6*5+a)))-(x (18+(6*a+0))+x (18+(6*a+1))+x (18+(6*a+2))+x (18+(6*a+3))+x (18+(6*a+4))+x (18+(6*a+5)))
structure Ab.QL(A:Ab)(v:EvM):Prop where
 inn:A.inn (aV v)=true
 left:A.left (aV v)=false
 pre:A.Pre v
 k1:v.kind=1->A.own (aV v)<5/\v.aS<=140737488355328 /\ ¬ ∀ i,i<4->A.has (A.up v.node i)=true
 k2:v.kind=2->A.R v.node (aV v)+v.aS<=140737488355328
 k3:v.kind=3->A.ask v.o v.req=false /\ ∀ y,A.on v.node y=true->v.aS<=Cy (A.R y) (aV v)
 k4:v.kind=4->A.ask v.o v.req=false/\A.g v.o v.of 4=0 /\ ∀ y,A.on (A.g v.o v.of 2) y=true->A.g v.o v.of 3<=A.R y (6+aV v)-A.R y (12+aV v)
 k5:v.kind=5->A.inn (dV v)=true/\v.aS<=Cy (A.R v.node) (aV v)
def ahD(a p:Nat):Prop:=p=a\/p=6+a\/p=12+a \/ ∃ k,k<6/\p=18+(6*a+k)
structure Ab.Le(A B:Ab)(a:Nat):Prop where
 inn : ∀ j,A.inn j=true->B.inn j=true
 left:B.left a=A.left a
 own:B.own a=A.own a
 has : ∀ y,A.has y=true->B.has y=true
 hid : ∀ s,1<=s/\s<1099511627776->B.has (jd ((a:Int)+1) s)=A.has (jd ((a:Int)+1) s)
 par : ∀ y,A.has y=true->B.par y=A.par y
 R1 : ∀ y p,A.has y=true->ahD a p->B.R y p=A.R y p
 R2 : ∀ y k,A.has y=true->k<6->A.R y (18+(6*k+a))<=B.R y (18+(6*k+a))
 gh : ∀ o r,A.gh o r=true->B.gh o r=true /\ ∀ j,j≠4->B.g o r j=A.g o r j
 gho : ∀ r,B.gh ((a:Int)+1) r=A.gh ((a:Int)+1) r
 go : ∀ r,B.g ((a:Int)+1) r 4=A.g ((a:Int)+1) r 4
 ask : ∀ r,B.ask ((a:Int)+1) r=A.ask ((a:Int)+1) r
structure O8(v:EvM):Prop where
 o:1<=v.o/\v.o<=6
 seq:1<=v.seq/\v.seq<1099511627776
 aS:0<=v.aS
 dst:v.kind=5->1<=v.dst/\v.dst<=6
section
variable {A B:Ab} {u v:EvM} {a:Nat} {x y:Int}
theorem O8.reg(h:O8 v):v.o=(aV v:Int)+1/\aV v<6:=by have:=h.o; unfold aV; omega
theorem O8.id(h:O8 v):rZ v=1099511627776*v.o+v.seq:=by
 unfold rZ jd; rw[d_ ⟨h.o.1,h.o.2,h.seq.1,h.seq.2⟩]
theorem O8.ne(a:O8 u)(b:O8 v)(h:u.o≠v.o):rZ u≠rZ v:=by
 rw[a.id,b.id]; have:=a.seq; have:=b.seq; have:=a.o; have:=b.o; omega
theorem Ab.Le.refl(A:Ab)(a:Nat):A.Le A a:=⟨fun _ h=>h,rfl,rfl,fun _ h=>h,fun _ _=>rfl,fun _ _=>rfl,fun _ _ _ _=>rfl,fun _ _ _ _=>M_ _,fun _ _ h=>⟨h,fun _ _=>rfl⟩,fun _=>rfl,fun _=>rfl,fun _=>rfl⟩
theorem Ab.Le.up(h:A.Le B a)(b:A.Ok)(c:B.Ok)(hx:A.has x=true) : ∀ i,B.up x i=A.up x i
 | 0=>rfl
 | i+1=>by
   show B.par (B.up x i)=A.par (A.up x i);rw[h.up b c hx i]
   rcases Ab.HZ b hx i with e|e
   ·rw[e,b.p0 0 b.z,c.p0 0 c.z]
   ·exact h.par _ e
theorem Ab.Le.on(h:A.Le B a)(c:A.Ok)(d:B.Ok)(hx:A.has x=true)(y:Int):B.on x y=A.on x y:=by
 unfold Ab.on;have e:((List.range 6).any fun i=>decide (B.up x i=y))=((List.range 6).any fun i=>decide (A.up x i=y)):=by
  congr 1; funext i; rw[h.up c d hx i]
 rw[e]
 cases hc:(List.range 6).any fun i=>decide (A.up x i=y)
 ·rw[H_,H_]
 rw[Bool.and_true,Bool.and_true];obtain⟨i,_,b⟩:=List.any_eq_true.1 hc;have b:=h_ b
 rcases Ab.HZ c hx i with e0|e0
 ·rw[b]at e0; rw[e0,c.z,d.z]
 rw[b]at e0; rw[e0,h.has _ e0]
theorem Ab.Nw(h:A.on x y=true):A.has y=true:=by unfold Ab.on at h; rw[R_]at h; exact h.1
theorem Ab.Le.loc(h:A.Le B a)(ha:a<6)(hy:A.has y=true):Cy (A.R y) a<=Cy (B.R y) a:=by
 have o : ∀ k,k<6->B.R y (18+(6*a+k))=A.R y (18+(6*a+k)):=fun k b=>h.R1 y _ hy (.inr (.inr (.inr ⟨k,b,rfl⟩)));unfold Cy;rw[h.R1 y a hy (.inl rfl),h.R1 y (6+a) hy (.inr (.inl rfl)),h.R1 y (12+a) hy (.inr (.inr (.inl rfl))),o 0 (by omega),o 1 (by omega),o 2 (by omega),o 3 (by omega),o 4 (by omega),o 5 (by omega)];have:=h.R2 y 0 hy (by omega); have:=h.R2 y 1 hy (by omega); have:=h.R2 y 2 hy (by omega); have:=h.R2 y 3 hy (by omega); have:=h.R2 y 4 hy (by omega); have:=h.R2 y 5 hy (by omega);omega
theorem Ab.Le.okE(h:A.Le B (aV v))(l:A.Ok)(m:B.Ok)(t:O8 v)(a:A.QL v):B.QL v:=by
 obtain⟨c,p⟩:=t.reg;have P:=a.pre;have w : ∀ r,B.gh v.o r=A.gh v.o r:=fun r=>by rw[c]; exact h.gho r
 have s : ∀ r,B.ask v.o r=A.ask v.o r:=fun r=>by rw[c]; exact h.ask r
 refine⟨h.inn _ a.inn,h.left.trans a.left,⟨fun k => ?_,fun k=>h.has _ (P.n2 k),fun k=>⟨h.has _ (P.n3 k).1,(w _).trans (P.n3 k).2⟩,fun k=>(w _).trans (P.n4 k),fun k=>h.has _ (P.n5 k)⟩,fun k => ?_,fun k => ?_,fun k => ?_,fun k => ?_,fun k=>⟨h.inn _ (a.k5 k).1,Q_ (a.k5 k).2 (h.loc p (P.n5 k))⟩⟩
 ·obtain⟨d,f,j⟩:=P.n1 k;refine⟨?_,f,j.imp (fun q=>q) (h.has _)⟩;have:=h.hid v.seq t.seq;rw[<- c]at this;exact this.trans d
 ·obtain⟨d,f,j⟩:=a.k1 k;refine⟨by rw[h.own]; exact d,f,fun q=>j fun i x => ?_⟩;have n:=q i x
  rcases(P.n1 k).2.2 with e|e
  ·exfalso;have:B.up v.node 0=0:=e;have:=q 0 (by omega);rw[‹B.up v.node 0=0›,m.z]at this; cases this
  rw[h.up l m e i]at n
  rcases Ab.HZ l e i with e0|e0
  ·rw[e0,m.z]at n; cases n
  exact e0
 ·rw[h.R1 _ _ (P.n2 k) (.inl rfl)]; exact a.k2 k
 ·refine⟨(s _).trans (a.k3 k).1,fun y b => ?_⟩;rw[h.on l m (P.n3 k).1]at b;exact Q_ ((a.k3 k).2 y b) (h.loc p (Ab.Nw b))
 obtain⟨d,f,j⟩:=a.k4 k;have u:=(h.gh _ _ (P.n4 k)).2;refine⟨(s _).trans d,by rw[c,h.go,<- c]; exact f,fun y b => ?_⟩;rw[u 2 (by decide),h.on l m (l.g _ _ (P.n4 k))]at b;rw[u 3 (by decide),h.R1 _ _ (Ab.Nw b) (.inr (.inl rfl)),h.R1 _ _ (Ab.Nw b) (.inr (.inr (.inl rfl)))];exact j y b
end
end Rt
end
section
set_option linter.unusedVariables false
namespace Rt
section
variable {A B:Ab} {u v:EvM} {a:Nat} {x y:Int}
theorem Ab.Le.dl(h:A.Le B a)(f:A.Ok)(j:B.Ok)(i:A.Pre u)(y:Int)(p:Nat):B.dl u y p=A.dl u y p:=by
 unfold Ab.dl;by_cases d:u.kind=1
 ·rw[d_ d,d_ d]
 rw[b_ d,b_ d];by_cases e:u.kind=2
 ·rw[d_ e,d_ e]
 rw[b_ e,b_ e];by_cases c:u.kind=3
 ·rw[d_ c,d_ c,h.on f j (i.n3 c).1]
 rw[b_ c,b_ c];by_cases b:u.kind=4
 ·have k:=h.gh _ _ (i.n4 b);rw[d_ b,d_ b,k.2 2 (by decide),k.2 3 (by decide),h.on f j (f.g _ _ (i.n4 b))]
 rw[b_ b,b_ b]
theorem or_mono{p q c:Bool}(h:p=true->q=true)(a:(p || c)=true):(q || c)=true:=by
 cases c
 ·rw[G_]at a ⊢; exact h a
 rw[Bool.or_true]
theorem Ab.Le.both(h:A.Le B a)(f:A.Ok)(i:B.Ok)(n:A.Pre u)(w:B.Pre u):(A.qZ u).Le (B.qZ u) a:=by
 have m : ∀ y,(A.qZ u).has y=true->A.has y=true\/(A.has y=false/\B.has y=false/\u.kind=1/\y=rZ u):=fun y b=>by
  have b:(A.has y || (decide (u.kind=1)&&decide (y=rZ u)))=true:=b
  cases hc:A.has y
  ·right;rw[hc,Bool.false_or,R_]at b;have k:=h_ b.1; have e:=h_ b.2;exact⟨rfl,e ▸ (w.n1 k).1,k,e⟩
  ·exact .inl rfl
 refine⟨fun j d=>or_mono (h.inn j) d,?_,?_,fun y b=>or_mono (h.has y) b,fun s x => ?_,fun y b => ?_,fun y p b v => ?_,fun y k b t => ?_,fun o r l=>⟨or_mono (fun q=>(h.gh o r q).1) l,fun j d => ?_⟩,fun r => ?_,fun r => ?_,fun r => ?_⟩
 ·show(B.left a || _)=(A.left a || _); rw[h.left]
 ·show B.own a+_=A.own a+_; rw[h.own]
 ·show(B.has _ || _)=(A.has _ || _); rw[h.hid s x]
 ·show(if u.kind=1/\y=rZ u then u.node else B.par y)=(if u.kind=1/\y=rZ u then u.node else A.par y)
  rcases m y b with q|⟨_,_,k,e⟩
  ·rw[h.par y q]
  rw[d_ ⟨k,e⟩,d_ ⟨k,e⟩]
 ·show B.R y p+B.dl u y p=A.R y p+A.dl u y p;rw[h.dl f i n]
  rcases m y b with q|⟨q1,q2,_,_⟩
  ·rw[h.R1 y p q v]
  rw[f.r0 y p q1,i.r0 y p q2]
 ·show A.R y _+A.dl u y _<=B.R y _+B.dl u y _;rw[h.dl f i n]
  rcases m y b with q|⟨q1,q2,_,_⟩
  ·have:=h.R2 y k q t; omega
  rw[f.r0 y _ q1,i.r0 y _ q2]; exact M_ _
 ·show(if u.kind=3/\o=u.o/\r=u.req then(if j=2 then u.node else if j=3 then u.aS else 0)else if u.kind=4/\o=u.o/\r=u.of/\j=4 then u.req else B.g o r j)=(if u.kind=3/\o=u.o/\r=u.req then(if j=2 then u.node else if j=3 then u.aS else 0)else if u.kind=4/\o=u.o/\r=u.of/\j=4 then u.req else A.g o r j);by_cases c:u.kind=3/\o=u.o/\r=u.req
  ·rw[d_ c,d_ c]
  rw[b_ c,b_ c,b_ (show ¬ (u.kind=4/\o=u.o/\r=u.of/\j=4)from fun q=>d q.2.2.2),b_ (show ¬ (u.kind=4/\o=u.o/\r=u.of/\j=4)from fun q=>d q.2.2.2)];have l:(A.gh o r || (decide (u.kind=3)&&(decide (o=u.o)&&decide (r=u.req))))=true:=l
  rcases Bool.or_eq_true_iff.1 l with q|q
  ·exact(h.gh o r q).2 j d
  rw[R_,R_]at q; exact L_ ⟨h_ q.1,h_ q.2.1,h_ q.2.2⟩ c
 ·show(B.gh _ r || _)=(A.gh _ r || _); rw[h.gho r]
 ·show(if u.kind=3/\(a:Int)+1=u.o/\r=u.req then(if 4=2 then u.node else if 4=3 then u.aS else 0)else if u.kind=4/\(a:Int)+1=u.o/\r=u.of/\4=4 then u.req else B.g _ r 4)=(if u.kind=3/\(a:Int)+1=u.o/\r=u.req then(if 4=2 then u.node else if 4=3 then u.aS else 0)else if u.kind=4/\(a:Int)+1=u.o/\r=u.of/\4=4 then u.req else A.g _ r 4);rw[h.go r]
 show(B.ask _ r || _)=(A.ask _ r || _); rw[h.ask r]
theorem Ab.adW(d:O8 u)(r:aV u≠a)(ha:a<6){p:Nat}(b:ahD a p)(y:Int):A.dl u y p=0:=by
 obtain⟨n,s⟩:=d.reg;have j:p≠aV u:=by rcases b with e|e|e|⟨k,hk,e⟩ <;> omega
 have l:p≠6+aV u:=by rcases b with e|e|e|⟨k,hk,e⟩ <;> omega
 have m:p≠12+aV u:=by rcases b with e|e|e|⟨k,hk,e⟩ <;> omega
 unfold Ab.dl;by_cases f:u.kind=1
 ·rw[d_ f,b_ fun q=>j q.2]
 rw[b_ f];by_cases g:u.kind=2
 ·rw[d_ g,b_ fun q=>j q.2]
 rw[b_ g];by_cases h:u.kind=3
 ·rw[d_ h,b_ fun q=>l q.2]
 rw[b_ h];by_cases i:u.kind=4
 ·rw[d_ i,b_ fun q=>m q.2]
 rw[b_ i];by_cases c:u.kind=5
 ·have o:=d.dst c;rw[d_ c,b_];rintro ⟨_,q⟩;unfold dV at q
  rcases b with e|e|e|⟨k,hk,e⟩ <;> omega
 rw[b_ c]
theorem Ab.ahE(a:O8 u){p:Nat}(d:18<=p)(y:Int):0<=A.dl u y p:=by
 obtain⟨b,e⟩:=a.reg;have c:=a.aS;unfold Ab.dl;split
 ·split <;> omega
 split
 ·split <;> omega
 split
 ·split <;> omega
 split
 ·rw[b_ fun q=>by omega]; omega
 split
 ·split <;> omega
 omega
theorem Ab.Le.step(h:A.Le B a)(x:B.Ok)(c:O8 u)(m:B.Pre u)(e:aV u≠a)(ha:a<6):A.Le (B.qZ u) a:=by
 obtain⟨w,z⟩:=c.reg;have no : ¬ (a:Int)+1=u.o:=by omega
 refine⟨fun j d => ?_,?_,?_,fun y b=>Ab.Bh (h.has y b),fun s f => ?_,fun y b=>(Ab.O7 m (h.has y b)).trans (h.par y b),fun y p b l => ?_,fun y k b v => ?_,fun o r t => ?_,fun r => ?_,fun r => ?_,fun r => ?_⟩
 ·show(B.inn j || _)=true; rw[h.inn j d]; rfl
 ·show(B.left a || (decide (u.kind=7)&&decide (a=aV u)))=A.left a;rw[g_ (show ¬ a=aV u from fun q=>e q.symm),H_,G_]; exact h.left
 ·show B.own a+(if u.kind=1/\a=aV u then 1 else 0)=A.own a;rw[b_ fun q=>e q.2.symm,C_]; exact h.own
 ·show(B.has _ || (decide (u.kind=1)&&decide (jd ((a:Int)+1) s=rZ u)))=_;rw[g_ (show ¬ jd ((a:Int)+1) s=rZ u from fun q=>by
   rw[c.id]at q; unfold jd at q; rw[d_ ⟨by omega,by omega,f.1,f.2⟩]at q; have:=c.seq; omega),H_,G_]
  exact h.hid s f
 ·show B.R y p+B.dl u y p=A.R y p;rw[Ab.adW c e ha l,C_]; exact h.R1 y p b l
 ·show A.R y _<=B.R y _+B.dl u y _;have:=h.R2 y k b v;have:=Ab.ahE (A:=B) c (p:=18+(6*k+a)) (by omega) y;omega
 ·obtain⟨i,n⟩:=h.gh o r t;exact⟨Ab.adU i,fun j d=>(Ab.Li m i j d).trans (n j d)⟩
 ·show(B.gh _ r || (decide (u.kind=3)&&(decide ((a:Int)+1=u.o)&&decide (r=u.req))))=_;rw[g_ no,Bool.false_and,H_,G_]; exact h.gho r
 ·show(if u.kind=3/\(a:Int)+1=u.o/\r=u.req then(if 4=2 then u.node else if 4=3 then u.aS else 0)else if u.kind=4/\(a:Int)+1=u.o/\r=u.of/\4=4 then u.req else B.g _ r 4)=_;rw[b_ fun q=>no q.2.1,b_ fun q=>no q.2.1]; exact h.go r
 show(B.ask _ r || ((decide (u.kind=3) || decide (u.kind=4))&&(decide ((a:Int)+1=u.o)&&decide (r=u.req))))=_;rw[g_ no,Bool.false_and,H_,G_]; exact h.ask r
end
end Rt
end
section
set_option linter.unusedVariables false
namespace Rt
def wV(K:Nat->Int)(v:EvM):Bool:=decide (v.seq<=K (aL v))
def fU(ev:Nat->EvM)(K:Nat->Int)(A0:Ab):Nat->Ab
 | 0=>A0
 | n+1=>if wV K (ev n)=true then(fU ev K A0 n).qZ (ev n)else fU ev K A0 n
structure Evs(A0:Ab)(ev:Nat->EvM)(an:Nat):Prop where
 ok0:A0.Ok
 rd : ∀ k,k<an->dG (fQ ev k) (ev k)=true
 g : ∀ k,k<an->O8 (ev k)
 dc : ∀ k,k<an->Ox ev an (ev k).deps
 tk : ∀ k,k<an->(fU ev (ev k).deps A0 k).QL (ev k)
section
variable {A0:Ab} {ev:Nat->EvM} {an n m i j k:Nat} {K K1 K2:Nat->Int}
theorem mG{v:EvM}:wV K v=true<->v.seq<=K (aL v):=by unfold wV; exact O_
theorem Evs.seq(h:Evs A0 ev an)(a:k<an):(ev k).seq=fQ ev k (aL (ev k))+1:=(DK (h.rd k a)).2.1
theorem Evs.mono(h:Evs A0 ev an)(a:j<an)(c:k<an)(e:aL (ev j)=aL (ev k))(b:j<k):(ev j).seq<(ev k).seq:=by
 rw[h.seq a,h.seq c];have:=Eh (ev:=ev) b;rw[e]at this ⊢; omega
theorem Evs.uniq(h:Evs A0 ev an)(b:j<an)(c:k<an)(a:aL (ev j)=aL (ev k))(d:(ev j).seq=(ev k).seq):j=k:=by
 rcases Nat.lt_trichotomy j k with q|q|q
 ·have:=h.mono b c a q; omega
 ·exact q
 have:=h.mono c b a.symm q; omega
theorem Evs.ahead(h:Evs A0 ev an)(a:j<an)(b:k<an)(e:wV (ev k).deps (ev j)=true):j<k:=by
 have e:=mG.1 e;have d:=(DK (h.rd k b)).2.2 (aL (ev j)) (h.g j a).reg.2;rw[h.seq a]at e;by_cases c:j<k
 ·exact c
 have:=cnt_mono (ev:=ev) (i:=aL (ev j)) (show k<=j by omega); omega
theorem mo(e:wV K (ev n)=true):fU ev K A0 (n+1)=(fU ev K A0 n).qZ (ev n):=by show(if _ then _ else _)=_; rw[d_ e]
theorem mH(e:wV K (ev n)=false):fU ev K A0 (n+1)=fU ev K A0 n:=by show(if _ then _ else _)=_; rw[b_ (by rw[e]; decide)]
theorem Jh(h:Evs A0 ev an)(a:Nat)(ha:a<6)(f : ∀ i,i<6->K1 i<=K2 i) : ∀ m,m<=an->(∀ i,i<=m->(fU ev K1 A0 i).Ok)->(∀ i,i<=m->(fU ev K2 A0 i).Ok)->(∀ i,i<m->wV K1 (ev i)=true->(fU ev K1 A0 i).QL (ev i))->(∀ i,i<m->wV K2 (ev i)=true->(fU ev K2 A0 i).QL (ev i)) ->
 (∀ i,i<m->aL (ev i)=a->wV K2 (ev i)=true->wV K1 (ev i)=true)->(fU ev K1 A0 m).Le (fU ev K2 A0 m) a
 | 0,_,_,_,_,_,_=>Ab.Le.refl _ _
 | m+1,hm,o1,o2,v1,v2,ho=>by
   have d:=Jh h a ha f m (by omega) (fun i c=>o1 i (by omega)) (fun i c=>o2 i (by omega)) (fun i c=>v1 i (by omega)) (fun i c=>v2 i (by omega)) (fun i c=>ho i (by omega))
   cases c1:wV K1 (ev m)with
   | true =>
     have b:wV K2 (ev m)=true:=mG.2 (Q_ (mG.1 c1) (f _ (h.g m (by omega)).reg.2));rw[mo c1,mo b];exact d.both (o1 m (by omega)) (o2 m (by omega)) (v1 m (by omega) c1).pre (v2 m (by omega) b).pre
   | false =>
     rw[mH c1]
     cases b:wV K2 (ev m)with
     | true =>
       rw[mo b];exact d.step (o2 m (by omega)) (h.g m (by omega)) (v2 m (by omega) b).pre (fun e=>by have:=ho m (by omega) e b; rw[c1]at this; cases this) ha
     | false=>rw[mH b]; exact d
theorem uX(h:Evs A0 ev an) : ∀ n,n<=an -> ∀ K,Ox ev an K->(∀ i,i<=n->(fU ev K A0 i).Ok) /\ ∀ i,i<n->wV K (ev i)=true->(fU ev K A0 i).QL (ev i)
 | 0,_,K,_=>⟨fun i a=>(show i=0 by omega) ▸ h.ok0,fun i a=>L_ a (u_ _)⟩
 | n+1,hn,K,hc=>by
   obtain⟨o,v⟩:=uX h n (by omega) K hc;have f:wV K (ev n)=true->(fU ev K A0 n).QL (ev n):=fun c=>by
    obtain⟨l,r⟩:=uX h n (by omega) (ev n).deps (h.dc n (by omega));have d:=h.g n (by omega);have p:=Jh h (aV (ev n)) d.reg.2 (hc.cl n (by omega) (mG.1 c)) n (by omega) l o r v (fun i a e t=>by
     have u:=h.mono (j:=i) (k:=n) (by omega) (by omega) e a;have b:=(DK (h.rd n (by omega))).1;refine mG.2 ?_;have m:(ev n).deps (aL (ev n))=(ev n).seq-1:=by
      unfold bM at b; simp only[R_,decide_eq_true_eq]at b; exact b.1.1.1.2
     rw[show aL (ev i)=aL (ev n)from e,m]; omega)
    exact p.okE (l n (z_ _)) (o n (z_ _)) d (h.tk n (by omega))
   have s : ∀ i,i<n+1->wV K (ev i)=true->(fU ev K A0 i).QL (ev i):=fun i a e=>by
    by_cases q:i=n
    ·subst q; exact f e
    ·exact v i (by omega) e
   refine⟨fun i a => ?_,s⟩;by_cases q:i=n+1
   ·subst q
    cases c:wV K (ev n)with
    | true=>rw[mo c]; exact Ab.adV (o n (z_ _)) (f c).pre
    | false=>rw[mH c]; exact o n (z_ _)
   ·exact o i (by omega)
end
end Rt
end
section
set_option linter.unusedVariables false
namespace Rt
section
variable {A0:Ab} {ev:Nat->EvM} {an n m i j k:Nat} {K:Nat->Int}
theorem CB(h:Evs A0 ev an)(a:j<an) : ∀ m,j<=m->m<=an->fU ev (ev j).deps A0 m=fU ev (ev j).deps A0 j
 | 0,h1,_=>by obtain rfl:j=0:=(by omega); rfl
 | m+1,h1,h2=>by
   by_cases e:j=m+1
   ·rw[e]
   ·have c:wV (ev j).deps (ev m)=false:=by
     cases q:wV (ev j).deps (ev m)with
     | true=>have:=h.ahead (show m<an by omega) a q; omega
     | false=>rfl
    rw[mH c];exact CB h a m (by omega) (by omega)
theorem Bj{v:EvM}(h:bM v=true):v.deps (aL v)=v.seq-1:=by
 unfold bM at h; simp only[R_,decide_eq_true_eq]at h; exact h.1.1.1.2
theorem H6(h:Evs A0 ev an)(l:Ox ev an K)(b:j<an)(hr:dG K (ev j)=true)(h1:j<=m)(a:m<=an):(fU ev K A0 m).QL (ev j):=by
 obtain⟨f,q⟩:=uX h m a (ev j).deps (h.dc j b);obtain⟨o,v⟩:=uX h m a K l;obtain⟨n,s,p⟩:=DK hr;have c:=h.g j b;have d:=Jh h (aV (ev j)) c.reg.2 p m a f o q v (fun i r e k=>by
  refine mG.2 ?_;have:=mG.1 k;rw[show aL (ev i)=aL (ev j)from e]at this ⊢;rw[Bj n]; omega)
 rw[CB h b m h1 a]at d;exact d.okE (by rw[<- CB h b m h1 a]; exact f m (z_ _)) (o m (z_ _)) c (h.tk j b)
def Ji(K:Nat->Int)(v:EvM):Nat->Int:=aH K (aL v) (K (aL v)+1)
theorem VQ(h:Evs A0 ev an)(a:j<an)(hr:dG K (ev j)=true)(hi:i<an)(b:i≠j):wV (Ji K (ev j)) (ev i)=wV K (ev i):=by
 have d:=(DK hr).2.1;have:wV (Ji K (ev j)) (ev i)=true<->wV K (ev i)=true:=by
  rw[mG,mG];unfold Ji aH;split
  ·rename_i e;rw[e];constructor
   ·intro q;by_cases c:(ev i).seq<=K (aL (ev j))
    ·exact c
    ·exact L_ (h.uniq hi a e (by omega)) b
   ·intro q; omega
  ·exact Iff.rfl
 cases c1:wV (Ji K (ev j)) (ev i) <;> cases c2:wV K (ev i) <;> simp_all
theorem FP(h:Evs A0 ev an)(a:j<an)(hr:dG K (ev j)=true) : ∀ m,m<=j->fU ev (Ji K (ev j)) A0 m=fU ev K A0 m
 | 0,_=>rfl
 | m+1,hm=>by
   have e:=VQ h a hr (show m<an by omega) (show m≠j by omega)
   cases c:wV K (ev m)with
   | true=>rw[mo (e.trans c),mo c,FP h a hr m (by omega)]
   | false=>rw[mH (e.trans c),mH c,FP h a hr m (by omega)]
theorem H7(h:Evs A0 ev an)(b:Ox ev an K)(a:j<an)(hr:dG K (ev j)=true) : ∀ m,j<m->m<=an->fU ev (Ji K (ev j)) A0 m=(fU ev K A0 m).qZ (ev j)
 | 0,h1,_=>L_ h1 (u_ _)
 | m+1,h1,h2=>by
   have r:=(DK hr).2.1;by_cases e:m=j
   ·subst e;have l:wV (Ji K (ev m)) (ev m)=true:=mG.2 (by unfold Ji aH; rw[d_ rfl]; omega);have n:wV K (ev m)=false:=by
     cases q:wV K (ev m)with
     | true=>have:=mG.1 q; omega
     | false=>rfl
    rw[mo l,mH n,FP h a hr m (z_ _)]
   ·have k:=H7 h b a hr m (by omega) (by omega);have f:=VQ h a hr (show m<an by omega) e
    cases c:wV K (ev m)with
    | true =>
      obtain⟨o,v⟩:=uX h (m+1) h2 K b;rw[mo (f.trans c),mo c,k];have i:(ev j).o≠(ev m).o:=fun q=>by
       have d:aL (ev j)=aL (ev m):=(by unfold aL; rw[q]);have s:=h.mono a (show m<an by omega) d (by omega);have p:=mG.1 c;rw[<- d]at p; omega
      exact Ab.VP (o m (by omega)) (H6 h b a hr (by omega) (by omega)).pre (v m (by omega) c).pre i (fun _ _=>O8.ne (h.g j a) (h.g m (by omega)) i)
    | false=>rw[mH (f.trans c),mH c,k]
theorem Y0(h:Evs A0 ev an)(b:Ox ev an K)(a:j<an)(hr:dG K (ev j)=true):fU ev (Ji K (ev j)) A0 an=(fU ev K A0 an).qZ (ev j):=H7 h b a hr an a (z_ _)
end
end Rt
end
section
set_option linter.unusedVariables false
namespace Rt
def dZ(m:dP):Ab where
 inn:=m.inn
 left:=m.left
 own:=m.own
 has:=m.T.has
 par:=m.T.par
 R:=aZ m
 gh:=iF m
 g:=fun o r j=>if iF m o r=true/\2<=j/\j<=4 then m.g (eP m o r) j else 0
 ask:=gL m
section
variable {m:dP} {T:dK} {x y:Int} {v:EvM}
theorem H8{x p:Nat->Int} : ∀ {n:Nat} {k:Int},dN x n k=false->ig x p n k=0
 | 0,k,_=>rfl
 | n+1,k,h=>by
   have h:(dN x n k || decide (x n=k))=false:=h;rw[Bool.or_eq_false_iff]at h;show(if x n=k then p n else ig x p n k)=0;rw[b_ (j_ h.2)];exact H8 h.1
def Lj(T:dK)(x:Int):Nat->Int
 | 0=>x
 | i+1=>T.par (Lj T x i)
theorem FQ(T:dK)(x:Int) : ∀ i,Lj T x (i+1)=Lj T (T.par x) i
 | 0=>rfl
 | i+1=>by show T.par (Lj T x (i+1))=T.par (Lj T (T.par x) i); rw[FQ T x i]
theorem QM(h:T.has x=false):T.path x = []:=by
 have : ¬ T.has x=true:=by rw[h]; decide
 cases e:T.path x with
 | nil=>rfl
 | cons a l=>exact L_ (show jo T.x T.p T.n 4 x = []from kN h) (by rw[show jo T.x T.p T.n 4 x=T.path x from rfl,e]; exact fun q=>by cases q)
theorem Ep(g:T.ok) : ∀ n x,(T.path x).length<=n->(∀ i,i<(T.path x).length->(T.path x).getD i 0=Lj T x i/\T.has (Lj T x i)=true)/\T.has (Lj T x (T.path x).length)=false
 | 0,x,hn=>by
   have e:T.path x = []:=List.length_eq_zero_iff.1 (by omega);rw[e];refine⟨fun i d=>L_ d (u_ _),?_⟩
   cases c:T.has (Lj T x [].length)with
   | false=>rfl
   | true=>rw[dK.step g (show T.has x=true from c)]at e; cases e
 | n+1,x,hn=>by
   cases c:T.has x with
   | false =>
     rw[QM c];exact⟨fun i d=>L_ d (u_ _),c⟩
   | true =>
     have f:=dK.step g c;have k:(T.path x).length=(T.path (T.par x)).length+1:=(by rw[f]; rfl);obtain⟨h,j⟩:=Ep g n (T.par x) (by omega);refine⟨fun i d => ?_,by rw[k,FQ]; exact j⟩
     cases i with
     | zero=>rw[f]; exact⟨rfl,c⟩
     | succ i =>
       rw[FQ];obtain⟨a,b⟩:=h i (by omega);refine⟨?_,b⟩;rw[f];exact a
theorem FT(m:dP)(x:Int) : ∀ i,(dZ m).up x i=Lj m.T x i
 | 0=>rfl
 | i+1=>by show m.T.par ((dZ m).up x i)=m.T.par (Lj m.T x i); rw[FT m x i]
theorem Ll(a:T.ok){k:Nat}(h:T.has (Lj T x k)=false) : ∀ i,k<=i->T.has (Lj T x i)=false
 | 0,hi=>by obtain rfl:k=0:=(by omega); exact h
 | i+1,hi=>by
   by_cases e:k=i+1
   ·rw[<- e]; exact h
   ·have:=Ll a h i (by omega);have b:T.par (Lj T x i)=0:=H8 this;show T.has (T.par (Lj T x i))=false;rw[b]; exact Bo.WV a
theorem CF(j:m.T.ok)(x y:Int):(dZ m).on x y=true<->y∈m.T.path x:=by
 obtain⟨h,n⟩:=Ep j _ x (z_ _);have o:=dK.yQ (T:=m.T) (k:=x);unfold Ab.on;rw[R_,List.any_eq_true,List.mem_iff_getElem];constructor
 ·rintro ⟨l,i,d,e⟩;have e:=h_ e;rw[FT]at e;have f:i<(m.T.path x).length:=by
   by_cases c:i<(m.T.path x).length
   ·exact c
   ·have:=Ll j n i (by omega);rw[e]at this;rw[show(dZ m).has y=m.T.has y from rfl,this]at l; cases l
  refine⟨i,f,?_⟩;have:=(h i f).1;rw[r_,o_ f]at this;exact this.trans e
 rintro ⟨i,d,e⟩;obtain⟨a,b⟩:=h i d;rw[r_,o_ d]at a;have g:Lj m.T x i=y:=a.symm.trans e;refine⟨by rw[<- g]; exact b,i,N_.2 (by omega),f_ (by rw[FT]; exact g)⟩
end
end Rt
end
section
set_option linter.unusedVariables false
namespace Rt
theorem yT{x:Nat->Int}{n:Int}{b:Bool}{a:Int}{off:Nat}(h:(bT x n b a off).2=0):may x=true/\1<=n/\n<=1125899906842624/\b=true/\a=0/\x off+n<=1125899906842624/\(bT x n b a off).1=upd x off (x off+n):=by
 rcases nQ x n b a off with ⟨_,c,_⟩|⟨⟨hm,h1,c,hr,he,hx⟩,heq⟩
 ·exact L_ h c
 exact⟨hm,h1,c,hr,he,hx,by rw[heq]⟩
section
variable {m:dP} {x y:Int} {v:EvM}
theorem FU(b:m.T.ok){k:Int}(d:m.T.has k=true)(r:Nat->Int)(y:Int):aZ (Cg m k r) y=if y=k then r else aZ m y:=by
 unfold aZ;show(if m.T.has y=true then aM m.R (m.idx k) r (m.idx y)else FH)=_;by_cases e:y=k
 ·subst e; rw[d_ d,d_ rfl]; unfold aM; rw[d_ rfl]
 rw[b_ e];by_cases c:m.T.has y=true
 ·rw[d_ c,d_ c];unfold aM;rw[b_]
  ·rfl
  intro q;have a:=(dP.Dm b c).2;rw[q,(dP.Dm b d).2]at a;exact e a.symm
 rw[b_ c,b_ c]
open Classical in
theorem Jj(a:m.T.ok)(f:(Nat->Int)->(Nat->Int) × Int)(x y:Int):aZ (oK m f (m.T.path x)) y=if y∈m.T.path x then(f (aZ m y)).1 else aZ m y:=by
 unfold aZ;show(if m.T.has y=true then(if m.T.x (m.idx y)∈m.T.path x then(f (m.R (m.idx y))).1 else m.R (m.idx y))else FH)=_;by_cases c:m.T.has y=true
 ·rw[d_ c,d_ c,(dP.Dm a c).2]; rfl
 rw[b_ c,b_ c,b_ fun q=>c (dK.nR a rfl y q)]
theorem yU(b:m.T.ok){f:(Nat->Int)->(Nat->Int) × Int}(h:dz m f (m.T.path x)=0)(hy:y∈m.T.path x):(f (aZ m y)).2=0:=by
 obtain⟨i,a,e⟩:=List.getElem_of_mem hy;have:=FD h i a;rw[r_,o_ a]at this;rw[<- e];unfold aZ;rw[d_ (dK.nR b rfl _ (P_ a))];exact this
theorem FV(h:bM v=true):v.o=(aV v:Int)+1/\aV v<6/\v.o.toNat-1=aV v:=by
 have:=lU h; unfold aV; omega
theorem Jk{x:Nat->Int}{off:Nat}{n:Int}(p:Nat):upd x off (x off+n) p=x p+if p=off then n else 0:=by
 unfold upd;by_cases e:p=off
 ·subst e; rw[d_ rfl,d_ rfl]
 rw[b_ e,b_ e,C_]
theorem adX(f:m.T.ok)(k:bM v=true)(j:v.kind=1)(a:iV m v=0)(y:Int)(p:Nat):aZ (Di m v) y p=aZ m y p+(dZ m).dl v y p:=by
 have d:m.T.has (mZ v)=false:=by
  unfold iV at a;split at a
  ·cases a
  ·exact(EF a).2.1
 have h:rZ v=mZ v:=qM k;unfold Ab.dl;rw[d_ j,h];unfold aZ;show(if(m.T.put (mZ v) v.node).has y=true then aM m.R m.T.n (upd (fun _=>0) (aL v) v.aS) (zo (aM m.T.x m.T.n (mZ v)) (m.T.n+1) y)else FH) p=_;rw[dK.jw];by_cases e:mZ v=y
 ·subst e;rw[f_ rfl,Bool.or_true,d_ rfl,d,b_ (by decide),K4 _ _ _ (fun i g e=>by have:=dK.zM g; rw[e,d]at this; cases this)]
  unfold aM;rw[d_ rfl];show upd (fun _=>0) (aL v) v.aS p=0+_;unfold upd;rw[Int.zero_add];by_cases c:p=aL v
  ·rw[d_ c,d_ ⟨rfl,c⟩]
  rw[b_ c,b_ (fun q=>c q.2)]
 rw[g_ e,G_,b_ (show ¬ (y=mZ v/\p=aV v)from fun q=>e q.1.symm),C_];by_cases c:m.T.has y=true
 ·rw[d_ c,d_ c,K5 _ _ e];have b:=(dP.Dm f c).1;have b:zo m.T.x m.T.n y<m.T.n:=b;unfold aM;rw[b_ (by omega)];rfl
 rw[b_ c,b_ c]
theorem Y1(f:m.T.ok)(g:bM v=true)(d:v.kind=2)(a:jy m v=0)(y:Int)(p:Nat):aZ (ug m v) y p=aZ m y p+(dZ m).dl v y p:=by
 have b:m.T.has v.node=true:=by
  unfold jy at a
  cases c:m.T.has v.node with
  | true=>rfl
  | false=>rw[d_ c]at a; cases a
 unfold Ab.dl;rw[b_ (by rw[d]; decide),d_ d];unfold ug;rw[FU f b];by_cases e:y=v.node
 ·subst e;rw[d_ rfl,Jk];unfold aZ;rw[d_ b];show m.R (m.idx v.node) p+(if p=aL v then v.aS else 0)=m.R (m.idx v.node) p+_;by_cases c:p=aL v
  ·rw[d_ c,d_ ⟨rfl,c⟩]
  rw[b_ c,b_ (fun q=>c q.2)]
 rw[b_ e,b_ (fun q=>e q.1),C_]
theorem adY(j:m.T.ok)(z:bM v=true)(f:v.kind=5)(d:ku m v=0)(y:Int)(p:Nat):aZ (Dc m v) y p=aZ m y p+(dZ m).dl v y p:=by
 have g:m.T.has v.node=true/\(rW m v).2=0:=by
  unfold ku at d
  cases c:m.T.has v.node with
  | true =>
    rw[b_ (by rw[c]; decide)]at d;split at d
    ·cases d
    ·exact⟨rfl,d⟩
  | false=>rw[d_ c]at d; cases d
 obtain⟨a,b,s,t,w,x,u,l,n,o,r,k⟩:=AV g.2;have h:aV v=a:=by unfold aV; omega
 have i:dV v=b:=by unfold dV; omega
 unfold Ab.dl;rw[b_ (by rw[f]; decide),b_ (by rw[f]; decide),b_ (by rw[f]; decide),b_ (by rw[f]; decide),d_ f,h,i];unfold Dc;rw[FU j g.1];by_cases e:y=v.node
 ·subst e;rw[d_ rfl];unfold rW;rw[k,Jk];unfold aZ;rw[d_ g.1];show m.R (m.idx v.node) p+(if p=18+a*6+b then v.aS else 0)=m.R (m.idx v.node) p+_;by_cases c:p=18+a*6+b
  ·rw[d_ c,d_ ⟨rfl,by omega⟩]
  rw[b_ c,b_ (fun q=>c (by omega))]
 rw[b_ e,b_ (fun q=>e q.1),C_]
theorem VR(a:m.T.ok){f:(Nat->Int)->(Nat->Int) × Int}{x:Int}{n:Int}{off:Nat}(b : ∀ y,y∈m.T.path x->(f (aZ m y)).1=upd (aZ m y) off (aZ m y off+n))(y:Int)(p:Nat):aZ (oK m f (m.T.path x)) y p=aZ m y p+if(dZ m).on x y=true/\p=off then n else 0:=by
 rw[Jj a];by_cases c:y∈m.T.path x
 ·rw[d_ c,b y c,Jk];by_cases e:p=off
  ·rw[d_ e,d_ ⟨(CF a x y).2 c,e⟩]
  rw[b_ e,b_ (fun q=>e q.2)]
 rw[b_ c,b_ (fun q=>c ((CF a x y).1 q.1)),C_]
theorem adZ(d:m.T.ok)(g:bM v=true)(b:v.kind=3)(a:jO m v=0)(y:Int)(p:Nat):aZ (kF m v) y p=aZ m y p+(dZ m).dl v y p:=by
 have e:dz m (fun x=>bB x v.o v.aS) (m.T.path v.node)=0:=by
  unfold jO at a;split at a
  ·cases a
  split at a
  ·cases a
  exact a
 unfold Ab.dl;rw[b_ (by rw[b]; decide),b_ (by rw[b]; decide),d_ b];refine VR d (f:=fun x=>bB x v.o v.aS) (x:=v.node) (fun y h => ?_) y p;have c:(bB (aZ m y) v.o v.aS).2=0:=yU d e h;unfold bB at c;show(bB (aZ m y) v.o v.aS).1=_;unfold bB;rw[(yT c).2.2.2.2.2.2,(FV g).2.2]
theorem aea(i:m.T.ok)(l:bM v=true)(b:v.kind=4)(a:jg m v=0)(y:Int)(p:Nat):aZ (iy m v) y p=aZ m y p+(dZ m).dl v y p:=by
 have d:iF m v.o v.of=true/\dz m (fun x=>bE x v.o (m.g (eP m v.o v.of) 3)) (m.T.path (m.g (eP m v.o v.of) 2))=0:=by
  unfold jg at a;split at a
  ·cases a
  split at a
  ·cases a
  rename_i c;refine⟨?_,a⟩
  cases e:iF m v.o v.of with
  | true=>rfl
  | false=>exact L_ (.inl e) c
 have j:(dZ m).g v.o v.of 2=m.g (eP m v.o v.of) 2:=d_ ⟨d.1,by decide,by decide⟩;have k:(dZ m).g v.o v.of 3=m.g (eP m v.o v.of) 3:=d_ ⟨d.1,by decide,by decide⟩;unfold Ab.dl;rw[b_ (by rw[b]; decide),b_ (by rw[b]; decide),b_ (by rw[b]; decide),d_ b,j,k];refine VR i (f:=fun x=>bE x v.o (m.g (eP m v.o v.of) 3)) (x:=m.g (eP m v.o v.of) 2) (fun y n => ?_) y p;have h:(bE (aZ m y) v.o (m.g (eP m v.o v.of) 3)).2=0:=yU i d.2 n;unfold bE at h;show(bE (aZ m y) v.o (m.g (eP m v.o v.of) 3)).1=_;unfold bE;rw[(yT h).2.2.2.2.2.2,(FV l).2.2]
theorem Lm{m':dP}(a:m'.an=m.an+1)(b:m'.ao=aM m.ao m.an v.o)(c:m'.ar=aM m.ar m.an v.req)(o r:Int):gL m' o r=(gL m o r || (decide (o=v.o)&&decide (r=v.req))):=by
 have:gL m' o r=true<->(gL m o r=true\/(v.o=o/\v.req=r)):=by unfold gL; rw[a,b,c]; exact FJ
 rw[Bool.eq_iff_iff,this,Bool.or_eq_true,R_,O_,O_];exact⟨fun h=>h.imp id fun q=>⟨q.1.symm,q.2.symm⟩,fun h=>h.imp id fun q=>⟨q.1.symm,q.2.symm⟩⟩
theorem VT{k1 k2:Nat->Int}{n:Nat}{a b o r:Int}(h : ¬ (a=o/\b=r)):wG (aM k1 n a) (aM k2 n b) (n+1) o r=wG k1 k2 n o r:=by
 have d : ∀ k,k<=n->wG (aM k1 n a) (aM k2 n b) k o r=wG k1 k2 k o r:=fun k=>by
  induction k with
  | zero=>intro _; rfl
  | succ k ih =>
    intro e;show(if aM k1 n a k=o/\aM k2 n b k=r then k else _)=(if k1 k=o/\k2 k=r then k else _);rw[ih (by omega)];have c : ¬ k=n:=(by omega);rw[show aM k1 n a k=k1 k from b_ c,show aM k2 n b k=k2 k from b_ c]
 show(if aM k1 n a n=o/\aM k2 n b n=r then n else wG (aM k1 n a) (aM k2 n b) n o r)=_;rw[d n (z_ _)];rw[show aM k1 n a n=a from d_ rfl,show aM k2 n b n=b from d_ rfl,b_ h]
theorem VU{k1 k2:Nat->Int}{n:Nat}{a b:Int}:wG (aM k1 n a) (aM k2 n b) (n+1) a b=n:=by
 show(if aM k1 n a n=a/\aM k2 n b n=b then n else _)=_;unfold aM;rw[d_ ⟨d_ rfl,d_ rfl⟩]
theorem yV(g:Nat->Nat->Int)(n:Nat)(r:Nat->Int)(j:Nat):(fun i=>aM g n r i j)=aM (fun i=>g i j) n (r j):=by
 funext i; unfold aM; split <;> rfl
end
end Rt
end
section
set_option linter.unusedVariables false
namespace Rt
section
variable {m:dP} {x y:Int} {v:EvM}
theorem jh{b c:Bool}(h:c=false):b=(b || c):=by rw[h,G_]
theorem Jw{k:Int}(h:v.kind≠k){c:Bool}:(decide (v.kind=k)&&c)=false:=by rw[g_ h]; rfl
theorem VW(i:m.T.ok)(e:bM v=true)(a:v.kind=1)(h:iV m v=0):dZ (Di m v)=(dZ m).qZ v:=by
 have d:rZ v=mZ v:=qM e;have b:v.kind≠3:=by rw[a]; decide
 have f:v.kind≠4:=by rw[a]; decide
 have k:v.kind≠6:=by rw[a]; decide
 have l:v.kind≠7:=by rw[a]; decide
 apply Ab.QK
 ·funext j; exact jh (Jw k)
 ·funext j; exact jh (Jw l)
 ·funext j
  show aH m.own (aL v) (m.own (aL v)+1) j=m.own j+if v.kind=1/\j=aV v then 1 else 0;unfold aH;by_cases c:j=aL v
  ·rw[d_ c,d_ ⟨a,c⟩,c]
  rw[b_ c,b_ (fun q=>c q.2),C_]
 ·funext y
  show(m.T.put (mZ v) v.node).has y=(m.T.has y || (decide (v.kind=1)&&decide (y=rZ v)));rw[dK.jw,d,f_ a,Bool.true_and]
  congr 1
  exact decide_eq_decide.2 ⟨Eq.symm,Eq.symm⟩
 ·funext y
  show(m.T.put (mZ v) v.node).par y=if v.kind=1/\y=rZ v then v.node else m.T.par y;rw[dK.sQ,d];by_cases c:mZ v=y
  ·rw[d_ c,d_ ⟨a,c.symm⟩]
  rw[b_ c,b_ (fun q=>c q.2.symm)]
 ·funext y p; exact adX i e a h y p
 ·funext o r; exact jh (Jw b)
 ·funext o r j
  show(dZ m).g o r j=if v.kind=3/\_ then _ else if v.kind=4/\_ then _ else _;rw[b_ (fun q=>b q.1),b_ (fun q=>f q.1)]
 funext o r
 show gL m o r=(gL m o r || ((decide (v.kind=3) || decide (v.kind=4))&&_));rw[g_ b,g_ f];exact jh rfl
theorem Lp{m':dP}(e:m'.inn=m.inn)(f:m'.left=m.left)(h:m'.own=m.own)(c:m'.T=m.T)(i : ∀ o r,iF m' o r=iF m o r)(k:(dZ m').g=(dZ m).g)(l : ∀ o r,gL m' o r=gL m o r)(a:v.kind≠1)(b:v.kind≠3)(d:v.kind≠4)(s:v.kind≠6)(t:v.kind≠7)
 (n : ∀ y p,aZ m' y p=aZ m y p+(dZ m).dl v y p):dZ m'=(dZ m).qZ v:=by
 apply Ab.QK
 ·funext j; rw[show(dZ m').inn j=m.inn j from congrFun e j]; exact jh (Jw s)
 ·funext j; rw[show(dZ m').left j=m.left j from congrFun f j]; exact jh (Jw t)
 ·funext j
  rw[show(dZ m').own j=m.own j from congrFun h j];show m.own j=m.own j+if v.kind=1/\j=aV v then 1 else 0;rw[b_ (fun q=>a q.1),C_]
 ·funext y; rw[show(dZ m').has y=m.T.has y from by rw[<- c]; rfl]; exact jh (Jw a)
 ·funext y
  rw[show(dZ m').par y=m.T.par y from by rw[<- c]; rfl];show _=if v.kind=1/\y=rZ v then v.node else m.T.par y;rw[b_ (fun q=>a q.1)]
 ·funext y p; exact n y p
 ·funext o r; rw[show(dZ m').gh o r=iF m o r from i o r]; exact jh (Jw b)
 ·funext o r j
  rw[k];show(dZ m).g o r j=if v.kind=3/\_ then _ else if v.kind=4/\_ then _ else _;rw[b_ (fun q=>b q.1),b_ (fun q=>d q.1)]
 funext o r
 rw[show(dZ m').ask o r=gL m o r from l o r];show gL m o r=(gL m o r || ((decide (v.kind=3) || decide (v.kind=4))&&_));rw[g_ b,g_ d];exact jh rfl
theorem QN(c:m.T.ok)(d:bM v=true)(a:v.kind=2)(b:jy m v=0):dZ (ug m v)=(dZ m).qZ v :=
 Lp rfl rfl rfl rfl (fun _ _=>rfl) rfl (fun _ _=>rfl) (by rw[a]; decide) (by rw[a]; decide) (by rw[a]; decide) (by rw[a]; decide) (by rw[a]; decide) (Y1 c d a b)
theorem VX(c:m.T.ok)(d:bM v=true)(a:v.kind=5)(b:ku m v=0):dZ (Dc m v)=(dZ m).qZ v :=
 Lp rfl rfl rfl rfl (fun _ _=>rfl) rfl (fun _ _=>rfl) (by rw[a]; decide) (by rw[a]; decide) (by rw[a]; decide) (by rw[a]; decide) (by rw[a]; decide) (adY c d a b)
theorem Jl{k1 k2:Nat->Int}{a b:Int} : ∀ {n:Nat},Bf k1 k2 n a b=true->wG k1 k2 n a b<n
 | 0,h=>by cases h
 | n+1,h=>by
   unfold wG;by_cases c:k1 n=a/\k2 n=b
   ·rw[d_ c]; omega
   ·rw[b_ c];obtain⟨j,g,d,f⟩:=kX.1 h;by_cases e:j=n
    ·subst e; exact L_ ⟨d,f⟩ c
    ·have:=Jl (rY (show j<n by omega) d f); omega
theorem Y2(h1:v.kind≠1)(a:v.kind≠2)(b:v.kind≠3)(c:v.kind≠4)(d:v.kind≠5)(A:Ab)(y:Int)(p:Nat):A.dl v y p=0:=by
 unfold Ab.dl;rw[b_ h1,b_ a,b_ b,b_ c,b_ d]
theorem H9{A B:Ab}(h1:v.kind≠1)(n:v.kind≠2)(a:v.kind≠3)(b:v.kind≠4)(s:v.kind≠5)(c : ∀ j,B.inn j=(A.inn j || (decide (v.kind=6)&&decide (j=dV v))))(d : ∀ j,B.left j=(A.left j || (decide (v.kind=7)&&decide (j=aV v))))(e:B.own=A.own)(f:B.has=A.has)(h:B.par=A.par)(i:B.R=A.R)(k:B.gh=A.gh)(l:B.g=A.g)(m:B.ask=A.ask):B=A.qZ v:=by
 apply Ab.QK
 ·funext j; exact c j
 ·funext j; exact d j
 ·funext j; rw[e]; show A.own j=A.own j+if v.kind=1/\j=aV v then 1 else 0; rw[b_ (fun q=>h1 q.1),C_]
 ·funext y; rw[f]; exact jh (Jw h1)
 ·funext y; rw[h]; show _=if v.kind=1/\y=rZ v then v.node else A.par y; rw[b_ (fun q=>h1 q.1)]
 ·funext y p; rw[i]; show _=A.R y p+A.dl v y p; rw[Y2 h1 n a b s,C_]
 ·funext o r; rw[k]; exact jh (Jw a)
 ·funext o r j
  rw[l];show A.g o r j=if v.kind=3/\_ then _ else if v.kind=4/\_ then _ else _;rw[b_ (fun q=>a q.1),b_ (fun q=>b q.1)]
 funext o r
 rw[m];show A.ask o r=(A.ask o r || ((decide (v.kind=3) || decide (v.kind=4))&&_));rw[g_ a,g_ b];exact jh rfl
theorem Lr{f:Nat->Bool}{k j:Nat}{c:Bool}(a:c=true):aH f k true j=(f j || (c&&decide (j=k))):=by
 rw[a,Bool.true_and];unfold aH;by_cases e:j=k
 ·rw[d_ e,f_ e,Bool.or_true]
 rw[b_ e,g_ e,G_]
theorem VY(a:v.kind=6):dZ (G9 m v)=(dZ m).qZ v :=
 H9 (by rw[a]; decide) (by rw[a]; decide) (by rw[a]; decide) (by rw[a]; decide) (by rw[a]; decide) (fun j=>Lr (f_ a)) (fun j=>jh (Jw (by rw[a]; decide))) rfl rfl rfl rfl rfl rfl rfl
theorem QO(a:v.kind=7):dZ (Ch m v)=(dZ m).qZ v :=
 H9 (by rw[a]; decide) (by rw[a]; decide) (by rw[a]; decide) (by rw[a]; decide) (by rw[a]; decide) (fun j=>jh (Jw (by rw[a]; decide))) (fun j=>Lr (k:=aL v) (f_ a)) rfl rfl rfl rfl rfl rfl rfl
theorem VZ(z:m.T.ok)(A:Qz m)(u:bM v=true)(b:v.kind=3)(k:jO m v=0):dZ (kF m v)=(dZ m).qZ v:=by
 have G:rZ v=mZ v:=qM u;have n:v.kind≠1:=by rw[b]; decide
 have C:v.kind≠4:=by rw[b]; decide
 have D:v.kind≠6:=by rw[b]; decide
 have E:v.kind≠7:=by rw[b]; decide
 have B:gL m v.o v.req=false:=by
  unfold jO at k
  cases c:gL m v.o v.req with
  | false=>rfl
  | true=>rw[d_ c]at k; cases k
 have F:iF m v.o v.req=false:=oQ fun i t e=>by
  have:=A i t;rw[e.1,e.2,B]at this; cases this
 have s : ∀ o r,iF (kF m v) o r=(iF m o r || (decide (o=v.o)&&decide (r=v.req))):=fun o r=>by
  have d:=yV m.g m.gn (pU v) 0;have f:=yV m.g m.gn (pU v) 1;have:iF (kF m v) o r=true<->(iF m o r=true\/(v.o=o/\v.req=r)):=by
   show Bf (fun i=>aM m.g m.gn (pU v) i 0) (fun i=>aM m.g m.gn (pU v) i 1) (m.gn+1) o r=true<->_;rw[d,f]; exact FJ
  rw[Bool.eq_iff_iff,this,Bool.or_eq_true,R_,O_,O_];exact⟨fun h=>h.imp id fun q=>⟨q.1.symm,q.2.symm⟩,fun h=>h.imp id fun q=>⟨q.1.symm,q.2.symm⟩⟩
 have x : ∀ o r,eP (kF m v) o r=wG (aM (fun i=>m.g i 0) m.gn v.o) (aM (fun i=>m.g i 1) m.gn v.req) (m.gn+1) o r:=fun o r=>by
  have d:=yV m.g m.gn (pU v) 0;have f:=yV m.g m.gn (pU v) 1;show wG (fun i=>aM m.g m.gn (pU v) i 0) (fun i=>aM m.g m.gn (pU v) i 1) (m.gn+1) o r=_;rw[d,f]; rfl
 apply Ab.QK
 ·funext j; exact jh (Jw D)
 ·funext j; exact jh (Jw E)
 ·funext j
  show m.own j=m.own j+if v.kind=1/\j=aV v then 1 else 0;rw[b_ (fun q=>n q.1),C_]
 ·funext y; exact jh (Jw n)
 ·funext y
  show m.T.par y=if v.kind=1/\y=rZ v then v.node else m.T.par y;rw[b_ (fun q=>n q.1)]
 ·funext y p; exact adZ z u b k y p
 ·funext o r
  show iF (kF m v) o r=(iF m o r || (decide (v.kind=3)&&(decide (o=v.o)&&decide (r=v.req))));rw[s,f_ b,Bool.true_and]
 ·funext o r j
  show(if iF (kF m v) o r=true/\2<=j/\j<=4 then(kF m v).g (eP (kF m v) o r) j else 0)=if v.kind=3/\o=v.o/\r=v.req then(if j=2 then v.node else if j=3 then v.aS else 0)else if v.kind=4/\_ then _ else(if iF m o r=true/\2<=j/\j<=4 then m.g (eP m o r) j else 0);rw[s,x];by_cases c:o=v.o/\r=v.req
  ·rw[d_ (show v.kind=3/\o=v.o/\r=v.req from⟨b,c⟩),c.1,c.2,VU,f_ (rfl:v.o=v.o),f_ (rfl:v.req=v.req),Bool.and_self,Bool.or_true];show(if true=true/\2<=j/\j<=4 then aM m.g m.gn (pU v) m.gn j else 0)=_;rw[show aM m.g m.gn (pU v) m.gn=pU v from d_ rfl];by_cases a:j=2
   ·rw[d_ a,a,d_ ⟨rfl,by decide,by decide⟩]; rfl
   rw[b_ a];by_cases l:j=3
   ·rw[d_ l,l,d_ ⟨rfl,by decide,by decide⟩]; rfl
   rw[b_ l];by_cases w:j=4
   ·rw[w,d_ ⟨rfl,by decide,by decide⟩]; rfl
   rw[b_ (by omega)]
  rw[b_ (show ¬ (v.kind=3/\o=v.o/\r=v.req)from fun q=>c q.2),b_ (show ¬ (v.kind=4/\o=v.o/\r=v.of/\j=4)from fun q=>C q.1),VT (fun q=>c ⟨q.1.symm,q.2.symm⟩)];have:(decide (o=v.o)&&decide (r=v.req))=false:=by
   cases e:(decide (o=v.o)&&decide (r=v.req))with
   | false=>rfl
   | true=>rw[R_,O_,O_]at e; exact L_ e c
  rw[this,G_];by_cases a:iF m o r=true/\2<=j/\j<=4
  ·rw[d_ a,d_ a];obtain⟨i,t,d,f⟩:=kX.1 a.1;have:wG (fun i=>m.g i 0) (fun i=>m.g i 1) m.gn o r<m.gn:=Jl a.1;show aM m.g m.gn (pU v) _ j=_;unfold aM;rw[b_ (by omega)];rfl
  rw[b_ a,b_ a]
 funext o r
 show gL (kF m v) o r=(gL m o r || ((decide (v.kind=3) || decide (v.kind=4))&&(decide (o=v.o)&&decide (r=v.req))));rw[f_ b,Bool.true_or,Bool.true_and];exact Lm rfl rfl rfl o r
theorem FW{k1 k2:Nat->Int}{a b:Int} : ∀ {n:Nat},Bf k1 k2 n a b=true->k1 (wG k1 k2 n a b)=a/\k2 (wG k1 k2 n a b)=b
 | 0,h=>by cases h
 | n+1,h=>by
   unfold wG;by_cases c:k1 n=a/\k2 n=b
   ·rw[d_ c]; exact c
   ·rw[b_ c];obtain⟨j,g,d,f⟩:=kX.1 h;by_cases e:j=n
    ·subst e; exact L_ ⟨d,f⟩ c
    ·exact FW (rY (show j<n by omega) d f)
theorem V4(G:m.T.ok)(J:bM v=true)(a:v.kind=4)(b:jg m v=0):dZ (iy m v)=(dZ m).qZ v:=by
 have k:v.kind≠1:=by rw[a]; decide
 have x:v.kind≠3:=by rw[a]; decide
 have K:v.kind≠6:=by rw[a]; decide
 have L:v.kind≠7:=by rw[a]; decide
 have f:iF m v.o v.of=true:=by
  unfold jg at b;split at b
  ·cases b
  split at b
  ·cases b
  rename_i c
  cases e:iF m v.o v.of with
  | true=>rfl
  | false=>exact L_ (.inl e) c
 have M:eP m v.o v.of<m.gn:=Jl f;have h : ∀ i j,j≠4->aM m.g (eP m v.o v.of) (upd (m.g (eP m v.o v.of)) 4 v.req) i j=m.g i j:=fun i j H=>by
  unfold aM;by_cases c:i=eP m v.o v.of
  ·rw[d_ c,c]; unfold upd; rw[b_ H]
  ·rw[b_ c]
 have n:(fun i=>(iy m v).g i 0)=fun i=>m.g i 0:=by funext i; exact h i 0 (by decide)
 have s:(fun i=>(iy m v).g i 1)=fun i=>m.g i 1:=by funext i; exact h i 1 (by decide)
 have w : ∀ o r,iF (iy m v) o r=iF m o r:=fun o r=>by
  show Bf (fun i=>(iy m v).g i 0) (fun i=>(iy m v).g i 1) m.gn o r=_;rw[n,s]; rfl
 have F : ∀ o r,eP (iy m v) o r=eP m o r:=fun o r=>by
  show wG (fun i=>(iy m v).g i 0) (fun i=>(iy m v).g i 1) m.gn o r=_;rw[n,s]; rfl
 apply Ab.QK
 ·funext j; exact jh (Jw K)
 ·funext j; exact jh (Jw L)
 ·funext j
  show m.own j=m.own j+if v.kind=1/\j=aV v then 1 else 0;rw[b_ (fun q=>k q.1),C_]
 ·funext y; exact jh (Jw k)
 ·funext y
  show m.T.par y=if v.kind=1/\y=rZ v then v.node else m.T.par y;rw[b_ (fun q=>k q.1)]
 ·funext y p; exact aea G J a b y p
 ·funext o r
  show iF (iy m v) o r=(iF m o r || (decide (v.kind=3)&&_));rw[w]; exact jh (Jw x)
 ·funext o r j
  show(if iF (iy m v) o r=true/\2<=j/\j<=4 then(iy m v).g (eP (iy m v) o r) j else 0)=if v.kind=3/\o=v.o/\r=v.req then _ else if v.kind=4/\o=v.o/\r=v.of/\j=4 then v.req else(if iF m o r=true/\2<=j/\j<=4 then m.g (eP m o r) j else 0);rw[w,F,b_ (show ¬ (v.kind=3/\o=v.o/\r=v.req)from fun q=>x q.1)];show(if iF m o r=true/\2<=j/\j<=4 then aM m.g (eP m v.o v.of) (upd (m.g (eP m v.o v.of)) 4 v.req) (eP m o r) j else 0)=_;by_cases c:v.kind=4/\o=v.o/\r=v.of/\j=4
  ·rw[d_ c,c.2.1,c.2.2.1,c.2.2.2,d_ ⟨f,by decide,by decide⟩];unfold aM upd; rw[d_ rfl,d_ rfl]
  rw[b_ c];by_cases d:iF m o r=true/\2<=j/\j<=4
  ·rw[d_ d,d_ d];by_cases l:j=4
   ·have I:eP m o r≠eP m v.o v.of:=fun e=>c ⟨a,by
     obtain⟨z,A⟩:=FW d.1;obtain⟨B,C⟩:=FW f;have t:m.g (eP m o r) 0=o:=z;have D:m.g (eP m v.o v.of) 0=v.o:=B;have u:m.g (eP m o r) 1=r:=A;have E:m.g (eP m v.o v.of) 1=v.of:=C;rw[e]at t u;exact⟨t.symm.trans D,u.symm.trans E,l⟩⟩
    unfold aM; rw[b_ I]
   exact h _ j l
  rw[b_ d,b_ d]
 funext o r
 show gL (iy m v) o r=(gL m o r || ((decide (v.kind=3) || decide (v.kind=4))&&(decide (o=v.o)&&decide (r=v.req))));rw[f_ a,Bool.or_true,Bool.true_and];exact Lm rfl rfl rfl o r
theorem V6(c:m.T.ok)(j:Qz m)(b:bM v=true)(a:fB m v=0):dZ (iK m v)=(dZ m).qZ v:=by
 have k:=iY b;unfold fB at a;unfold iK;by_cases d:v.kind=1
 ·rw[d_ d]at a ⊢; exact VW c b d a
 rw[b_ d]at a ⊢;by_cases e:v.kind=2
 ·rw[d_ e]at a ⊢; exact QN c b e a
 rw[b_ e]at a ⊢;by_cases f:v.kind=3
 ·rw[d_ f]at a ⊢; exact VZ c j b f a
 rw[b_ f]at a ⊢;by_cases g:v.kind=4
 ·rw[d_ g]at a ⊢; exact V4 c b g a
 rw[b_ g]at a ⊢;by_cases h:v.kind=5
 ·rw[d_ h]at a ⊢; exact VX c b h a
 rw[b_ h]at a ⊢;by_cases i:v.kind=6
 ·rw[d_ i]; exact VY i
 rw[b_ i]; exact QO (by omega)
theorem QS(c:m.T.ok)(d:Qz m)(a:bY m v=0):dZ (jG m v)=(dZ m).qZ v:=by
 have b:=V6 c d (pI a) (pJ a).2.1;unfold jG;rw[d_ a];exact b
end
end Rt
end
section
set_option linter.unusedVariables false
namespace Rt
structure Ab.Sm(A:Ab)(N:Nat):Prop where
 r : ∀ y p,A.R y p<=65536*N
 g : ∀ o r,A.gh o r=true->1<=A.g o r 3/\A.g o r 3<=65536
structure Q7(m:dP):Prop where
 n:(m.T.n:Int)=m.own 0+m.own 1+m.own 2+m.own 3+m.own 4+m.own 5
 o : ∀ a,a<6->m.own a<=5
section
variable {A:Ab} {m:dP} {L:gy} {N S:Nat} {x y:Int} {v:EvM}
theorem Ab.Sm.dl(m:A.Sm S)(l:A.Pre v)(k:nZ v)(y:Int)(p:Nat):A.dl v y p<=65536:=by
 have b:=k.aS;have a : ∀ {c:Prop} [Decidable c] {n:Int},n<=65536->(if c then n else 0)<=65536:=fun {c} _ {n} h=>by split <;> omega
 unfold Ab.dl;by_cases e:v.kind=1
 ·rw[d_ e]; exact a b
 rw[b_ e];by_cases f:v.kind=2
 ·rw[d_ f]; exact a b
 rw[b_ f];by_cases i:v.kind=3
 ·rw[d_ i]; exact a b
 rw[b_ i];by_cases d:v.kind=4
 ·rw[d_ d]; exact a (m.g _ _ (l.n4 d)).2
 rw[b_ d];by_cases j:v.kind=5
 ·rw[d_ j]; exact a b
 rw[b_ j]; decide
theorem Ab.Sm.qZ(b:A.Sm S)(f:A.Pre v)(h:bM v=true)(d:nZ v):(A.qZ v).Sm (S+1) where
 r:=fun y p=>by
  have i:=b.r y p;have j:=b.dl f d y p;show A.R y p+A.dl v y p<=_;omega
 g:=fun o r a=>by
  have a:(A.gh o r || (decide (v.kind=3)&&(decide (o=v.o)&&decide (r=v.req))))=true:=a;by_cases c:v.kind=3/\o=v.o/\r=v.req
  ·have:(A.qZ v).g o r 3=v.aS:=(by show(if v.kind=3/\o=v.o/\r=v.req then _ else _)=v.aS; rw[d_ c]; rfl);rw[this]; exact⟨(kU h (.inr (.inl c.1))).1,d.aS⟩
  ·have e:A.gh o r=true:=by
    rcases Bool.or_eq_true_iff.1 a with q|q
    ·exact q
    ·rw[R_,R_]at q; exact L_ ⟨h_ q.1,h_ q.2.1,h_ q.2.2⟩ c
   rw[Ab.Li f e 3 (by decide)];exact b.g o r e
theorem Q7.row{m':dP}(h:Q7 m)(a:m'.T=m.T)(b:m'.own=m.own):Q7 m':=by
 cases m'; cases m; cases a; cases b; exact⟨h.n,h.o⟩
theorem Q7.does(h:Q7 m)(l:bM v=true)(b:fB m v=0):Q7 (iK m v):=by
 unfold fB at b;unfold iK;by_cases c:v.kind=1
 ·rw[d_ c]at b ⊢;have q:m.own (aL v)<5:=by
   unfold iV at b;split at b
   ·cases b
   ·omega
  have r:=lD l;have p:=h.n;refine⟨?_,fun a k => ?_⟩
  ·show((m.T.n+1:Nat):Int)=aH m.own (aL v) (m.own (aL v)+1) 0+aH m.own (aL v) (m.own (aL v)+1) 1+aH m.own (aL v) (m.own (aL v)+1) 2+aH m.own (aL v) (m.own (aL v)+1) 3+aH m.own (aL v) (m.own (aL v)+1) 4+aH m.own (aL v) (m.own (aL v)+1) 5;unfold aH
   rcases(show aL v=0\/aL v=1\/aL v=2\/aL v=3\/aL v=4\/aL v=5 by omega)with e|e|e|e|e|e <;> rw[e] <;> simp <;> omega
  show aH m.own (aL v) (m.own (aL v)+1) a<=5;have:=h.o a k;unfold aH; split <;> omega
 rw[b_ c];by_cases d:v.kind=2
 ·rw[d_ d]; exact h.row rfl rfl
 rw[b_ d];by_cases f:v.kind=3
 ·rw[d_ f]; exact h.row rfl rfl
 rw[b_ f];by_cases g:v.kind=4
 ·rw[d_ g]; exact h.row rfl rfl
 rw[b_ g];by_cases i:v.kind=5
 ·rw[d_ i]; exact h.row rfl rfl
 rw[b_ i];by_cases j:v.kind=6
 ·rw[d_ j]; exact h.row rfl rfl
 rw[b_ j]; exact h.row rfl rfl
theorem Q7.apply(h:Q7 m):Q7 (jG m v):=by
 unfold jG;by_cases c:bY m v=0
 ·rw[d_ c]; exact(h.does (pI c) (pJ c).2.1).row rfl rfl
 rw[b_ c]; exact h
theorem aac(x:Nat->Int)(a:Nat):Rt.L x a=Cy x a:=by
 have e : ∀ i,R x a i=x (18+(6*a+i)):=fun i=>by unfold R; congr 1; omega
 have b:R x 0 a=x (18+(6*0+a)):=by unfold R; congr 1; omega
 have c:R x 1 a=x (18+(6*1+a)):=by unfold R; congr 1; omega
 have d:R x 2 a=x (18+(6*2+a)):=by unfold R; congr 1; omega
 have f:R x 3 a=x (18+(6*3+a)):=by unfold R; congr 1; omega
 have g:R x 4 a=x (18+(6*4+a)):=by unfold R; congr 1; omega
 have h:R x 5 a=x (18+(6*5+a)):=by unfold R; congr 1; omega
 unfold Rt.L Cy;rw[e,e,e,e,e,e,b,c,d,f,g,h];unfold G C F;omega
theorem CG{x:Nat->Int}(h:may x=true)(b:bM v=true):fJ x v.o=Cy x (aV v):=by
 obtain⟨e,a,_⟩:=FV b;rw[e,nJ h _ a,aac]
theorem yw{x:Nat->Int}{n:Int}{b:Bool}{a:Int}{off:Nat}(h1:may x=true)(c:1<=n)(d:n<=1125899906842624)(e:b=true)(f:a=0)(g:x off+n<=1125899906842624):(bT x n b a off).2=0:=by
 rcases nQ x n b a off with ⟨_,_,h⟩|⟨_,h⟩
 ·exact L_ ⟨h1,c,d,e,f,g⟩ h
 rw[h]
theorem Dq{f:(Nat->Int)->(Nat->Int) × Int}{r:Nat->Nat->Int} : ∀ {n:Nat},(∀ i,i<n->(f (r i)).2=0)->jF f r n=0
 | 0,_=>rfl
 | n+1,h=>Cn (Dq fun i a=>h i (by omega)) (h n (by omega))
theorem FX(c:m.T.ok){f:(Nat->Int)->(Nat->Int) × Int}{x:Int}(h : ∀ y,y∈m.T.path x->(f (aZ m y)).2=0):dz m f (m.T.path x)=0 :=
 Dq fun i a=>by
  have b:(m.T.path x).getD i 0∈m.T.path x:=by
   rw[r_,o_ a]; exact P_ a
  have:=h _ b;unfold aZ at this;rw[d_ (dK.nR c rfl _ b)]at this;exact this
theorem Am(h:bM v=true)(b:v.kind=5):1<=v.dst/\v.dst<=6/\v.dst≠v.o:=by
 unfold bM at h;simp only[R_]at h;have a:=h.2;unfold dw at a;rw[b_ (by omega),b_ (by omega),b_ (by omega),b_ (by omega),d_ b,R_]at a;have:=a.2;unfold lM nG at this;simp at this;omega
theorem Y3(a:bM v=true):gH v.o=true:=by have:=lU a; unfold gH; simp; omega
end
structure Tw(m:dP)(L:gy)(N S:Nat):Prop where
 t:En m L N
 w:Q7 m
 s:(dZ m).Sm S
 b:S<=1000000
section
variable {m:dP} {L:gy} {N S:Nat} {x y:Int} {v:EvM}
theorem En.may(h:En m L N)(hy:m.T.has y=true):may (aZ m y)=true:=by
 obtain⟨i,a,e⟩:=(h.s.T.has y).1 hy;unfold aZ;rw[d_ hy,<- e,h.s.row i a];exact h.i.may i a
theorem Tw.cell(h:Tw m L N S)(y:Int)(p:Nat):aZ m y p<=65536000000:=by
 have:=h.s.r y p;have a:=h.b;show(dZ m).R y p<=_;omega
theorem Tw.make(h:Tw m L N S)(s:bM v=true)(k:v.kind=1)(j:(dZ m).QL v):iV m v=0:=by
 obtain⟨a,b,c⟩:=j.pre.n1 k;obtain⟨d,e,f⟩:=j.k1 k;have r:rZ v=mZ v:=qM s;rw[r]at a b;unfold iV;have d:m.own (aL v)<5:=d;rw[b_ (show ¬ (5<=m.own (aL v)\/140737488355328<v.aS) by omega)];show qF m.T.x m.T.p m.T.n (mZ v) v.node=0;unfold qF;have a:dN m.T.x m.T.n (mZ v)=false:=a;rw[b_ b,b_ (by rw[a]; decide)];rw[b_ (show ¬ (¬ v.node=0/\dN m.T.x m.T.n v.node=false)from fun q=>by
  rcases c with c|c
  ·exact q.1 c
  ·have c:dN m.T.x m.T.n v.node=true:=c;rw[q.2]at c; cases c)]
 rw[b_];rintro (q|q)
 ·have y:=h.w.n;have g:=h.w.o;have:=g 0 (by decide); have:=g 1 (by decide); have:=g 2 (by decide); have:=g 3 (by decide); have:=g 4 (by decide); have:=g 5 (by decide);omega
 obtain⟨u,_⟩:=Ep h.t.t _ v.node (z_ _);exact f fun i l=>by
  rw[FT];exact(u i (n_ l q)).2
theorem Tw.make'(h:Tw m L N S)(k:bM v=true)(o:v.kind=1)(a:iV m v=0):(rZ v≠0/\(dZ m).has (rZ v)=false/\(v.node=0\/(dZ m).has v.node=true))/\(dZ m).own (aV v)<5/\v.aS<=140737488355328 /\ ¬ ∀ i,i<4->(dZ m).has ((dZ m).up v.node i)=true:=by
 have j:rZ v=mZ v:=qM k;unfold iV at a;by_cases c:5<=m.own (aL v)\/140737488355328<v.aS
 ·rw[d_ c]at a; cases a
 rw[b_ c]at a;obtain⟨d,e,f,n,g⟩:=EF a;rw[j];refine⟨⟨d,e,f⟩,?_,by omega,fun q => ?_⟩
 ·show m.own (aL v)<5;omega
 obtain⟨_,l⟩:=Ep h.t.t _ v.node (z_ _);have:=q _ (show(m.T.path v.node).length<4 from g);rw[FT]at this;have b:m.T.has (Lj m.T v.node (m.T.path v.node).length)=true:=this;rw[l]at b; cases b
theorem Tw.does(h:Tw m L N S)(c:bM v=true)(I:nZ v)(j:(dZ m).QL v):fB m v=0:=by
 have k:=h.t.t;have P:=j.pre;have D:=Y3 c;have G : ∀ y p n,n<=65536->aZ m y p+n<=1125899906842624:=fun y p n U=>by have:=h.cell y p; omega
 unfold fB;by_cases E:v.kind=1
 ·rw[d_ E]; exact h.make c E j
 rw[b_ E];by_cases A:v.kind=2
 ·rw[d_ A];have a:m.T.has v.node=true:=P.n2 A;have:=j.k2 A;have e:(dZ m).R v.node (aV v)=m.R (m.idx v.node) (aL v):=by
   show aZ m v.node (aV v)=_;unfold aZ; rw[d_ a]; rfl
  rw[e]at this;unfold jy;rw[b_ (by rw[a]; decide),b_ (by omega)]
 rw[b_ A];by_cases w:v.kind=3
 ·rw[d_ w];have a:m.T.has v.node=true:=(P.n3 w).1;obtain⟨b,i⟩:=j.k3 w;have b:gL m v.o v.req=false:=b;have r:=kU c (.inr (.inl w));unfold jO;rw[b_ (by rw[b]; decide),b_ (by rw[a]; decide)];refine FX (f:=fun x=>bB x v.o v.aS) k fun y u => ?_;have d:=h.t.may (dK.nR k rfl y u);have:=i y ((CF k _ y).2 u);have this:v.aS<=Cy (aZ m y) (aV v):=this;refine yw d r.1 r.2 D ?_ (G y _ _ I.aS);unfold qy;rw[CG d c,g_ (by omega)]; rfl
 rw[b_ w];by_cases z:v.kind=4
 ·rw[d_ z];have a:iF m v.o v.of=true:=P.n4 z;obtain⟨b,i,J⟩:=j.k4 z;have b:gL m v.o v.req=false:=b;have K:(dZ m).g v.o v.of 2=m.g (eP m v.o v.of) 2:=d_ ⟨a,by decide,by decide⟩;have H:(dZ m).g v.o v.of 3=m.g (eP m v.o v.of) 3:=d_ ⟨a,by decide,by decide⟩;have M:(dZ m).g v.o v.of 4=m.g (eP m v.o v.of) 4:=d_ ⟨a,by decide,by decide⟩;have B:=h.s.g _ _ (P.n4 z);rw[K,H]at J;rw[H]at B;rw[M]at i;unfold jg;rw[b_ (by rw[b]; decide),b_ (show ¬ (iF m v.o v.of=false\/m.g (eP m v.o v.of) 4≠0)from fun q=>q.elim (fun q=>by rw[a]at q; cases q) (fun q=>q i))]
  refine FX (f:=fun x=>bE x v.o (m.g (eP m v.o v.of) 3)) k fun y u => ?_;have d:=h.t.may (dK.nR k rfl y u);have:=J y ((CF k _ y).2 u);have this:m.g (eP m v.o v.of) 3<=aZ m y (6+aV v)-aZ m y (12+aV v):=this;refine yw d B.1 (by omega) D ?_ (G y _ _ B.2);unfold qz C F;rw[(FV c).2.2,g_ (by omega)]; rfl
 rw[b_ z];by_cases l:v.kind=5
 ·rw[d_ l];have a:m.T.has v.node=true:=P.n5 l;obtain⟨b,i⟩:=j.k5 l;have b:m.inn (v.dst-1).toNat=true:=b;have i:v.aS<=Cy (aZ m v.node) (aV v):=i;have r:=kU c (.inr (.inr l));have d:=h.t.may a;have O:aZ m v.node=m.R (m.idx v.node):=by unfold aZ; rw[d_ a]; rfl
  have Q:=Am c l;unfold ku;rw[b_ (by rw[a]; decide),b_ (by rw[b]; decide)];show(cZ (m.R (m.idx v.node)) v.o v.dst v.aS).2=0;rw[<- O];refine yw d r.1 r.2 (by rw[D,show gH v.dst=true by unfold gH; simp; omega]; rfl) ?_ (G _ _ _ I.aS);unfold nI;rw[b_ (fun e=>Q.2.2 e.symm),CG d c,g_ (by omega)]; rfl
 rw[b_ l];split <;> rfl
theorem Tw.okE(h:Tw m L N S)(D:bM v=true)(h1:m.inn (aL v)=true)(p:m.left (aL v)=false)(d:fB m v=0):(dZ m).QL v:=by
 have B:=h.t.t;unfold fB at d;have no : ∀ {k:Int} {P:Prop},v.kind≠k->v.kind=k->P:=fun a b=>L_ b a;by_cases r:v.kind=1
 ·rw[d_ r]at d;obtain⟨⟨H,I,J⟩,b⟩:=h.make' D r d;have n : ∀ {k:Int} {P:Prop},k≠1->v.kind=k->P:=fun a b=>L_ (b.symm.trans r) a;exact⟨h1,p,⟨fun _=>⟨I,H,J⟩,n (by decide),n (by decide),n (by decide),n (by decide)⟩,fun _=>b,n (by decide),n (by decide),n (by decide),n (by decide)⟩
 rw[b_ r]at d;by_cases w:v.kind=2
 ·rw[d_ w]at d;have n : ∀ {k:Int} {P:Prop},k≠2->v.kind=k->P:=fun a b=>L_ (b.symm.trans w) a;unfold jy at d
  cases f:m.T.has v.node with
  | false=>rw[d_ f]at d; cases d
  | true =>
    rw[b_ (by rw[f]; decide)]at d;have e:(dZ m).R v.node (aV v)=m.R (m.idx v.node) (aL v):=by
     show aZ m v.node (aV v)=_;unfold aZ; rw[d_ f]; rfl
    refine⟨h1,p,⟨n (by decide),fun _=>f,n (by decide),n (by decide),n (by decide)⟩,n (by decide),fun _ => ?_,n (by decide),n (by decide),n (by decide)⟩;rw[e];by_cases c:140737488355328<m.R (m.idx v.node) (aL v)+v.aS
    ·rw[d_ c]at d; cases d
    ·omega
 rw[b_ w]at d;by_cases x:v.kind=3
 ·rw[d_ x]at d;have n : ∀ {k:Int} {P:Prop},k≠3->v.kind=k->P:=fun a b=>L_ (b.symm.trans x) a;unfold jO at d
  cases c1:gL m v.o v.req with
  | true=>rw[d_ c1]at d; cases d
  | false =>
    rw[b_ (by rw[c1]; decide)]at d
    cases f:m.T.has v.node with
    | false=>rw[d_ f]at d; cases d
    | true =>
      rw[b_ (by rw[f]; decide)]at d;have W:iF m v.o v.req=false:=oQ fun i u e=>by
       have:=h.t.s.ga i u;rw[e.1,e.2,c1]at this; cases this
      refine⟨h1,p,⟨n (by decide),n (by decide),fun _=>⟨f,W⟩,n (by decide),n (by decide)⟩,n (by decide),n (by decide),fun _=>⟨c1,fun y l => ?_⟩,n (by decide),n (by decide)⟩;have l:=(CF B _ y).1 l;have q:(bB (aZ m y) v.o v.aS).2=0:=yU B d l;unfold bB at q;have G:=yT q;have j:=G.2.2.2.2.1;unfold qy at j;rw[CG G.1 D]at j;show v.aS<=Cy (aZ m y) (aV v);by_cases c:Cy (aZ m y) (aV v)<v.aS
      ·rw[f_ c]at j; cases j
      ·omega
 rw[b_ x]at d;by_cases z:v.kind=4
 ·rw[d_ z]at d;have n : ∀ {k:Int} {P:Prop},k≠4->v.kind=k->P:=fun a b=>L_ (b.symm.trans z) a;unfold jg at d
  cases c1:gL m v.o v.req with
  | true=>rw[d_ c1]at d; cases d
  | false =>
    rw[b_ (by rw[c1]; decide)]at d;by_cases A:iF m v.o v.of=false\/m.g (eP m v.o v.of) 4≠0
    ·rw[d_ A]at d; cases d
    ·rw[b_ A]at d;have f:iF m v.o v.of=true:=by
      cases e:iF m v.o v.of with
      | true=>rfl
      | false=>exact L_ (.inl e) A
     have U:m.g (eP m v.o v.of) 4=0:=Classical.byContradiction fun q=>A (.inr q);have K:(dZ m).g v.o v.of 2=m.g (eP m v.o v.of) 2:=d_ ⟨f,by decide,by decide⟩;have M:(dZ m).g v.o v.of 3=m.g (eP m v.o v.of) 3:=d_ ⟨f,by decide,by decide⟩;have O:(dZ m).g v.o v.of 4=m.g (eP m v.o v.of) 4:=d_ ⟨f,by decide,by decide⟩;refine⟨h1,p,⟨n (by decide),n (by decide),n (by decide),fun _=>f,n (by decide)⟩,n (by decide),n (by decide),n (by decide),fun _=>⟨c1,O.trans U,fun y l => ?_⟩,n (by decide)⟩;rw[K]at l;rw[M];have l:=(CF B _ y).1 l;have q:(bE (aZ m y) v.o (m.g (eP m v.o v.of) 3)).2=0:=yU B d l;unfold bE at q;have G:=yT q;have j:=G.2.2.2.2.1;unfold qz C F at j;rw[(FV D).2.2]at j;show m.g (eP m v.o v.of) 3<=aZ m y (6+aV v)-aZ m y (12+aV v);by_cases c:aZ m y (6+aV v)-aZ m y (12+aV v)<m.g (eP m v.o v.of) 3
     ·rw[f_ c]at j; cases j
     ·omega
 rw[b_ z]at d;by_cases E:v.kind=5
 ·rw[d_ E]at d;have n : ∀ {k:Int} {P:Prop},k≠5->v.kind=k->P:=fun a b=>L_ (b.symm.trans E) a;unfold ku at d
  cases f:m.T.has v.node with
  | false=>rw[d_ f]at d; cases d
  | true =>
    rw[b_ (by rw[f]; decide)]at d
    cases u:m.inn (v.dst-1).toNat with
    | false=>rw[d_ u]at d; cases d
    | true =>
      rw[b_ (by rw[u]; decide)]at d;have hm:=h.t.may f;have Q:aZ m v.node=m.R (m.idx v.node):=(by unfold aZ; rw[d_ f]; rfl);obtain⟨a,b,ha,hb,hne,ho,hd,X,Y,V,hM,heq⟩:=AV d;refine⟨h1,p,⟨n (by decide),n (by decide),n (by decide),n (by decide),fun _=>f⟩,n (by decide),n (by decide),n (by decide),n (by decide),fun _=>⟨u,?_⟩⟩;show v.aS<=Cy (aZ m v.node) (aV v);rw[Q,<- aac,show aV v=a by unfold aV; omega];exact V
 have Z:=iY D;exact⟨h1,p,⟨no r,no w,no x,no z,no E⟩,no r,no w,no x,no z,no E⟩
theorem Y4{K:Nat->Int}(h:dG K v=true):jS K v=false:=by
 obtain⟨a,b,c⟩:=DK h;unfold jS;rw[g_ (show ¬ v.seq<=K (v.o-1).toNat by have b:v.seq=K (v.o-1).toNat+1:=b; omega),H_]
theorem Tw.check(h:Tw m L N S)(i:nZ v)(hr:dG m.known v=true):bY m v=0<->(dZ m).QL v:=by
 have f:=(DK hr).1;constructor
 ·intro g;obtain⟨a,b,c,d⟩:=pJ g;exact h.okE f c d b
 intro e;unfold bY;rw[b_ (by rw[f]; decide),b_ (by rw[Y4 hr]; decide),b_ (by rw[hr]; decide),b_,h.does f i e];rintro (q|q)
 ·have:=e.inn; rw[show(dZ m).inn (aV v)=m.inn (aL v)from rfl,q]at this; cases this
 have:=e.left; rw[show(dZ m).left (aV v)=m.left (aL v)from rfl,q]at this; cases this
end
end Rt
end
section
set_option linter.unusedVariables false
namespace Rt
def ab0(k:Nat):Ab:=dZ (yj k 0 0 0 0 0 0)
structure Ws(k:Nat)(ev:Nat->EvM)(an:Nat):Prop extends Evs (ab0 k) ev an where
 sm : ∀ i,i<an->nZ (ev i)
 an:an<=1000
structure wW(k:Nat)(ev:Nat->EvM)(an:Nat)(L:gy):Prop where
 ex : ∃ m N,En m L N/\Q7 m/\dZ m=fU ev L.known (ab0 k) an
 kc:Ox ev an L.known
section
variable {ev ev':Nat->EvM} {an n k i j:Nat} {K:Nat->Int} {L L':gy} {v:EvM} {m:dP} {N S:Nat} {A:Ab}
theorem aeb(h:bM v=true):O8 v:=by
 have a:=lU h;refine⟨⟨a.1,a.2.1⟩,a.2.2,?_,fun d=>⟨(Am h d).1,(Am h d).2.1⟩⟩;have i:=iY h;by_cases g:v.kind=2\/v.kind=3\/v.kind=5
 ·have:=(kU h g).1; omega
 have c:jR v=true:=by unfold bM at h; simp only[R_]at h; exact h.1.2
 have b:dw v=true:=by unfold bM at h; simp only[R_]at h; exact h.2
 by_cases f:v.kind=1
 ·unfold dw at b;rw[d_ f]at b;simp at b;omega
 have e:v.aS=(jr v).aS:=by unfold jR at c; simp only[R_,decide_eq_true_eq]at c; exact c.1.1.2
 rw[e];unfold jr;rw[b_ f,b_ (by omega),b_ (by omega)];split
 ·exact M_ _
 rw[b_ (by omega)];split <;> exact M_ _
theorem aec(k:Nat):(ab0 k).Ok:=⟨rfl,fun _ h=>(nomatch h),fun _ _=>rfl,fun _ _ h=>(nomatch h),fun _ _ _=>rfl⟩
theorem aed(k:Nat):(ab0 k).Sm 0:=⟨fun _ _=>M_ _,fun _ _ h=>(nomatch h)⟩
theorem ow0(k:Nat):Q7 (yj k 0 0 0 0 0 0):=⟨rfl,fun _ _=>by show(0:Int)<=5; decide⟩
theorem Ab.Sm.mono{S':Nat}(h:A.Sm S)(a:S<=S'):A.Sm S':=⟨fun y p=>by have:=h.r y p; omega,h.g⟩
theorem Evs.cz(h:Evs A ev an):Cz 6 an ev (fun _=>fQ ev an) where
 rd:=h.rd
 reg:=fun k a=>(h.g k a).reg.2
 own:=fun _ _=>rfl
 kc:=fun _ _=>⟨fun _ _=>M_ _,fun k a _ i b=>Q_ ((DK (h.rd k a)).2.2 i b) (cnt_mono (by omega))⟩
theorem Ws.fsm(W:Ws k ev an)(a:Ox ev an K) : ∀ n,n<=an->(fU ev K (ab0 k) n).Sm n
 | 0,_=>aed k
 | n+1,hn=>by
   have b:=W.fsm a n (by omega)
   cases c:wV K (ev n)with
   | true =>
     rw[mo c];exact b.qZ ((uX W.toEvs (n+1) hn K a).2 n (by omega) c).pre (DK (W.rd n (by omega))).1 (W.sm n (by omega))
   | false=>rw[mH c]; exact b.mono (by omega)
theorem wW.tw(h:wW k ev an L)(W:Ws k ev an) : ∃ m N,Tw m L N an/\dZ m=fU ev L.known (ab0 k) an:=by
 obtain⟨m,N,b,c,a⟩:=h.ex;exact⟨m,N,⟨b,c,by rw[a]; exact W.fsm h.kc an (z_ _),by have:=W.an; omega⟩,a⟩
theorem wW.ready(h:wW k ev an L)(W:Ws k ev an)(c:j<an)(hr:dG L.known (ev j)=true):bH L (ev j)=0:=by
 obtain⟨m,N,a,d⟩:=h.tw W;have b:=H6 W.toEvs h.kc c hr (show j<=an by omega) (z_ _);rw[<- d]at b;rw[<- (a.t.s.apply a.t.t a.t.i (ev j)).1];exact(a.check (W.sm j c) (by rw[a.t.s.known]; exact hr)).2 b
theorem wW.apply(h:wW k ev an L)(W:Ws k ev an)(b:j<an):wW k ev an (bP L (ev j)):=by
 rcases qN L (ev j)with ⟨c,e⟩|⟨c,e⟩
 ·have d:=jK c;obtain⟨m,N,a,f,g⟩:=h.ex;have l:bY m (ev j)=0:=(a.s.apply a.t a.i (ev j)).1.trans c;refine⟨⟨jG m (ev j),N+1,a.apply (ev j),f.apply,?_⟩,by rw[e]; exact W.toEvs.cz.step h.kc b d⟩;rw[QS a.t a.s.ga l,g,e];exact(Y0 W.toEvs h.kc b d).symm
 rw[e]; exact h
theorem wW.pass(W:Ws k ev an){a:Nat->Int}(h:wW k ev an L) : ∀ j,j<=an->wW k ev an (oq ev a L j)
 | 0,_=>h
 | j+1,hj=>by
   unfold oq;split
   ·exact(h.pass W j (by omega)).apply W (by omega)
   ·exact h.pass W j (by omega)
theorem wW.iU(W:Ws k ev an){a:Nat->Int} : ∀ f L,wW k ev an L->wW k ev an (iU ev an a f L)
 | 0,L,hL=>by unfold Rt.iU; exact hL
 | f+1,L,hL=>by
   unfold Rt.iU;split
   ·exact hL.pass W an (z_ _)
   ·exact wW.iU W f _ (hL.pass W an (z_ _))
theorem wW.new(k:Nat)(ev:Nat->EvM)(an:Nat)(a : ∀ i,i<an->1<=(ev i).seq)(f:Nat):wW k ev an (kK k f).core:=by
 have d : ∀ n,n<=an->fU ev (fun _=>0) (ab0 k) n=ab0 k:=fun n=>by
  induction n with
  | zero=>intro _; rfl
  | succ n ih =>
    intro h;have c:wV (fun _=>0) (ev n)=false:=g_ (show ¬ (ev n).seq<=0 by have:=a n (by omega); omega);rw[mH c]; exact ih (by omega)
 exact⟨⟨yj k 0 0 0 0 0 0,0,En.new k,ow0 k,(d an (z_ _)).symm⟩,fun i b=>Fq an i,fun i b e j g=>L_ (show(ev i).seq<=0 from e) (by have:=a i b; omega)⟩
theorem CJ(h : ∀ i,i<n->ev' i=ev i):fU ev' K A n=fU ev K A n:=by
 induction n with
 | zero=>rfl
 | succ n ih =>
   show(if wV K (ev' n)=true then(fU ev' K A n).qZ (ev' n)else fU ev' K A n)=_;rw[ih fun i a=>h i (by omega),h n (by omega)]; rfl
theorem wH{v:EvM} : ∀ i,i<an->aH ev an v i=ev i:=fun i a=>b_ (by omega)
theorem wI{v:EvM}:aH ev an v an=v:=d_ rfl
theorem Ox.more(h:Ox ev an K)(g:bM v=true)(l:v.seq=fQ ev an (aL v)+1):Ox (aH ev an v) (an+1) K/\wV K v=false:=by
 have c : ¬ v.seq<=K (aL v):=by have:=h.le _ (lD g); omega
 refine⟨⟨fun i b => ?_,fun i b a j f => ?_⟩,g_ c⟩
 ·have:=h.le i b;have d:=cnt_mono (ev:=aH ev an v) (j:=an) (k:=an+1) (i:=i) (by omega);rw[A9 an (z_ _)]at d;omega
 by_cases e:i=an
 ·rw[e,wI]at a; exact L_ a c
 rw[wH i (by omega)]at a ⊢;exact h.cl i (by omega) a j f
theorem wW.more(h:wW k ev an L)(g:bM v=true)(f:v.seq=fQ ev an (aL v)+1):wW k (aH ev an v) (an+1) L:=by
 obtain⟨m,N,c,d,e⟩:=h.ex;obtain⟨a,b⟩:=h.kc.more g f;refine⟨⟨m,N,c,d,?_⟩,a⟩;rw[mH (by rw[wI]; exact b),CJ wH];exact e
theorem Ws.more(W:Ws k ev an)(h:wW k ev an L)(u:an<1000)(p:nZ v)(n:bH L v=0)(d:v.deps=L.known)(f:v.seq=fQ ev an (aL v)+1):Ws k (aH ev an v) (an+1):=by
 have o:=jK n;have c:=(DK o).1;have q : ∀ j,j<=an -> ∀ i,fQ (aH ev an v) j i=fQ ev j i:=fun j a i=>A9 j a i;have l : ∀ j,j<=an->fQ (aH ev an v) j=fQ ev j:=fun j a=>funext (q j a);refine { ok0:=W.ok0,rd:=fun j a => ?_,g:=fun j a => ?_,dc:=fun j a => ?_,tk:=fun j a => ?_,sm:=fun j a => ?_,an:=by omega }
 ·by_cases e:j=an
  ·rw[e,wI,l an (z_ _)];exact MS c f (by rw[d]; exact h.kc.le)
  rw[wH j (by omega),l j (by omega)]; exact W.rd j (by omega)
 ·by_cases e:j=an
  ·rw[e,wI]; exact aeb c
  rw[wH j (by omega)]; exact W.g j (by omega)
 ·by_cases e:j=an
  ·rw[e,wI,d]; exact(h.kc.more c f).1
  rw[wH j (by omega)]; exact((W.dc j (by omega)).more c f).1
 ·by_cases e:j=an
  ·rw[e,wI,d,CJ wH];obtain⟨m,N,b,r⟩:=h.tw W;rw[<- r];exact(b.check p (by rw[b.t.s.known]; exact o)).1 ((b.t.s.apply b.t.t b.t.i v).1.trans n)
  rw[wH j (by omega),CJ fun i w=>wH i (by omega)]; exact W.tk j (by omega)
 by_cases e:j=an
 ·rw[e,wI]; exact p
 rw[wH j (by omega)]; exact W.sm j (by omega)
theorem Ws.zero(k:Nat)(ev:Nat->EvM):Ws k ev 0 where
 ok0:=aec k
 rd:=fun _ h=>L_ h (u_ _)
 g:=fun _ h=>L_ h (u_ _)
 dc:=fun _ h=>L_ h (u_ _)
 tk:=fun _ h=>L_ h (u_ _)
 sm:=fun _ h=>L_ h (u_ _)
 an:=by decide
end
structure WC(M:WM):Prop where
 w:Ws M.n M.ev M.an
 f : ∀ o,o<M.n->wW M.n M.ev M.an (M.ml o).core
theorem WC.new{M:WM}(a:M.an=0)(h : ∀ i,(M.ml i).core=(kK M.n 0).core):WC M:=by
 refine⟨by rw[a]; exact .zero _ _,fun o c=>by rw[h,a]; exact .new _ _ _ (fun i b=>L_ b (u_ _)) 0⟩
theorem WC.do{w':World}{M k:WM}{B p T o:Nat}{x:Gf}{v:EvM}(h:WC M)(y:og w' B p k T)(j:o<M.n)(a:DoR o x M k v)(z:M.an<1000)(A:(M.ml o).s.known o=fQ M.ev M.an o):WC k:=by
 rcases a.c with ⟨u,g,d,b⟩|⟨u,g,d,b,h5,h6,h7,h8⟩
 ·refine⟨by rw[a.n,g,d]; exact h.w,fun q i => ?_⟩;rw[a.n]at i;rw[a.n,g,d];by_cases e:q=o
  ·rw[e]
   rcases b with b|⟨_,b⟩
   ·rw[b]; exact h.f o j
   rw[b]; exact wW.iU h.w _ _ (h.f o j)
  rw[a.oth q e]; exact h.f q i
 have C:=jK b;have r:=(DK C).1;have t:aL v=o:=by unfold aL; omega
 have l:v.seq=fQ M.ev M.an (aL v)+1:=by rw[t,<- A]; exact h7
 have D:nZ v:=by
  have:=y.sm M.an (by omega);rw[d,wI]at this; exact this
 have m:Ws M.n (aH M.ev M.an v) (M.an+1):=h.w.more (h.f o j) z D b h8 l;refine⟨by rw[a.n,g,d]; exact m,fun q i => ?_⟩;rw[a.n]at i;rw[a.n,g,d];by_cases e:q=o
 ·rw[e,h5];have:=((h.f o j).more r l).apply m (show M.an<M.an+1 by omega);rw[wI]at this;exact this
 rw[a.oth q e]; exact(h.f q i).more r l
end Rt
end
section
set_option linter.unusedVariables false
namespace Rt
structure Ls(L L':gy):Prop where
 inn:L'.inn=L.inn
 left:L'.left=L.left
 kn : ∀ i,i<6->L'.known i=L.known i
 nn:L'.nn=L.nn
 gn:L'.gn=L.gn
 n : ∀ k,k<L.nn->L'.id k=L.id k/\L'.par k=L.par k/\L'.R k=L.R k
 g : ∀ k,k<L.gn -> ∀ p,p<5->L'.g k p=L.g k p
section
variable {ev:Nat->EvM} {an k:Nat} {L L':gy} {m m':dP} {N N':Nat}
theorem fT.aee(h:fT m L){q:Nat}(i:q<L.gn):iF m (L.g q 0) (L.g q 1)=true /\ ∀ p,2<=p->p<=4->(dZ m).g (L.g q 0) (L.g q 1) p=L.g q p:=by
 obtain⟨j,d,e⟩:=h.g1 q i;have c:iF m (L.g q 0) (L.g q 1)=true:=rY d (by rw[<- e]) (by rw[<- e]);have f:eP m (L.g q 0) (L.g q 1)=j:=yR h.gi d (by rw[<- e]) (by rw[<- e]);refine⟨c,fun p a b => ?_⟩;rw[show(dZ m).g (L.g q 0) (L.g q 1) p=m.g (eP m (L.g q 0) (L.g q 1)) p from d_ ⟨c,a,b⟩,f,e]
theorem Ia{f:Nat->Int}{n i:Nat}(hi:i<n):((List.range n).map f).getD i 0=f i:=by
 rw[r_,o_ (by rw[List.length_map,List.length_range]; exact hi)]; simp
theorem Ib{f g:Nat->Int}{n n':Nat}(m : ∀ i j,i<j->j<n->f i<f j)(o : ∀ i j,i<j->j<n'->g i<g j)(h1 : ∀ i,i<n -> ∃ j,j<n'/\g j=f i)(l : ∀ j,j<n' -> ∃ i,i<n/\f i=g j):n'=n /\ ∀ i,i<n->g i=f i:=by
 have e:(List.range n).map f=(List.range n').map g:=uF (by
  rw[List.pairwise_map];exact(List.pairwise_lt_range (n:=n)).imp_of_mem fun {a b} _ hb hab=>m a b hab (N_.1 hb)) (by
  rw[List.pairwise_map];exact(List.pairwise_lt_range (n:=n')).imp_of_mem fun {a b} _ hb hab=>o a b hab (N_.1 hb)) fun x=>by
  rw[List.mem_map,List.mem_map];constructor
  ·rintro ⟨i,c,rfl⟩;obtain⟨j,d,k⟩:=h1 i (N_.1 c);exact⟨j,N_.2 d,k⟩
  ·rintro ⟨j,d,rfl⟩;obtain⟨i,c,h⟩:=l j (N_.1 d);exact⟨i,N_.2 c,h⟩
 have p:n'=n:=by have:=K_ List.length e; rw[List.length_map,List.length_map,List.length_range,List.length_range]at this; exact this.symm
 refine⟨p,fun i c => ?_⟩;have:=K_ (fun z:List Int=>z.getD i 0) e;have:((List.range n).map f).getD i 0=((List.range n').map g).getD i 0:=this;rw[Ia c,Ia (by omega)]at this;exact this.symm
theorem En.same(h:En m L N)(d:En m' L' N')(C:zq L)(D:zq L')(e:dZ m'=dZ m)(I : ∀ i,i<6->L'.known i=L.known i):Ls L L':=by
 have B : ∀ y,m'.T.has y=m.T.has y:=fun y=>congrFun (K_ Ab.has e) y;have J : ∀ y,m'.T.par y=m.T.par y:=fun y=>congrFun (K_ Ab.par e) y;have H : ∀ y,aZ m' y=aZ m y:=fun y=>congrFun (K_ Ab.R e) y;have u : ∀ o r,iF m' o r=iF m o r:=fun o r=>congrFun (congrFun (K_ Ab.gh e) o) r;have w : ∀ {m:dP} {L:gy} {N:Nat},En m L N -> ∀ i,i<L.nn->m.T.has (L.id i)=true/\aZ m (L.id i)=L.R i:=fun {m L N} h i k=>by
  have a:m.T.has (L.id i)=true:=(h.s.T.has _).2 ⟨i,k,rfl⟩;refine⟨a,?_⟩;unfold aZ;rw[d_ a,h.s.row i k]
 obtain⟨Q,z⟩:=Ib (f:=L.id) (g:=L'.id) (n:=L.nn) (n':=L'.nn) h.i.rise d.i.rise (fun i k=>(d.s.T.has _).1 (by rw[B]; exact(w h i k).1)) (fun i k=>(h.s.T.has _).1 (by rw[<- B]; exact(w d i k).1));have F : ∀ {m m':dP} {L L':gy} {N N':Nat},En m L N->En m' L' N'->(∀ o r,iF m' o r=iF m o r) -> ∀ q,q<L.gn -> ∃ j,j<L'.gn/\nS (L'.g j)=nS (L.g q):=fun {m m' L L' N N'} h d u q t=>by
  have a:=(h.s.aee t).1;rw[<- u]at a;obtain⟨j,O,l,x⟩:=kX.1 a;obtain⟨S,v,G⟩:=d.s.g2 j O;have l:m'.g j 0=L.g q 0:=l;have x:m'.g j 1=L.g q 1:=x;exact⟨S,v,by unfold nS; rw[G,l,x]⟩
 obtain⟨K,M⟩:=Ib (f:=fun q=>nS (L.g q)) (g:=fun q=>nS (L'.g q)) (n:=L.gn) (n':=L'.gn) C.up D.up (F h d u) (F d h fun o r=>(u o r).symm);refine⟨by rw[<- h.s.inn,<- d.s.inn]; exact K_ Ab.inn e,by rw[<- h.s.left,<- d.s.left]; exact K_ Ab.left e,I,Q,K,fun i k => ?_,fun q t p W => ?_⟩
 ·have E:i<L'.nn:=by omega
  refine⟨z i k,?_,?_⟩
  ·rw[<- h.s.T.par i k,<- d.s.T.par i E,J,z i k]
  rw[<- (w h i k).2,<- (w d i E).2,H,z i k]
 have v:q<L'.gn:=by omega
 have P:nS (L'.g q)=nS (L.g q):=M q t;have U:=(C.wf q t).1;have V:=(D.wf q v).1;unfold nS at P;unfold iG at U V;have A:L'.g q 0=L.g q 0:=by omega
 have l:L'.g q 1=L.g q 1:=by omega
 by_cases c:2<=p
 ·have a:=(h.s.aee t).2 p c (by omega);have b:=(d.s.aee v).2 p c (by omega);rw[<- a,<- b,A,l,K_ Ab.g e]
 rcases(show p=0\/p=1 by omega)with rfl|rfl
 ·exact A
 exact l
theorem O9{K K':Nat->Int}{A:Ab}(h : ∀ i,i<6->K' i=K i)(a : ∀ i,i<an->aL (ev i)<6) : ∀ n,n<=an->fU ev K' A n=fU ev K A n
 | 0,_=>rfl
 | n+1,hn=>by
   have c:wV K' (ev n)=wV K (ev n):=(by unfold wV; rw[h _ (a n (by omega))]);show(if wV K' (ev n)=true then(fU ev K' A n).qZ (ev n)else fU ev K' A n)=_;rw[O9 h a n (by omega),c]; rfl
theorem wW.same(h:wW k ev an L)(f:wW k ev an L')(W:Ws k ev an)(j:zq L)(l:zq L')(a : ∀ i,i<6->L'.known i=L.known i):Ls L L':=by
 obtain⟨m,N,b,o,c⟩:=h.ex;obtain⟨m',N',d,p,e⟩:=f.ex;refine b.same d j l ?_ a;rw[c,e];exact O9 a (fun i n=>(W.g i n).reg.2) an (z_ _)
theorem wW.next(h:wW k ev an L)(W:Ws k ev an){i:Nat}(hi:i<an)(b:L.known=fQ ev i):bH L (ev i)=0/\(bP L (ev i)).known=fQ ev (i+1):=by
 have a:=h.ready W hi (by rw[b]; exact W.rd i hi);refine⟨a,?_⟩;rw[Cx a,b]
 funext q
 unfold aH;show _=fQ ev i q+if aL (ev i)=q then 1 else 0;by_cases e:q=aL (ev i)
 ·rw[d_ e,d_ e.symm,e]
 rw[b_ e,b_ (fun q=>e q.symm),C_]
theorem Y5(W:Ws k ev an) : ∀ i,i<an->1<=(ev i).seq:=fun i a=>(W.g i a).seq.1
theorem wW.some(h:wW k ev an L)(W:Ws k ev an){i:Nat}(hi:i<an):bH L (ev i)=0\/bH L (ev i)=14\/bH L (ev i)=13:=by
 by_cases c:dG L.known (ev i)=true
 ·exact .inl (h.ready W hi c)
 right;have b:=(DK (W.rd i hi)).1;unfold bH;rw[b_ (by rw[b]; decide)];by_cases a:jS L.known (ev i)=true
 ·rw[d_ a]; exact .inl rfl
 rw[b_ a,d_ (by simpa using c)]; exact .inr rfl
end
end Rt
end
section
set_option linter.unusedVariables false
namespace Rt
section
variable {ev:Nat->EvM} {an k i r:Nat} {K K':Nat->Int} {L:gy} {v:EvM}
theorem V7(ev:Nat->EvM)(i q:Nat):fQ ev (i+1) q=fQ ev i q+if aL (ev i)=q then 1 else 0:=rfl
where aeA {a b:Int} (h:b<=a):(if a<=b then a else b)=b:=by split <;> omega
theorem V9(L:gy)(v:EvM)(q:Nat):L.known q<=(bP L v).known q:=by
 rcases qN L v with ⟨_,e⟩|⟨_,e⟩
 ·rw[e]; unfold aH; split
  ·subst_vars; omega
  exact M_ _
 rw[e]; exact M_ _
theorem wW.reach(h:wW k ev an L)(W:Ws k ev an)(hr:r<an)(d : ∀ q,q<6->fQ ev r q<=L.known q) : ∀ q,q<6->fQ ev (r+1) q<=(bP L (ev r)).known q:=fun q l=>by
 obtain⟨a,b,c⟩:=DK (W.rd r hr);have i:=lD a;have o:=d q l;have s:=V9 L (ev r) q;rw[V7];by_cases e:aL (ev r)=q
 ·rw[d_ e];by_cases n:(ev r).seq<=L.known q
  ·rw[e]at b; omega
  ·have j:=d _ i;have m:(ev r).seq=L.known (aL (ev r))+1:=(by rw[e]at b j ⊢; omega);have g:=h.ready W hr (MS a m fun p f=>Q_ (c p f) (d p f));rw[Cx g,e];unfold aH; rw[d_ rfl,e]at *; omega
 ·rw[b_ e]; omega
theorem wW.full(h:wW k ev an L)(b : ∀ q,q<6->fQ ev an q<=L.known q) : ∀ q,q<6->L.known q=fQ ev an q:=fun q a=>by
 have:=h.kc.le q a; have:=b q a; omega
end
end Rt
end
section
set_option linter.unusedVariables false
namespace Rt
def Ny(x:EvM):EvM := { x with seq:=x.seq+1,deps:=aH x.deps (aL x) (x.deps (aL x)+1) }
def Lu(x:EvM):EvM := { x with deps:=aH x.deps (x.o % 6).toNat (x.deps (x.o % 6).toNat+1000) }
def Wd(x:EvM):EvM := { x with o:=0 }
def Wh(x:EvM):EvM := { x with kind:=9 }
def Wi(x:EvM):EvM := { x with seq:=0 }
def Nz(x:EvM):EvM := { x with seq:=x.seq-1,deps:=aH x.deps (aL x) (x.deps (aL x)-1) }
def aef(q:Nat)(x:EvM):EvM:=if q=0 then Ny x else if q=1 then Lu x else if q=2 then Wd x else if q=3 then Wh x else if q=4 then Wi x else Nz x
def ahF(q:Nat):Int:=if q=0 then 13 else if q=1 then 13 else if q=2 then 1 else if q=3 then 1 else if q=4 then 1 else 14
section
variable {x:EvM} {k an i:Nat} {ev:Nat->EvM} {L:gy} {s:Int} {d:Nat->Int}
theorem Y6(x:EvM)(s:Int)(d:Nat->Int):jR { x with seq:=s,deps:=d }=jR x:=by
 by_cases a:x.kind=1
 ·simp[jR,jr,a]
 by_cases b:x.kind=2
 ·simp[jR,jr,b]
 by_cases c:x.kind=3
 ·simp[jR,jr,c]
 by_cases e:x.kind=4
 ·simp[jR,jr,e]
 by_cases f:x.kind=5
 ·simp[jR,jr,f]
 by_cases g:x.kind=6
 ·simp[jR,jr,g]
 simp[jR,jr,a,b,c,e,f,g]
theorem yX(h:bM x=true):nG x.o=true/\qh x=true/\jR x=true/\dw x=true:=by
 unfold bM at h; simp only[R_]at h; exact⟨h.1.1.1.1.1.1,h.1.1.2,h.1.2,h.2⟩
theorem Bl(h:qh x=true){i:Nat}(hi:i<6):x.deps i<1099511627776:=by
 unfold qh at h; rw[List.all_eq_true]at h; exact h_ (h i (N_.2 hi))
theorem NA(h:bM x=true)(h1:1<=s)(g:s<1099511627776)(f:d (aL x)=s-1)(j : ∀ i,i<6->d i<1099511627776):bM { x with seq:=s,deps:=d }=true:=by
 obtain⟨a,b,c,e⟩:=yX h;have k:qh { x with seq:=s,deps:=d }=true:=by
  unfold qh; rw[List.all_eq_true]; intro i l; exact f_ (j i (N_.1 l))
 unfold bM;rw[show nG ({ x with seq:=s,deps:=d }:EvM).o=true from a,k,Y6,c,show dw { x with seq:=s,deps:=d }=dw x from rfl,e];have f:d (x.o-1).toNat=s-1:=f;rw[show decide (1<=s)=true from f_ h1,show decide (s<1099511627776)=true from f_ g,show decide (d (x.o-1).toNat=s-1)=true from f_ f];rfl
theorem Y7{K:Nat->Int}(a:bM x=true)(h:x.seq<=K (aL x)):jS K x=true:=by
 unfold jS; rw[a,f_ (show x.seq<=K (x.o-1).toNat from h)]; rfl
theorem Wj{K:Nat->Int}(h : ¬ x.seq<=K (aL x)):jS K x=false:=by
 unfold jS; rw[g_ (show ¬ x.seq<=K (x.o-1).toNat from h),H_]
theorem Lx(b:bM x=true)(h1 : ¬ x.seq<=L.known (aL x))(a : ¬ dG L.known x=true):bH L x=13:=by
 unfold bH;rw[b_ (by rw[b]; decide),b_ (by rw[Wj h1]; decide),d_ (by simpa using a)]
theorem Jm(a:bM x=false):bH L x=1:=by unfold bH; rw[d_ a]
theorem Wm(a:bM x=true)(h1:x.seq<=L.known (aL x)):bH L x=14:=by
 unfold bH;rw[b_ (by rw[a]; decide),d_ (Y7 a h1)]
theorem Pb(ev:Nat->EvM) : ∀(i j:Nat),fQ ev i j<=i
 | 0,_=>M_ _
 | i+1,j=>by have:=Pb ev i j; show fQ ev i j+(if aL (ev i)=j then 1 else 0)<=_; split <;> omega
theorem yY(W:Ws k ev an)(hi:i<an)(z:fK (ev i))(c:L.known=fQ ev i)(q:Nat)(H:q<=5)(n:q=5->(ev i).seq≠1):bH L (aef q (ev i))=ahF q:=by
 have y:=W.rd i hi;obtain⟨a,u,p⟩:=DK y;rw[<- c]at u p;have w:=W.g i hi;have E:=lU a;have t:=w.reg;have G:aL (ev i)<6:=t.2;obtain⟨I,h,J,K⟩:=yX a;have d : ∀ j,fQ ev i j<=i:=fun j=>Pb ev i j;have A:=Bj a;have D:=W.an;have M:(ev i).seq<=1001:=by
  have:=d (aL (ev i)); rw[c]at u; omega
 rcases(show q=0\/q=1\/q=2\/q=3\/q=4\/q=5 by omega)with rfl|rfl|rfl|rfl|rfl|rfl
 ·show bH L (Ny (ev i))=13;have m:bM (Ny (ev i))=true:=NA a (by omega) (by omega) (by unfold aH; rw[d_ rfl]; omega) fun j b=>by
   have:=Bl h b;unfold aH; split
   ·subst_vars; omega
   ·exact this
  refine Lx m (show ¬ (ev i).seq+1<=L.known (aL (ev i)) by omega) fun r => ?_;have l:(ev i).seq+1=L.known (aL (ev i))+1:=(DK r).2.1;omega
 ·show bH L (Lu (ev i))=13;have B:(ev i).o=(aL (ev i):Int)+1:=t.1;have x:((ev i).o % 6).toNat≠aL (ev i):=by omega
  have f:((ev i).o % 6).toNat<6:=by omega
  have F:(ev i).deps ((ev i).o % 6).toNat<=1000:=by
   have:=p _ f; rw[c]at this; have:=d ((ev i).o % 6).toNat; omega
  have m:bM (Lu (ev i))=true:=NA (s:=(ev i).seq) a (by omega) (by omega) (by unfold aH; rw[b_ (fun e=>x e.symm)]; exact A) fun j b=>by
   have:=Bl h b;unfold aH; split
   ·omega
   ·exact this
  refine Lx m (show ¬ (ev i).seq<=L.known (aL (ev i)) by omega) fun r => ?_;have l:=(DK r).2.2 _ f;have v:(Lu (ev i)).deps ((ev i).o % 6).toNat=(ev i).deps ((ev i).o % 6).toNat+1000:=by
   show aH _ _ _ _=_; unfold aH; rw[d_ rfl]
  have C:=(z.deps _ f).1;rw[v,c]at l;have:=d ((ev i).o % 6).toNat;omega
 ·show bH L (Wd (ev i))=1;exact Jm (by unfold bM; rw[show nG (Wd (ev i)).o=false from rfl]; rfl)
 ·show bH L (Wh (ev i))=1;exact Jm (by unfold bM; rw[show dw (Wh (ev i))=false from rfl,H_])
 ·show bH L (Wi (ev i))=1;exact Jm (by unfold bM; rw[show decide (1<=(Wi (ev i)).seq)=false from rfl,H_]; rfl)
 show bH L (Nz (ev i))=14;have n:=n rfl;have m:bM (Nz (ev i))=true:=NA a (by omega) (by omega) (by unfold aH; rw[d_ rfl]; omega) fun j b=>by
  have:=Bl h b;unfold aH; split
  ·subst_vars; omega
  ·exact this
 exact Wm m (show(ev i).seq-1<=L.known (aL (ev i)) by omega)
theorem CK(h:fK x)(d:bM x=true)(q:Nat)(g:q=5->x.seq≠1)(t:q<=5):fK (aef q x):=by
 have u:=yI d;have e : ∀ j,j<6->0<=x.deps j/\x.deps j<1099511627776:=fun j c=>⟨(h.deps j c).1,Bl (yX d).2.1 c⟩;have i : ∀(p:Nat) (n:Int),0<=x.deps p+n->n<=1000->p<6 -> ∀ j,j<6->iG (aH x.deps p (x.deps p+n) j):=fun p n m r l j c=>by
  unfold aH;split
  ·have:=e p l; exact⟨by omega,by omega⟩
  ·exact h.deps j c
 have f:=lD d;have s:=lU d;have v:=Bj d;have z : ∀ {n:Int},0<=n->n<=18446744073709551615->iG n:=fun a b=>⟨a,b⟩;unfold aef;split
 ·exact { h with seq:=z (n:=x.seq+1) (by omega) (by omega),deps:=i _ 1 (by have:=e _ f; omega) (by decide) f }
 split
 ·exact { h with deps:=i _ 1000 (by have:=e (x.o % 6).toNat (by omega); omega) (by decide) (by omega) }
 split
 ·exact { h with o:=(⟨by decide,by decide⟩:qI 0) }
 split
 ·exact { h with kind:=(⟨by decide,by decide⟩:(0:Int)<=9/\(9:Int)<=255) }
 split
 ·exact { h with seq:=(⟨by decide,by decide⟩:iG 0) }
 have g:=g (by omega);have k : ∀ j,j<6->iG (aH x.deps (aL x) (x.deps (aL x)-1) j):=fun j c=>by
  unfold aH;split
  ·have:=e _ f; exact⟨by omega,by omega⟩
  ·exact h.deps j c
 exact { h with seq:=z (n:=x.seq-1) (by omega) (by omega),deps:=k }
theorem wW.mark(h:wW k ev an L)(W:Ws k ev an)(hi:i<an)(a:L.known=fQ ev i):(bP L (ev i)).known (aL (ev i))=(ev i).seq:=by
 rw[(h.next W hi a).2,(DK (W.rd i hi)).2.1]
 show fQ ev i (aL (ev i))+(if aL (ev i)=aL (ev i)then 1 else 0)=_;rw[d_ rfl]
theorem QT(h:bH L x≠0):bP L x=L:=by unfold bP; rw[b_ h]
end
end Rt
end
set_option maxRecDepth 20000
set_option linter.unusedVariables false
theorem LA(n:Nat)(m:Int)(w:World)(h:m=(n:Int))(j:1<=n)(k:n<=6) :
 Calls Tryz.prog 12 #[au m] w fun e w' => ∃ p M,e = .returned (pt p)/\M.n=n/\M.an=0/\WC M/\og w' w.heap.size p M 0/\Below w.heap.size w w':=by
 subst h; exact(Nq n w j k).mono fun _ _ ⟨p,M,c,a,b,g,d,f⟩=>⟨p,M,c,a,b,.new b fun i=>by rw[g i,a],d,f⟩
namespace Rt
theorem FY(y:Nat->Value)(v:EvM)(a:Nat)(n:Int)(hr:a<6)(h : ∀ j,j<14->y j=bQ v j) : ∀ j,j<14->dA y (a+2) (aD n) j=bQ { v with deps:=aH v.deps a n } j:=fun j b=>by
 unfold dA;by_cases c:j=a+2
 ·rw[d_ c,c,gT _ rfl hr];show _=Value.int .u64 (aH v.deps a n a);unfold aH; rw[d_ rfl]
 ·rw[b_ c,h j b];by_cases d:2<=j/\j<8
  ·rw[gT v (p:=j) (j:=j-2) (by omega) (by omega),gT _ (p:=j) (j:=j-2) (by omega) (by omega)];show _=Value.int .u64 (aH v.deps a n (j-2));unfold aH; rw[b_ (by omega)]
  ·rcases j with _|_|_|_|_|_|_|_|_|_|_|_|_|_|j <;> first|rfl|omega
theorem Ls.st{L L':gy}(h:Ls L L')(d:Option Addr)(e:Nat)(a:Option Addr)(b:Nat) : ∀ p,p<20->nL (QG L' d e a b) p=nL (QG L d e a b) p:=fun p f=>by
 unfold nL QG;simp only[h.inn,h.left,h.nn,h.gn];by_cases c:12<=p/\p<18
 ·rw[h.kn (p-12) (by omega)]
 ·repeat' split
  all_goals first|rfl|omega
end Rt
theorem LP.same{w:World}{s:Dz}{L L':gy}(h:LP w s L')(d:Ls L L'):LP w (QG L s.na s.nc s.ga s.gc) L:=by
 refine⟨rfl,?_,?_⟩
 ·have e:=h.n;rw[d.nn]at e;exact e.congr fun j k=>by
   unfold flat Vw;obtain⟨a,b,c⟩:=d.n (j / 56) (by omega);rw[a,b,c]
 have e:=h.g;rw[d.gn]at e;exact e.congr fun j k=>by
  unfold flat Vx jc;have g:=d.g (j / 5) (by omega) (j % 5) (I_ _ (by decide));have f:=d.g (j / 5) (by omega) 0 (by decide);have i:=d.g (j / 5) (by omega) 3 (by decide);rw[g,f,i]
end Go.Proofs.YtahbiajdgealnaaGreatDoor
