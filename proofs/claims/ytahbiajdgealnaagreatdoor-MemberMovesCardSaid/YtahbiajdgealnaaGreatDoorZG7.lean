/-
  What the proof of the law rests on, part 7: walks of functions, and plain laws; each says its conditions itself.
-/
import Derived.Deep.Slices
import Derived.Lib.SmallJoins
import Derived.ChangeArms
import Derived.Test.YtahbiajdgealnaaGreatDoorRows
import Derived.Test.YtahbiajdgealnaaGreatDoorZG6
set_option maxRecDepth 20000
set_option linter.unusedVariables false
set_option maxHeartbeats 1600000
set_option linter.unusedSimpArgs false
namespace Go.Proofs.YtahbiajdgealnaaGreatDoor
open Go.RowKit Go
namespace Rt
def oD(x:Nat->Int):Int:=x 0*18446744073709551616+x 1
structure Ad(L:fI):Prop where
 up : ∀ i j,i<j->j<L.gn->oD (L.g i)<oD (L.g j)
 wf : ∀ q,q<L.gn->jO (L.g q 1)/\jO (L.g q 4)
 ga : ∀ q,q<L.gn->1<=L.g q 0/\L.g q 0<=6 /\ ∃ j,j<L.rn (L.g q 0-1).toNat/\L.rq (L.g q 0-1).toNat j=L.g q 1
section
variable {L:fI} {N:Nat} {v:EvM}
theorem WJ(a:jO v.req){x:Nat->Int}(hx:jO (x 1)):FM v x=true<->oD (qC v)<oD x:=by
 unfold FM oD jO at *;rw[Bool.or_eq_true,T_,Q_,Q_,Q_];show v.o<x 0\/x 0=v.o/\v.req<x 1<->v.o*18446744073709551616+v.req<x 0*18446744073709551616+x 1;omega
theorem LZ{a:Nat}{r:Int}(L':fI)(d:L'.rn=aH L.rn a (L.rn a+1))(f:L'.rq=aH L.rq a (aH (L.rq a) (L.rn a) r)):(∀ b y,(∃ j,j<L.rn b/\L.rq b j=y) -> ∃ j,j<L'.rn b/\L'.rq b j=y) /\ ∃ j,j<L'.rn a/\L'.rq a j=r:=by
 rw[d,f];unfold aH;refine⟨fun b y ⟨j,g,e⟩ => ?_,L.rn a,by rw[d_ rfl]; omega,by rw[d_ rfl,d_ rfl]⟩;by_cases c:b=a
 ·subst c;exact⟨j,by rw[d_ rfl]; omega,by rw[d_ rfl,b_ (by omega)]; exact e⟩
 exact⟨j,by rw[b_ c]; exact g,by rw[b_ c]; exact e⟩
attribute [local irreducible] fG dn in
theorem Oh(h:Ad L)(J:bS v=true)(M:gU v)(t:iU L v=0):Ad (mG L v):=by
 have z:=oz J;have m:=M.req;unfold iU at t;split at t
 ·cases t
 rename_i c1;obtain⟨w,x⟩:=LZ (L:=L) (a:=aO v) (r:=v.req) (mG L v) rfl rfl;have K : ∀ j,j<L.gn -> ¬ (L.g j 0=v.o/\L.g j 1=v.req):=fun j f e=>c1 (by
  obtain⟨_,_,q,b,y⟩:=h.ga j f;rw[e.1,e.2]at y;rw[e.1]at b;unfold fI.lH;rw[Df];exact⟨q,b,f_ y⟩)
 obtain⟨k,u⟩ : ∃ k,k=Fx.down (fun i=>FM v (L.g i)) L.gn:=⟨_,rfl⟩;have l:k<=L.gn:=by rw[u]; exact Fx.zy _ _
 have I : ∀ q,k<=q->q<L.gn->oD (qC v)<oD (L.g q):=fun q D d=>(WJ m (h.wf q d).1).1 (Fx.Jc (P:=fun i=>FM v (L.g i)) (n:=L.gn) (i:=q) (by omega) d);have H : ∀ q,q<k->oD (L.g q)<oD (qC v):=fun q D=>by
  obtain⟨j,rfl⟩ : ∃ j,k=j+1:=⟨k-1,by omega⟩;have d:=Fx.Jd (P:=fun i=>FM v (L.g i)) (n:=L.gn) (j:=j) u.symm;have E : ¬ oD (qC v)<oD (L.g j):=fun e=>by
   have:=(WJ m (h.wf j (by omega)).1).2 e;rw[this]at d; cases d
  have F:oD (L.g j)<oD (qC v):=by
   rcases Int.lt_trichotomy (oD (L.g j)) (oD (qC v))with c|c|c
   ·exact c
   ·exfalso;have G:=(h.wf j (by omega)).1;refine K j (by omega) ?_;unfold oD at c;have c:L.g j 0*18446744073709551616+L.g j 1=v.o*18446744073709551616+v.req:=c;unfold jO at G m;omega
   ·exact M_ c E
  by_cases e:q=j
  ·rw[e]; exact F
  ·have:=h.up q j (by omega) (by omega); omega
 have p:(mG L v).g=Fx.cO L.g k (qC v):=by rw[u]; rfl
 have s:(mG L v).gn=L.gn+1:=rfl;refine⟨fun i j N f => ?_,fun q b => ?_,fun q b => ?_⟩
 ·rw[s]at f;rw[p]
  rcases dY l (show i<L.gn+1 by omega)with rfl|⟨q,b,eq,q1,q2⟩
  ·rcases dY l f with rfl|⟨r,hr,er,w,x⟩
   ·omega
   rw[dK,er]; exact I r (by omega) hr
  rcases dY l f with rfl|⟨r,hr,er,w,x⟩
  ·rw[dK,eq]; exact H q (by omega)
  rw[eq,er]; exact h.up q r (by omega) hr
 ·rw[s]at b;rw[p]
  rcases dY l b with rfl|⟨r,hr,er,_,_⟩
  ·rw[dK]; exact⟨m,by show jO 0; unfold jO; omega⟩
  rw[er]; exact h.wf r hr
 rw[s]at b;rw[p]
 rcases dY l b with rfl|⟨r,hr,er,_,_⟩
 ·rw[dK]; exact⟨z.1,z.2.1,x⟩
 rw[er];obtain⟨A,B,C⟩:=h.ga r hr;exact⟨A,B,w _ _ C⟩
attribute [local irreducible] fG dn in
theorem Oi(h:Ad L)(w:bS v=true)(s:gU v)(u:iL L v=0):Ad (kQ L v):=by
 obtain⟨t,x⟩:=LZ (L:=L) (a:=aO v) (r:=v.req) (kQ L v) rfl rfl;have e : ∀ q,(kQ L v).g q=if q=Ap L v then aH (L.g (Ap L v)) 4 v.req else L.g q:=fun q=>rfl;have b : ∀ j p,(p=0\/p=1)->(kQ L v).g j p=L.g j p:=fun j p o=>by
  rw[e];by_cases c:j=Ap L v
  ·subst c; rw[d_ rfl]; rcases o with rfl|rfl <;> rfl
  ·rw[b_ c]
 refine⟨fun i j m n => ?_,fun q d => ?_,fun q d => ?_⟩
 ·unfold oD;rw[b i 0 (.inl rfl),b i 1 (.inr rfl),b j 0 (.inl rfl),b j 1 (.inr rfl)];exact h.up i j m n
 ·rw[b q 1 (.inr rfl)];refine⟨(h.wf q d).1,?_⟩;rw[e];by_cases c:q=Ap L v
  ·rw[d_ c]; exact s.req
  rw[b_ c]; exact(h.wf q d).2
 rw[b q 0 (.inl rfl),b q 1 (.inr rfl)];obtain⟨f,k,l⟩:=h.ga q d;exact⟨f,k,t _ _ l⟩
theorem Oj(h:Ad L)(e:gU v):Ad (dH L v):=by
 unfold dH;by_cases c:bQ L v=0
 ·rw[d_ c];have b:=(GU (jV c)).1;have a:dS L v=0:=by
   unfold bQ at c;rw[b_ (by rw[b]; decide)]at c;split at c; · cases c
   split at c; · cases c
   split at c; · cases c
   exact c
  have d:Ad (iM L v):=by
   unfold dS at a;unfold iM;by_cases f:v.kind=1
   ·rw[d_ f]; exact⟨h.up,h.wf,h.ga⟩
   rw[b_ f]at a ⊢;by_cases g:v.kind=2
   ·rw[d_ g]; exact⟨h.up,h.wf,h.ga⟩
   rw[b_ g]at a ⊢;by_cases i:v.kind=3
   ·rw[d_ i]at a ⊢; exact Oh h b e a
   rw[b_ i]at a ⊢;by_cases j:v.kind=4
   ·rw[d_ j]at a ⊢; exact Oi h b e a
   rw[b_ j]at a ⊢;by_cases k:v.kind=5
   ·rw[d_ k]; exact⟨h.up,h.wf,h.ga⟩
   rw[b_ k];by_cases l:v.kind=6
   ·rw[d_ l]; exact⟨h.up,h.wf,h.ga⟩
   ·rw[b_ l]; exact⟨h.up,h.wf,h.ga⟩
  exact⟨d.up,d.wf,d.ga⟩
 rw[b_ c]; exact h
theorem WK(k a:Nat):Ad (qK k a).core:=⟨fun i j _ h=>M_ h (z_ _),fun q h=>M_ h (z_ _),fun q h=>M_ h (z_ _)⟩
theorem gF.new(k l d e f c b g:Nat):gF (zi k l d e f c b) (qK k g).core where
 T:=⟨fun q=>⟨fun h=>(nomatch h),fun⟨i,h,_⟩=>M_ h (z_ _)⟩,rfl,fun i h=>M_ h (z_ _)⟩
 inn:=rfl
 left:=rfl
 known:=rfl
 row:=fun i h=>M_ h (z_ _)
 own:=fun a _=>rfl
 gi:=fun i j h=>M_ h (z_ _)
 gn:=rfl
 g1:=fun q h=>M_ h (z_ _)
 g2:=fun q h=>M_ h (z_ _)
 ask:=fun a r _=>⟨fun h=>(nomatch h),fun⟨j,h,_⟩=>M_ h (z_ _)⟩
 ga:=fun i h=>M_ h (z_ _)
 li:=fun i j h=>M_ h (z_ _)
structure StC(L:fI)(m:dU)(l:List Int)(gl:List JN):Prop where
 nn:l.length=L.nn
 gn:gl.length=L.gn
 n : ∀ k,k<L.nn->l.getD k 0=L.id k/\m.T.par (l.getD k 0)=L.par k/\EA m (l.getD k 0)=L.R k
 g : ∀ k,k<L.gn->(gl.getD k g0).x=L.g k
theorem StC.of{m:dU}{l:List Int}{c:List JN}(h:gF m L)(F:Inv0 L N)(u:Ad L)(B:l.Pairwise (· < ·) /\ ∀ k,k∈l<->m.T.has k=true)(s:GrS m c):StC L m l c:=by
 have w:=vJ B.1 (by
  rw[List.pairwise_map];exact(List.pairwise_lt_range (n:=L.nn)).imp_of_mem fun {a b} _ hb hab=>F.rise a b hab (O_.1 hb)) fun k=>by
  rw[B.2,h.T.has,List.mem_map];exact⟨fun⟨i,d,e⟩=>⟨i,O_.2 d,e⟩,fun⟨i,d,e⟩=>⟨i,O_.1 d,e⟩⟩
 have y:=vJ (by rw[List.pairwise_map]; exact s.up) (by
  rw[List.pairwise_map];exact(List.pairwise_lt_range (n:=L.gn)).imp_of_mem fun {a b} _ hb hab=>u.up a b hab (O_.1 hb)) fun k=>by
  rw[List.mem_map,List.mem_map];constructor
  ·rintro ⟨x,v,e⟩;obtain⟨i,d,p⟩:=s.mem x v;obtain⟨q,o,r⟩:=h.g2 i d;refine⟨q,O_.2 o,?_⟩;rw[r,<- p]; exact e
  ·rintro ⟨q,o,e⟩;obtain⟨j,G,C⟩:=h.g1 q (O_.1 o);obtain⟨x,v,E⟩:=s.all j G;refine⟨x,v,?_⟩;rw[<- e,<- C,<- E]; rfl
 have I:c.length=L.gn:=by have:=L_ List.length y; rwa [List.length_map,List.length_map,List.length_range]at this
 refine⟨by rw[w,List.length_map,List.length_range],I,fun k f => ?_,fun k f => ?_⟩
 ·have:l.getD k 0=L.id k:=by
   rw[w,r_,o_ (by rw[List.length_map,List.length_range]; exact f)];simp
  rw[this];exact⟨rfl,h.T.par k f,h.row k f⟩
 have t:k<c.length:=by omega
 have H:c.getD k g0∈c:=by rw[r_,o_ t]; exact R_ t
 have D:LQ (c.getD k g0)=oD (L.g k):=by
  have A:=L_ (fun z=>z.getD k 0) y;simp only[r_,List.getElem?_map,o_ t,List.getElem?_range f]at A;rw[r_,o_ t]; exact A
 obtain⟨i,d,p⟩:=s.mem _ H;obtain⟨q,o,r⟩:=h.g2 i d;have J:oD (L.g q)=oD (L.g k):=by rw[r,<- p,<- D]; rfl
 have:q=k:=by
  rcases Nat.lt_trichotomy q k with h5|h5|h5
  ·have:=u.up q k h5 f; omega
  ·exact h5
  ·have:=u.up k q h5 o; omega
 rw[p,<- r,this]
end
end Rt
end Go.Proofs.YtahbiajdgealnaaGreatDoor
namespace Go.Proofs.YtahbiajdgealnaaGreatDoor
open Go.RowKit Go.WideShapes Go.ChangeShapes Go.Deep
theorem RJ{w:World}{x:Addr}{v:Value}(h:w.cell? x=some v) : ∃ b a,x=⟨b,a,none⟩:=by
 obtain⟨b,a,c⟩:=x
 cases c with
 | none=>exact⟨b,a,rfl⟩
 | some q =>
   unfold World.cell? at h;simp at h;split at h <;> cases h
def At4(a k1 k2 c:IntKind)(w:World)(b off:Nat)(x0 x1 x2 d:Int):Prop :=
 w.cell? ⟨b,off,none⟩=some (.int a x0)/\w.cell? ⟨b,off+1,none⟩=some (.int k1 x1)/\w.cell? ⟨b,off+2,none⟩=some (.int k2 x2)/\w.cell? ⟨b,off+3,none⟩=some (.int c d)
def Wf4(a k1 k2 b:IntKind)(x0 x1 x2 c:Int):Prop:=(Lit.int a x0).wf=true/\(Lit.int k1 x1).wf=true/\(Lit.int k2 x2).wf=true/\(Lit.int b c).wf=true
def Sl4(g k1 k2 h:IntKind)(w:World)(a:Option Addr)(len:Nat)(c d e f:Nat->Int):Prop :=
 ∀ i,i<len->(∃ b j,a=some ⟨b,j,none⟩/\At4 g k1 k2 h w b (j+i*4) (c i) (d i) (e i) (f i))/\Wf4 g k1 k2 h (c i) (d i) (e i) (f i)
theorem Sl4.up{m k1 k2 n:IntKind}{w w':World}{a:Option Addr}{len:Nat}{g j k l:Nat->Int}(h:Sl4 m k1 k2 n w a len g j k l)(f:Below w.heap.size w w'):Sl4 m k1 k2 n w' a len g j k l:=by
 intro i q;obtain⟨⟨b,d,e,o,r,s,t⟩,hw⟩:=h i q;have c:=block_lt_of_cell o
 dsimp only at c
 exact⟨⟨b,d,e,(f.cell (p:=⟨b,d+i*4,none⟩) c).trans o,(f.cell (p:=⟨b,d+i*4+1,none⟩) c).trans r,(f.cell (p:=⟨b,d+i*4+2,none⟩) c).trans s,(f.cell (p:=⟨b,d+i*4+3,none⟩) c).trans t⟩,hw⟩
instance {g k1 k2 i:IntKind} {w w':World} {a:Option Addr} {len:Nat} {c d e f:Nat->Int}:Rt.Tr w w' (Sl4 g k1 k2 i w a len c d e f) (Sl4 g k1 k2 i w' a len c d e f):=⟨fun b h=>h.up b⟩
def zk(P:Program):Nat->TypeId->Option (List (Option IntKind))
 | 0,_=>none
 | d+1,t=>match P.underlying t with
   | some (.int k)=>some [some k]
   | some .bool=>some [none]
   | some (.array n e)=>(zk P d e).bind fun a=>if P.cellsOf e=a.length/\P.cellsOf t=n*a.length then some (List.replicate n a).flatten else none
   | some (.struct fs)=>(fs.toList.foldlM (fun l f=>(zk P d f.type).bind fun a=>if f.offset=l.length/\P.cellsOf f.type=a.length then some (l++a)else none) []).bind fun l=>if P.cellsOf t=l.length then some l else none
   | _=>none
def Sj(k:Option IntKind)(v:Value):Prop:=match k with|some k => ∃ n,v = .int k n/\(Lit.int k n).wf=true|none => ∃ b,v = .bool b
def abn(ks:List (Option IntKind))(cs:List Value):Prop:=cs.length=ks.length /\ ∀(j:Nat) (k:Option IntKind),ks[j]? = some k -> ∃ v,cs[j]? = some v/\Sj k v
theorem Dh{ks:List (Option IntKind)}{k:Option IntKind} : ∀(n j:Nat),(List.replicate n ks).flatten[j]? = some k->ks[j % ks.length]? = some k/\j / ks.length<n
 | 0,j,h=>by simp at h
 | n+1,j,h=>by
   rw[List.replicate_succ,List.flatten_cons]at h;by_cases b:j<ks.length
   ·rw[List.getElem?_append_left b]at h;rw[Nat.mod_eq_of_lt b,Nat.div_eq_of_lt b]; exact⟨h,by omega⟩
   ·rw[List.getElem?_append_right (by omega)]at h;have c:0<ks.length:=by
     rcases Nat.eq_zero_or_pos ks.length with e|e
     ·obtain⟨a,_⟩:=Dh n _ h;have:=(List.getElem?_eq_some_iff.1 a).1; omega
     ·exact e
    obtain⟨a,d⟩:=Dh n _ h;rw[Nat.mod_eq_sub_mod (by omega),Nat.div_eq_sub_div c (by omega)];exact⟨a,by omega⟩
section
variable {H:Type} {enc:TypeId × Value->H} {P:Program} {w:World} {base:Nat} {spare:Nat->Bool} {held:Bool}
theorem Gi{ks:List (Option IntKind)}{cs:List Value}{o s j:Nat}{k:Option IntKind}(h:abn ks ((cs.drop o).take s))(e:s=ks.length)(b:ks[j]? = some k) : ∃ v,cs[o+j]? = some v/\Sj k v:=by
 obtain⟨n,a,c⟩:=h.2 j k b;have d:=(List.getElem?_eq_some_iff.1 b).1;rw[List.getElem?_take_of_lt (by omega),List.getElem?_drop]at a;exact⟨n,a,c⟩
theorem Di : ∀(d:Nat) (t:TypeId) (q:List (Option IntKind)),zk P d t=some q -> ∀(C:Nat) (p:List Value) (x:DataW H × List MemPlace),DataW.trod enc P w base spare held C t p=some x->abn q p
 | 0,_,_,h=>by simp[zk]at h
 | d+1,t,q,h=>by
   intro C p x z;unfold zk at h;split at h
   ·rename_i k hu;simp only[Option.some.injEq]at h; subst h;obtain⟨n,rfl,_,U⟩:=DataW.trod_int hu z;refine⟨rfl,fun j W a => ?_⟩
    match j,a with
    | 0,a=>simp at a; subst a; exact⟨_,rfl,n,rfl,U⟩
    | j+1,a=>simp at a
   ·rename_i hu;simp only[Option.some.injEq]at h; subst h;obtain⟨b,rfl,_⟩:=DataW.trod_bool hu z;refine⟨rfl,fun j W a => ?_⟩
    match j,a with
    | 0,a=>simp at a; subst a; exact⟨_,rfl,b,rfl⟩
    | j+1,a=>simp at a
   ·rename_i n e hu;obtain⟨I,S,h⟩:=Option.bind_eq_some_iff.1 h;split at h
    ·rename_i hc;simp only[Option.some.injEq]at h; subst h;obtain⟨Y,m,_,_,c,F,J⟩:=DataW.trod_array hu z;refine⟨by rw[c,hc.2]; simp,fun j k a => ?_⟩;obtain⟨r,A⟩:=Dh n j a;have u:=J (j / I.length) A;rw[o_ (by omega),hc.1]at u;have:=Gi (Di d e I S _ _ _ u) rfl r;rw[Nat.mul_comm,Nat.div_add_mod]at this;exact this
    ·cases h
   ·rename_i fs hu;obtain⟨l,c,h⟩:=Option.bind_eq_some_iff.1 h;split at h
    ·rename_i hc;simp only[Option.some.injEq]at h; subst h;obtain⟨Y,m,_,_,T,F,K⟩:=DataW.trod_struct hu z;refine⟨by rw[T,hc],?_⟩;have M : ∀ f,f∈fs.toList -> ∃ y,DataW.trod enc P w base spare held m f.type ((p.drop f.offset).take (P.cellsOf f.type))=some y:=by
      intro f N;obtain⟨i,u,e⟩:=List.mem_iff_getElem.1 N;have E:i<fs.size:=(by simpa using u);have r:fs[i]? = some f:=(by rw[Array.getElem?_eq_getElem E]; simpa using e);have:=K i f r;rw[o_ (by rw[F]; exact E)]at this;exact⟨_,this⟩
     have X : ∀(L:List Field) (o:List (Option IntKind)),(∀ f,f∈L -> ∃ y,DataW.trod enc P w base spare held m f.type ((p.drop f.offset).take (P.cellsOf f.type))=some y)->(∀(j:Nat) (k:Option IntKind),o[j]? = some k -> ∃ v,p[j]? = some v/\Sj k v) -> ∀ l,L.foldlM (fun l f=>(zk P d f.type).bind fun q=>if f.offset=l.length/\P.cellsOf f.type=q.length then some (l++q)else none) o=some l -> ∀(j:Nat) (k:Option IntKind),l[j]? = some k -> ∃ v,p[j]? = some v/\Sj k v:=by
      intro L
      induction L with
      | nil=>intro o _ B l c; simp at c; subst c; exact B
      | cons f L ih =>
        intro o D B l c;rw[List.foldlM_cons]at c;obtain⟨Z,r,A⟩:=Option.bind_eq_some_iff.1 c;obtain⟨G,R,s⟩:=Option.bind_eq_some_iff.1 r;split at s
        ·rename_i hcc;simp only[Option.some.injEq]at s; subst s;refine ih (o++G) (fun g O=>D g (List.mem_cons_of_mem _ O)) (fun j k a => ?_) l A;by_cases Q:j<o.length
         ·rw[List.getElem?_append_left Q]at a; exact B j k a
         ·rw[List.getElem?_append_right (by omega)]at a;obtain⟨y,V⟩:=D f (List.mem_cons_self ..);have:=Gi (Di d f.type G R _ _ _ V) hcc.2 a;rw[hcc.1,show o.length+(j-o.length)=j by omega]at this;exact this
        ·cases s
     exact X fs.toList [] M (fun j k a=>by simp at a) l c
    ·cases h
   ·cases h
end
section
variable {H:Type} {enc:TypeId × Value->H} {P:Program} {w:World} {base:Nat} {spare:Nat->Bool} {held:Bool}
theorem RL{t e:TypeId}{ks:List (Option IntKind)}{fuel D:Nat}{cs:List Value}{x:DataW H × List MemPlace}(S:P.underlying t=some (.slice e))(O:zk P D e=some ks)(F:P.cellsOf e=ks.length)(C:0<ks.length)
 (h:DataW.trod enc P w base spare held fuel t cs=some x) : ∃ a c l,cs = [.slice a c l]/\c<=maxLen/\c<=l /\ ∃ X:Nat->Nat->Value,(∀ i,i<c -> ∀(j:Nat) (k:Option IntKind),ks[j]? = some k->Sj k (X i j))/\Fx.nT w a c ks.length (Fx.flat ks.length X):=by
 rcases open_slice S h with ⟨rfl,_⟩|⟨a',c,l,m,n,D',Pl,rfl,_,hl,hm,hmm,_,hx⟩
 ·exact⟨none,0,0,rfl,by unfold maxLen; omega,A_ _,fun _ _=>undef,fun i d=>M_ d (by omega),fun h=>M_ h (by omega)⟩
 have W:c<=m:=by rw[hmm]; split <;> omega
 have r : ∀ i j:Nat,∃ q:Value,i<c -> ∀ k,ks[j]? = some k->w.cell? (a'.add (i*ks.length+j))=some q/\Sj k q:=by
  intro i j;by_cases d:i<c/\j<ks.length
  ·obtain⟨U,A,J⟩:=hx i (by omega);rw[F]at A;obtain⟨_,V,M⟩:=World.cells?_some A;obtain⟨q,y,z⟩:=(Di _ _ _ O _ _ _ J).2 j _ (o_ d.2);refine⟨q,fun _ k v => ?_⟩;rw[o_ d.2,Option.some.injEq]at v;subst v;have E:=M j (by omega);rw[add_add]at E;exact⟨by rw[<- y]; simpa using E,z⟩
  ·refine⟨undef,fun y k z=>M_ ⟨y,(List.getElem?_eq_some_iff.1 z).1⟩ d⟩
 refine⟨some a',c,l,rfl,by omega,hl,fun i j=>Classical.choose (r i j),fun i d j k v=>(Classical.choose_spec (r i j) d k v).2,fun K => ?_⟩;have G:a'.add (0*ks.length+0)=a':=by unfold Addr.add; simp
 obtain⟨Z,L⟩:=r 0 0;have Q:=o_ C;have B:=(L K _ Q);have g:=B.1;rw[G]at g;have o : ∃ b f,a'=⟨b,f,none⟩:=by
  have u:=B.2;unfold Sj at u;split at u
  ·obtain⟨Y,rfl,_⟩:=u; exact RJ g
  ·obtain⟨T,rfl⟩:=u;unfold World.cell? at g
   cases a' with
   | mk b f sp =>
     cases sp with
     | none=>exact⟨b,f,rfl⟩
     | some s=>simp at g; split at g <;> simp_all
 obtain⟨b,f,o⟩:=o;refine⟨b,f,by rw[o],fun p R => ?_⟩;have N:p % ks.length<ks.length:=J_ _ C;have d:=Nat.div_lt_of_lt_mul (by rw[Nat.mul_comm]; exact R);have:=(Classical.choose_spec (r (p / ks.length) (p % ks.length)) d _ (o_ N)).1;have I:a'.add (p / ks.length*ks.length+p % ks.length)=⟨b,f+p,none⟩:=by rw[o,addr_add,Nat.mul_comm,Nat.div_add_mod]
 exact(L_ w.cell? I).symm.trans this
end
section
variable {H:Type} {enc:TypeId × Value->H} {P:Program} {w:World}
theorem nT.vI{w:World}{a:Option Addr}{n s:Nat}{x y:Nat->Value}(h:Fx.nT w a n s x)(e : ∀ p,p<n*s->x p=y p):Fx.nT w a n s y:=fun f=>by
 obtain⟨b,j,d,g⟩:=h f;exact⟨b,j,d,fun i c=>by rw[<- e i c]; exact g i c⟩
end
end Go.Proofs.YtahbiajdgealnaaGreatDoor
namespace Go.Proofs.YtahbiajdgealnaaGreatDoor
open Go.RowKit Rt
open Fx (Lv sN Ln Ws Wl Wr Sb Wk Wb Wx Wo xY yu gX yJ tO yt aA aP aZ ev flat dD aR nT bM cells_one iA gY bR bY bZ gJ gL)
namespace Rt
def kL(L:fI)(na:Option Addr)(nc:Nat)(ga:Option Addr)(gc:Nat):vk:=⟨L.inn,L.left,L.known,na,L.nn,nc,ga,L.gn,gc⟩
def Sk(L:fI):Nat->Nat->Value:=fun k=>jQ (L.id k) (L.par k) (L.R k)
def grL(L:fI):Nat->Nat->Value:=fun k=>jw (L.g k)
structure LWf(L:fI):Prop where
 n : ∀ k,k<L.nn->jO (L.id k)/\jO (L.par k) /\ ∀ p,p<54->qJ (L.R k p)
 g : ∀ k,k<L.gn->qJ (L.g k 0)/\jO (L.g k 1)/\jO (L.g k 2)/\qJ (L.g k 3)/\jO (L.g k 4)
 k : ∀ i,i<6->jO (L.known i)
 bn:L.nn<=900000
 bg:L.gn<=900000
theorem LWf.of{L:fI}{N:Nat}(a:Inv0 L N)(o:A8 L)(m:Ad L)(A:N<=900000):LWf L where
 n:=fun k c=>by
  have y:=a.pos k c;have z:=a.top k c;have f:=gH (a.may k c);refine⟨⟨by omega,by omega⟩,?_,fun p r=>by have:=f p r; exact⟨by omega,by omega⟩⟩
  rcases a.up k c with e|⟨j,b,e⟩
  ·rw[e]; exact⟨by omega,by omega⟩
  ·have h:=a.pos j b;have l:=a.top j b;rw[<- e]; exact⟨by omega,by omega⟩
 g:=fun k c=>by
  obtain⟨d,u,v,w,x⟩:=o.gb k c;obtain⟨s,t⟩:=m.wf k c;obtain⟨j,b,e⟩:=iG.1 d;rw[a.CP]at b;rw[(a.tid j b).1]at e;have h:=a.pos j b;have l:=a.top j b;exact⟨⟨by omega,by omega⟩,s,by rw[<- e]; exact⟨by omega,by omega⟩,⟨by omega,by omega⟩,t⟩
 k:=fun i q=>by have:=a.kn i q; exact⟨by omega,by omega⟩
 bn:=by have:=a.nn; omega
 bg:=by have:=a.gn; omega
end Rt
structure Qa(w:World)(s:vk)(L:fI):Prop where
 e:s=kL L s.na s.nc s.ga s.gc
 n:nT w s.na L.nn 56 (flat 56 (Sk L))
 g:nT w s.ga L.gn 5 (flat 5 (grL L))
theorem Qa.up{w w':World}{s:vk}{L:fI}(h:Qa w s L)(a:Below w.heap.size w w'):Qa w' s L:=⟨h.e,h.n.up a rfl,h.g.up a rfl⟩
instance {w w':World} {s:vk} {L:fI}:Rt.Tr w w' (Qa w s L) (Qa w' s L):=⟨fun b h=>h.up b⟩
theorem Qa.ldg{w:World}{p:Nat}{m:lV}(h:DF w p m):Qa w m.s m.core:=⟨rfl,h.an,h.ag⟩
theorem Qa.of{w:World}{B:Nat}{m:dU}{s:vk}{l:List Int}{p:List JN}{L:fI}{N:Nat}(h:StQ w B m s l p)(d:gF m L)(r:Inv0 L N)(q:Ad L):Qa w s L:=by
 have e:=StC.of d r q h.ls h.gs;have f:s.nn=L.nn:=by rw[h.nn,e.nn]
 have i:s.gn=L.gn:=by rw[h.gn,e.gn]
 refine⟨?_,?_,?_⟩
 ·cases s
  unfold kL;have a:=h.inn;have b:=h.left;have c:=h.known;simp only at a b c f i ⊢;rw[a,b,c,d.inn,d.left,d.known,f,i]
 ·have:=h.n.arr;rw[f]at this;refine nT.vI this<|bM fun k o j _ => ?_;obtain⟨a,b,c⟩:=e.n k o;unfold WG Sk;rw[b,c,a]
 have:=h.g.arr;rw[i]at this;refine nT.vI this<|bM fun k o j _ => ?_;unfold XQ grL;rw[e.g k o]
namespace Rt
def GX(x y:Value):Nat->Value:=fun q=>if q=0 then x else y
theorem aiz(x y v:Value):dD (GX x y) 0 v=GX v y:=by funext q; unfold dD GX; split <;> rfl
theorem aiA(x y v:Value) : ∀ j,j<2->dD (GX x y) 1 v j=GX x v j:=fun j a=>by
 unfold dD GX
 rcases j with _|_|j
 ·rfl
 ·rfl
 ·omega
def IE(a:Nat->Nat):Nat->Value:=fun i=>(pt (a i))
def IG(w:World)(B n:Nat)(b:Nat->Nat)(a:Nat->lV):Prop := ∀ i,i<n->wF w B (b i) (a i)
theorem IG.up{w w':World}{B n:Nat}{b:Nat->Nat}{a:Nat->lV}(h:IG w B n b a)(c:Below w.heap.size w w'):IG w' B n b a:=fun i d=>(h i d).up c
instance {w w':World} {B n:Nat} {c:Nat->Nat} {a:Nat->lV}:Rt.Tr w w' (IG w B n c a) (IG w' B n c a):=⟨fun b h=>h.up b⟩
theorem IG.kV{w w':World}{B n:Nat}{c:Nat->Nat}{b:Nat->lV}{a:List TypeId}(h:IG w B n c b)(e:iA a w w')(f:(KY.all fun T => !a.contains T)=true):IG w' B n c b:=fun i d=>(h i d).kV e f
instance {w w':World} {B n:Nat} {d:Nat->Nat} {c:Nat->lV} {a:List TypeId}:Rt.Tc a w w' (IG w B n d c) (IG w' B n d c) (KY.all fun T => !a.contains T):=⟨fun b h e=>h.kV b (by simpa using e)⟩
theorem IG.put{w:World}{B n o p:Nat}{b:Nat->Nat}{a:Nat->lV}{m:lV}(h:IG w B n b a)(d:wF w B p m):IG w B n (aH b o p) (aH a o m):=fun i c=>by
 unfold aH;by_cases e:i=o
 ·rw[d_ e,d_ e]; exact d
 ·rw[b_ e,b_ e]; exact h i c
theorem IG.snoc{w:World}{B n p:Nat}{b:Nat->Nat}{a:Nat->lV}{m:lV}(h:IG w B n b a)(c:wF w B p m):IG w B (n+1) (aH b n p) (aH a n m):=fun i d=>by
 unfold aH;by_cases e:i=n
 ·rw[d_ e,d_ e]; exact c
 ·rw[b_ e,b_ e]; exact h i (by omega)
theorem aeW{n p:Nat}{a:Nat->Nat}{z:Nat->Value} : ∀ j,j<(n+1)*1->gY (IE a) (n*1) (aZ z (0*1) 1 (fun _=>(pt p))) j=IE (aH a n p) j:=by
 intro j b;unfold gY IE aH;by_cases h:j<n*1
 ·rw[d_ h,b_ (by omega)]
 rw[b_ h,d_ (by omega)];unfold aZ;rw[d_ (by omega)]
theorem WL{o p:Nat}{a:Nat->Nat}:dD (IE a) o (pt p)=IE (aH a o p):=by
 funext j; unfold dD IE aH
 by_cases h:j=o
 ·rw[d_ h,d_ h]
 rw[b_ h,b_ h]
theorem aeX{n:Nat}{e:Nat->EvM}{v:EvM}{z:Nat->Value} : ∀ j,j<(n+1)*14->gY (evX e) (n*14) (aZ z (0*14) 14 (bV v)) j=evX (aH e n v) j:=fun j a =>
 (Fx.vE j a).trans (bM (fun i _ q _=>by unfold Fx.qG aH; split <;> rfl) j a)
structure WM where
 n:Nat
 la:Option Addr
 lc:Nat
 pl:Nat->Nat
 ml:Nat->lV
 an:Nat
 aa:Option Addr
 ac:Nat
 ev:Nat->EvM
end Rt
structure oM(w:World)(B p:Nat)(M:WM)(T:Nat):Prop where
 c:aP w p 2 (GX (.slice M.la M.n M.lc) (.slice M.aa M.an M.ac)) 44
 l:Fx.Own w B 72 1 (.slice M.la M.n M.lc) M.n (IE M.pl)
 a:Fx.Own w B 32 14 (.slice M.aa M.an M.ac) M.an (evX M.ev)
 g:IG w B M.n M.pl M.ml
 inv : ∀ i,i<M.n->Inv (M.ml i).core T
 wf : ∀ k,k<M.an->gU (M.ev k)
 may : ∀ k,k<M.an->bS (M.ev k)=true
 sm : ∀ k,k<M.an->oL (M.ev k)
 cz:Cz M.n M.an M.ev fun o=>(M.ml o).s.known
 pB:B<=p
 n1:1<=M.n
 n6:M.n<=6
def aeY:List Nat := [44,72,32]++KY
theorem oM.up{w w':World}{B p T:Nat}{M:WM}(h:oM w B p M T)(b:Below w.heap.size w w'):oM w' B p M T := { h with c:=h.c.cZ (Sb b) (u_ h.c.lt),l:=h.l.up b,a:=h.a.up b,g:=h.g.up b }
instance {w w':World} {B p T:Nat} {M:WM}:Rt.Tr w w' (oM w B p M T) (oM w' B p M T):=⟨fun b h=>h.up b⟩
theorem oM.kV{w w':World}{B p T:Nat}{M:WM}{e:List TypeId}(h:oM w B p M T)(b:iA e w w')(j:(aeY.all fun T => !e.contains T)=true):oM w' B p M T:=by
 have i : ∀ d∈aeY,e.contains d=false:=fun d f=>by
  have:=List.all_eq_true.1 j d f
  simpa using this
 exact { h with c:=h.c.kV b (i _ (by decide)),l:=h.l.kV b (i _ (by decide)),a:=h.a.kV b (i _ (by decide)),g:=h.g.kV b (List.all_eq_true.2 fun T f=>List.all_eq_true.1 j T (List.mem_append_right _ f)) }
instance {w w':World} {B p T:Nat} {M:WM} {a:List TypeId}:Rt.Tc a w w' (oM w B p M T) (oM w' B p M T) (aeY.all fun T => !a.contains T):=⟨fun b h e=>h.kV b (by simpa using e)⟩
theorem ZK{w:World}{B p k a:Nat}(d:aP w p 27 (mX (qK k a)) 71)(f:aP w a 1 (fun _ => .slice none 0 0) 123)(h1:B<=p)(b:B<=a):wF w B p (qK k a) where
 c:=d
 n:=tO _ _ _ _ _
 g:=tO _ _ _ _ _
 tc:=f
 t:=tO _ _ _ _ _
 r:=⟨fun _ _=>tO _ _ _ _ _,fun _ _ _ _ _ _ e=>by cases e⟩
 pB:=h1
 tB:=b
 bn:=K_ _
 bg:=K_ _
 bt:=K_ _
 br:=fun _ _=>K_ _
theorem Rt.BU(k a:Nat):Inv (qK k a).core 0 where
 CP:=rfl
 nn:=K_ _
 tid:=fun _ h=>M_ h (z_ _)
 rise:=fun _ _ _ h=>M_ h (z_ _)
 pos:=fun _ h=>M_ h (z_ _)
 top:=fun _ h=>M_ h (z_ _)
 up:=fun _ h=>M_ h (z_ _)
 dep:=fun _=>⟨0,K_ _,by show(-1:Int)<0; decide⟩
 gn:=A_ _
 rn:=fun _ _=>A_ _
 may:=fun _ h=>M_ h (z_ _)
 g47:=fun _ h=>M_ h (z_ _)
 kn:=fun _ _=>⟨N_ _,by show(0:Int)<_; decide⟩
 s:=⟨fun _ h=>M_ h (z_ _),fun _ h=>M_ h (z_ _)⟩
 b:=⟨fun _ _=>N_ _,fun _ h=>M_ h (z_ _),fun _ _ _ h=>M_ h (z_ _)⟩
set_option maxRecDepth 20000 in
theorem Ol(n:Nat)(w:World)(V:1<=n)(W:n<=6) :
 Calls Tryz.prog 12 #[au (n:Int)] w fun e w' => ∃ p M,e = .returned (pt p)/\M.n=n/\M.an=0/\(∀ i,(M.ml i).core=(qK n 0).core)/\oM w' w.heap.size p M 0/\Below w.heap.size w w':=by
 refine Kent Tryz.func12 30 ?_;refine ay<|av (.pointer none)<|aD<|ay<|av (.agg (aA 2 (fun _ => .slice none 0 0)))<|rE fun b P lN X s1 z1 => ?_;have b1:=bF s1.old (Below.refl w.heap.size w);have tN:=iy lN;refine av (pt b)<|aD<|Ws<|ay<|av (au 0)<|aD<|Wb ?_;have m2:aP P b 2 (GX (.slice none 0 0) (.slice none 0 0)) 44:=X.congr (fun j _=>by unfold GX; split <;> rfl)
 have m3:Fx.Own P w.heap.size 72 1 (.slice none 0 0) 0 (IE (fun _=>0)):=tO _ _ _ _ _;have m4:IG P w.heap.size 0 (fun _=>0) (fun _=>qK n 0):=fun _ h=>M_ h (z_ _);refine Wo (fun f G => ∃ k:Nat,∃ a:Option Addr,∃ u:Nat,∃ t:Nat->Nat,∃ r:Nat->lV,k<=n/\(∀ i,∃ z,r i=qK n z)/\f 0=au (n:Int)/\f 3=(pt b)/\f 4=au (k:Int)/\aP G b 2 (GX (.slice a k u) (.slice none 0 0)) 44/\Fx.Own G w.heap.size 72 1 (.slice a (k) (u)) k (IE t)/\IG G w.heap.size k t r/\Below w.heap.size w G) (fun f _=>(n-(intOf (f 4)).toNat)) ⟨0,none,0,(fun _=>0),(fun _=>qK n 0),by omega,(fun _=>⟨0,rfl⟩),Fx.ic,(by rfl),Fx.ic,m2,m3,m4,b1⟩ ?_;rintro f1 w2 ⟨k,a,u,t,r,hk,F,J,E,K,m5,m6,m7,A⟩;refine Ws<|ay<|aT K<|aT J ?_;by_cases S:(k:Int)<(n:Int)
 ·refine Lv aG (gN S)<|aD<|aL<|Wk<|sN<|Ws<|Wb<|ay<|aT J<|lU (aha n _ V W) ?_;rintro e9 w3 ⟨d,O,T,hp3,_,hb3,hc3,ht3,aqF⟩;refine⟨.tuple #[(pt d),au 0],T,?_⟩;clear T;have⟨N,m9,m10,Q⟩:=nO hb3 m5 m6 m7 A;have hL1:wF w3 w.heap.size d (qK n O):=ZK hc3 ht3 (m_ A.size hp3) (m_ A.size aqF);refine av (.tuple #[(pt d),au 0])<|av (pt d)<|av (au 0)<|av (pt d)<|av (au 0)<|aD<|Wl<|aT E<|aT E<|av (pt b)<|av (pt b)<|Lv (.slice a (k) (u)) (aM N.aI 0)<|av (pt d)<|xY (vs := [(0,(pt d))]) (s:=1) (zc:=fun _ => .pointer none) (y:=aZ (fun j => .pointer none) (0*1) 1 (fun _=>(pt d))) (by rfl) rfl rfl Tryz.underlying41 (by kernel_rfl) (by rfl) (by rfl) (by kernel_rfl) (by rw[aR (off:=0*1) (s:=1) (y:=fun _=>(pt d)) rfl (cells_one (by rfl)) (by rfl)]; rfl) rfl fun g2 w4 I Y s3 z2 => ?_;have⟨m12,L,m14,m15,H⟩:=tQ s3.old N m9 m10 hL1 Q;have qW:=iT I Q.size;have CX:=cu I N.lt;have ze:(.slice a (k) (u):Value).ownBlock≠some g2:=by rw[I]; exact m9.jo (A_ _)
  have zY:=Y.lt;refine yu (B:=w.heap.size) (s:=1) (bytes:=8) (k:=k) (m:=1) (v := .slice a (k) (u)) (x:=IE t) (by rfl) rfl rfl rfl Tryz.underlying41 (by kernel_rfl) (by kernel_rfl) rfl rfl L Y.aI (uI (fun _=>rfl)) (by omega) (by omega) (by omega) H.size fun D C w5 ho1 U sH hlt1 => ?_;have gD:=yJ U L;have⟨Z,m18,m19⟩:=Ec gD m12 m14 m15;have m16:Fx.Own w5 w.heap.size 72 1 (bO D (k+1) C) (k+1) (IE (aH t k d)):=(ho1.congr (fun j hj=>aeW j hj));have R:Below w.heap.size w w5:=yt H U H.size (fun q hq=>(L.ge hq).1);refine av (pt b)<|av (pt b)<|jh Z 0 (bO D (k+1) C) fun w6 m20 s4 z3 => ?_;have m21:aP w6 b 2 (GX (bO D (k+1) C) (.slice none 0 0)) 44:=m20.to (aiz _ _ _);have jv:=gX s4 Z.ty;have⟨m22,m23,m24⟩:=Ec jv m18 m19 m16;have b6:=s4.below R R.size (by omega);refine Ln<|bR<|sN<|Wl<|aT K<|Lv (au ((k:Int)+1)) eU<|av (au ((k:Int)+1))<|Ln ?_;have nP:IG w6 w.heap.size (k+1) (aH t k d) (aH r k (qK n O)):=m22.snoc m23
  skip
  refine gL ⟨k+1,(some ⟨D,0,none⟩),C,(aH t k d),(aH r k (qK n O)),by omega,(fun i=>by unfold aH; split <;> first|exact⟨_,rfl⟩|exact F i),(J.trans Fx.ic),E,Fx.ic,m21,m24,nP,b6⟩ ?_
  show(n-(intOf (au ((k:Int)+1))).toNat)<_;simp only[K,intOf]; omega
 refine Lv aF (gP S)<|aD<|aK<|Wx<|bY<|gJ<|bZ<|sN<|ay<|aT E<|av (pt b)<|aD<|Wr<|aJ (pt b) ?_;obtain rfl:k=n:=by omega
 exact⟨b,⟨k,a,u,t,r,0,none,0,fun _=>⟨0,0,fun _=>0,0,0,0,0,0,0⟩⟩,rfl,rfl,rfl,(fun i=>by obtain⟨z,e⟩:=F i; show(r i).core=_; rw[e]; rfl),{ c:=m5,l:=m6,a:=tO _ _ _ _ _,g:=m7,inv:=fun i _=>by obtain⟨z,e⟩:=F i; show Inv (r i).core 0; rw[e]; exact BU k z,wf:=fun _ h=>M_ h (z_ _),may:=fun _ h=>M_ h (z_ _),sm:=fun _ h=>M_ h (z_ _),cz:=Cz.zero k (fun o _=>by obtain⟨z,e⟩:=F o; show(r o).s.known=_; rw[e]; rfl),pB:=tN,n1:=V,n6:=W },A⟩
end Go.Proofs.YtahbiajdgealnaaGreatDoor
namespace Go.Proofs.YtahbiajdgealnaaGreatDoor
open Go.RowKit Go Rt
namespace Rt
section
variable {L:fI} {N:Nat} {v:EvM}
theorem Om(b:Inv0 L N)(h:A8 L):A8 (dH L v):=by
 unfold dH;by_cases c:bQ L v=0
 ·rw[d_ c];have a:=(GU (jV c)).1;have d:dS L v=0:=by
   unfold bQ at c;rw[b_ (by rw[a]; decide)]at c;split at c; · cases c
   split at c; · cases c
   split at c; · cases c
   exact c
  have:=Ih b h a d;exact⟨this.us,this.gb⟩
 rw[b_ c]; exact h
def zl(L:fI)(x i:Int):Int:=if L.node x<0 then 0 else cB (L.R (L.node x).toNat) i
theorem Oo(i:Int):cB Gd i=0:=by
 unfold cB;by_cases c:(gG i&&may Gd)=true
 ·rw[d_ c];rw[T_]at c;obtain⟨a,d,e,b⟩:=rO c.1;have:=zH (gH c.2) a d;rw[b,this]; rfl
 rw[b_ c]
theorem gF.local{m:dU}(h:gF m L)(a:Inv0 L N)(x i:Int):cB (bA m x) i=zl L x i:=by
 unfold bA zl;by_cases c:L.node x<0
 ·rw[b_ (by rw[(h.LY a x).2 c]; decide),d_ c]; exact Oo i
 rw[d_ ((h.node a x).2 (by omega)),b_ c,h.rk a (by omega)]
structure II(m m':dU):Prop where
 et:m'.tp=m.tp
 em:m'.mb=m.mb
 ep:m'.pb=m.pb
 er:m'.rb=m.rb
 eg:m'.gb=m.gb
 ea:m'.ab=m.ab
theorem II.refl(m:dU):II m m:=⟨rfl,rfl,rfl,rfl,rfl,rfl⟩
theorem II.trans{a b c:dU}(h:II a b)(k:II b c):II a c:=⟨k.et.trans h.et,k.em.trans h.em,k.ep.trans h.ep,k.er.trans h.er,k.eg.trans h.eg,k.ea.trans h.ea⟩
end
end Rt
structure zP(w:World)(B lp:Nat)(m:dU)(L:fI)(N:Nat):Prop where
 q:mh w B lp m
 s:gF m L
 i:Inv0 L N
 u:A8 L
 g:Ad L
section
variable {w w':World} {B lp:Nat} {m:dU} {L:fI} {N:Nat} {v:EvM}
theorem zP.up(h:zP w B lp m L N)(a:Below w.heap.size w w'):zP w' B lp m L N := { h with q:=h.q.up a }
instance:Rt.Tr w w' (zP w B lp m L N) (zP w' B lp m L N):=⟨fun b h=>h.up b⟩
theorem zP.kV{a:List TypeId}(h:zP w B lp m L N)(b:Fx.iA a w w')(c:(a.contains 106 || a.contains 135)=false):zP w' B lp m L N := { h with q:=h.q.kV b c }
instance {a:List TypeId}:Rt.Tc a w w' (zP w B lp m L N) (zP w' B lp m L N) (!(a.contains 106 || a.contains 135)):=⟨fun b h e=>h.kV b (by simpa using e)⟩
theorem zP.weak{a:Nat}(h:zP w B lp m L N)(b:a<=B):zP w a lp m L N := { h with q:=h.q.weak b }
theorem zP.mono{N':Nat}(h:zP w B lp m L N)(a:N<=N'):zP w B lp m L N' := { h with i:=h.i.mono a }
theorem zP.wf(h:zP w B lp m L N)(a:N<=900000):LWf L:=LWf.of h.i h.u h.g a
theorem mh.Gj(h:mh w B lp m)(a:Fx.jZ (Vu m lp w.heap.size) w w')(c:B<=w.heap.size):Below B w w':=⟨a.os,a.tape,a.output,a.size,fun k d=>a.block k (by omega) fun b=>by
 rcases b with b|b
 ·have:=(h.ltS b).1; omega
 ·omega⟩
theorem mh.typed(h:mh w B lp m)(d:Fx.jZ (Vu m lp w.heap.size) w w'):Fx.GD [106] w w':=⟨d.os,d.tape,d.output,d.size,fun k T b e=>d.block k b.ltw fun f=>by
 rcases f with (rfl|rfl|rfl|rfl|rfl|rfl)|f
 ·have:=Fx.Ty.only h.c.ty b;rw[this]at e; simp at e
 ·exact h.t.map.sF b
 ·exact h.p.sF b
 ·exact h.r.sF b
 ·exact h.g.sF b
 ·exact h.a.sF b
 ·have:=b.ltw; omega⟩
theorem aeZ{B:Nat}{a b c:World}(h:Below a.heap.size a b)(e:Below B b c)(d:a.heap.size<=B):Below a.heap.size a c:=h.trans (e.mono d)
theorem IJ{P:Program}{g:Nat}{a b:Array Value}{w:World}{R:Ending->World->Prop}(h:Calls P g b w R)(e:a=b):Calls P g a w R:=e ▸ h
theorem ZL{x:Value}{y:Nat->Value}(hy : ∀ j,j<14->y j=bV v j):(#[x,.agg (Fx.aA 14 y)]:Array Value) = #[x,.agg (Fx.aA 14 (bV v))]:=L_ (fun z=>(#[x,.agg z]:Array Value)) (Fx.fB hy)
theorem aiB(k:Nat)(d:1<=k/\k<=6)(w:World):Calls Tryz.prog 14 #[au (k:Int)] w fun e w' => ∃ lp m,e = .returned (.tuple #[(pt lp),au 0])/\zP w' w.heap.size lp m (qK k 0).core 0/\Below w.heap.size w w' :=
 (ais k d w).mono fun e w' ⟨lp,m,c,⟨n,i,j,l,h,g,a⟩,f,b⟩=>⟨lp,m,c,⟨f,by rw[a]; exact gF.new ..,(BU k 0).toInv0,(BU k 0).s,WK k 0⟩,b⟩
theorem JO(h:zP w B lp m L N)(b:gU v)(c:1<=B)(d:Fx.jg w 0 0 8 Oc){y:Nat->Value}(hy : ∀ j,j<14->y j=bV v j) :
 Calls Tryz.prog 15 #[(pt lp),.agg (Fx.aA 14 y)] w fun e w'=>e = .returned (au (bQ L v))/\zP w' B lp (iX m v) (dH L v) (N+1)/\Fx.jZ (Vu m lp w.heap.size) w w':=by
 have a:=h.s.apply h.q.t.inv h.i v;refine IJ ((Zr m lp B w h.q v b (h.s.sound h.q.t.inv h.i) c d).mono fun e w' ⟨k,l,f⟩=>⟨by rw[k,a.1],⟨l,a.2,AZ h.i,Om h.i h.u,Oj h.g b⟩,f⟩) (ZL hy)
theorem EX(h:zP w B lp m L N):Calls Tryz.prog 23 #[(pt lp)] w fun e w'=>e = .returned (.agg (Fx.aA 6 (Fx.rv .u64 L.known)))/\Below w.heap.size w w':=by
 rw[<- h.s.known]; exact Zt m lp B w h.q
theorem Qb(h:zP w B lp m L N)(i x:Int)(hi : -9223372036854775808<=i/\i<=9223372036854775807):Calls Tryz.prog 19 #[(pt lp),au i,aC x] w fun e w'=>e = .returned (au (zl L x i))/\Below w.heap.size w w':=by
 rw[<- h.s.local h.i]; exact Zu m lp B w h.q i x hi
structure Dj(w:World)(B:Nat)(s:vk)(L:fI):Prop where
 e:s=kL L s.na s.nc s.ga s.gc
 n:Fx.Own w B 61 56 (.slice s.na L.nn s.nc) L.nn (Fx.flat 56 (Sk L))
 g:Fx.Own w B 66 5 (.slice s.ga L.gn s.gc) L.gn (Fx.flat 5 (grL L))
theorem Dj.r{s:vk}(h:Dj w B s L):Qa w s L:=⟨h.e,h.n.arr,h.g.arr⟩
theorem Dj.up{s:vk}(h:Dj w B s L)(a:Below w.heap.size w w'):Dj w' B s L:=⟨h.e,h.n.up a,h.g.up a⟩
instance {s:vk}:Rt.Tr w w' (Dj w B s L) (Dj w' B s L):=⟨fun b h=>h.up b⟩
theorem Dj.kV{s:vk}{a:List TypeId}(h:Dj w B s L)(c:Fx.iA a w w')(b:(a.contains 61 || a.contains 66)=false):Dj w' B s L:=by
 rw[Bool.or_eq_false_iff]at b;exact⟨h.e,h.n.kV c b.1,h.g.kV c b.2⟩
instance {s:vk} {a:List TypeId}:Rt.Tc a w w' (Dj w B s L) (Dj w' B s L) (!(a.contains 61 || a.contains 66)):=⟨fun b h e=>h.kV b (by simpa using e)⟩
theorem Dj.Ca{s:vk}{a:List TypeId}(h:Dj w B s L)(c:Fx.GD a w w')(b:(a.contains 61 || a.contains 66)=false):Dj w' B s L:=by
 rw[Bool.or_eq_false_iff]at b;exact⟨h.e,h.n.Ca c b.1,h.g.Ca c b.2⟩
theorem Qc(h:zP w B lp m L N)(z:N<=900000):Calls Tryz.prog 18 #[(pt lp)] w fun e w' => ∃ s,e = .returned (.agg (Fx.aA 20 (kK s)))/\Dj w' w.heap.size s L/\Below w.heap.size w w':=by
 refine(ZH m lp B w h.q (by rw[h.s.gn]; have:=h.i.gn; omega)).mono fun e w' ⟨s,l,y,x,a,v⟩=>⟨s,x,?_,v⟩;have b:=StC.of h.s h.i h.g a.ls a.gs;have o:s.nn=L.nn:=by rw[a.nn,b.nn]
 have p:s.gn=L.gn:=by rw[a.gn,b.gn]
 have f:=a.n;have d:=a.g;rw[o]at f;rw[p]at d;refine⟨(Qa.of a h.s h.i h.g).e,f.congr (Fx.bM fun k c j _ => ?_),d.congr (Fx.bM fun k c j _ => ?_)⟩
 ·obtain⟨r,t,u⟩:=b.n k c;unfold WG Sk;rw[t,u,r]
 unfold XQ grL;rw[b.g k c]
end
end Go.Proofs.YtahbiajdgealnaaGreatDoor
namespace Go.Proofs.YtahbiajdgealnaaGreatDoor
open Go.RowKit Rt
open Fx (bB dG gM fC fQ Lv sN Ln Ws Qv Wl Rp Wc Wr Sb Wk rV sR Rs Rd Wb qE Qn xY yu gX yJ vB vw wm Cm Bp rv aA aP aZ ev Stp aW dD aY aR jZ iP bD cells_one iA bE wo jL bR)
namespace Rt
def ndW:Int:=1099511627777
def aiC(n:Int)(i:Nat):Int:=if i=0 then n else 0
def vA:EvM:=⟨1,1,fun _=>0,1,0,0,10,0,0⟩
def vC:EvM:=⟨1,2,aiC 1,5,ndW,2,4,0,0⟩
def vD:EvM:=⟨2,1,aiC 2,3,ndW,0,4,1,0⟩
theorem WO{m:dU}(b:m.T.ok)(v:EvM):(iX m v).T.ok:=by
 unfold iX;by_cases c:dF m v=0
 ·rw[d_ c];have f:=qx c;have a:=(qy c).2.1;have g:=oz f;show(iN m v).T.ok;unfold fH at a;unfold iN;by_cases d:v.kind=1
  ·rw[d_ d]at a ⊢;have e:m.T.err (nQ v) v.node=0:=by
    unfold iW at a;split at a
    ·cases a
    ·exact a
   exact Cb.put b e (by unfold nQ; omega)
  rw[b_ d]
  repeat' split
  all_goals exact b
 rw[b_ c]; exact b
structure GJ(m:dU)(L:fI)(N:Nat):Prop where
 s:gF m L
 t:m.T.ok
 i:Inv0 L N
theorem GJ.new(k:Nat):GJ (zi k 0 0 0 0 0 0) (qK k 0).core 0:=⟨gF.new ..,Cb.zero _ _,(BU k 0).toInv0⟩
theorem GJ.apply{m:dU}{L:fI}{N:Nat}(h:GJ m L N)(v:EvM):GJ (iX m v) (dH L v) (N+1):=⟨(h.s.apply h.t h.i v).2,WO h.t v,AZ h.i⟩
theorem GJ.err{m:dU}{L:fI}{N:Nat}(h:GJ m L N)(v:EvM){c:Int}(e:dF m v=c):bQ L v=c:=(h.s.apply h.t h.i v).1.symm.trans e
theorem GJ.loc{m:dU}{L:fI}{N:Nat}(h:GJ m L N)(x i:Int){c:Int}(e:cB (bA m x) i=c):zl L x i=c:=(h.s.local h.i x i).symm.trans e
noncomputable def wq0:dU:=zi 2 0 0 0 0 0 0
noncomputable def Em:dU:=iX wq0 vA
noncomputable def wq2:dU:=iX Em vC
noncomputable def wq3:dU:=iX wq2 vD
end Rt
namespace Rt
structure GY where
 who:Nat
 meet:Bool
 other:Nat
 kind:Nat
 node:Nat
 dst:Nat
 aU:Nat
 req:Nat
 of:Nat
structure IK(x:GY):Prop where
 who:x.who<=255
 other:x.other<=255
 kind:x.kind<=255
 node:x.node<=255
 dst:x.dst<=255
 aU:x.aU<=65535
 req:x.req<=255
 of:x.of<=255
def GZ(x:GY):Nat->Value:=fun p=>if p=0 then .int .u8 (x.who:Int)else if p=1 then .bool x.meet else if p=2 then .int .u8 (x.other:Int)else if p=3 then .int .u8 (x.kind:Int)else if p=4 then .int .u8 (x.node:Int)else if p=5 then .int .u8 (x.dst:Int)else if p=6 then .int .u16 (x.aU:Int)else if p=7 then .int .u8 (x.req:Int)else .int .u8 (x.of:Int)
theorem Gl{k n r:Nat}(e:r=k % n):Int.tmod (k:Int) (n:Int)=(r:Int):=by
 rw[Int.tmod_eq_emod_of_nonneg (by omega),e];exact(Int.natCast_emod k n).symm
theorem EY(V:EvM)(x:Int) : ∀ j,j<14->dD (bV V) 9 (aC x) j=bV { V with node:=x } j:=fun j a=>by
 rcases j with _|_|_|_|_|_|_|_|_|_|_|_|_|_|j <;> first|rfl|omega
theorem WQ(V:EvM)(x:Int) : ∀ j,j<14->dD (bV V) 10 (au x) j=bV ⟨V.o,V.seq,V.deps,V.kind,V.node,x,V.aU,V.req,V.of⟩ j:=fun j a=>by
 rcases j with _|_|_|_|_|_|_|_|_|_|_|_|_|_|j <;> first|rfl|omega
theorem Gm(V:EvM)(x:Int) : ∀ j,j<14->dD (bV V) 11 (au x) j=bV { V with aU:=x } j:=fun j a=>by
 rcases j with _|_|_|_|_|_|_|_|_|_|_|_|_|_|j <;> first|rfl|omega
theorem WR(V:EvM)(x:Int) : ∀ j,j<14->dD (bV V) 12 (aC x) j=bV { V with req:=x } j:=fun j a=>by
 rcases j with _|_|_|_|_|_|_|_|_|_|_|_|_|_|j <;> first|rfl|omega
theorem aiD(V:EvM)(x:Int) : ∀ j,j<14->dD (bV V) 13 (aC x) j=bV { V with of:=x } j:=fun j a=>by
 rcases j with _|_|_|_|_|_|_|_|_|_|_|_|_|_|j <;> first|rfl|omega
end Rt
set_option maxRecDepth 20000 in
set_option maxHeartbeats 2000000 in
theorem ZM(M:WM)(B p T:Nat)(x:GY)(w:World)(Z:oM w B p M T)(hx:IK x) :
 Calls Tryz.prog 38 #[(pt p),.agg (aA 9 (GZ x))] w fun e w' => ∃ V,gU V/\oL V/\(V.o=((x.who % M.n:Nat):Int)+1/\V.seq=(M.ml (x.who % M.n)).s.known (x.who % M.n)+1/\V.deps=(M.ml (x.who % M.n)).s.known)/\e = .returned (.agg (aA 14 (bV V)))/\Below w.heap.size w w':=by
 have hWc:=Z.c;have hWl:=Z.l;have hWa:=Z.a;have hWg:=Z.g;have hn1:=Z.n1;have hn6:=Z.n6;have hpB:=Z.pB;have lpp:p<w.heap.size:=hWc.lt;have hxw:=hx.who;have hxo:=hx.other;have hxk:=hx.kind;have hxn:=hx.node;have hxt:=hx.dst;have hxa:=hx.aU;have hxr:=hx.req;have hxf:=hx.of;refine Kent Tryz.func38 143 ?_;refine ay<|rE fun G w1 lN m1 s1 z1 => ?_;have⟨m2,m3,m4,m5,b1⟩:=tQ s1.old hWc hWl hWa hWg (Below.refl w.heap.size w);have tN:=iy lN;have nI:=cu lN hWc.lt;have uM:=m1.lt;refine uW 14 (fun h=>if h<1 then au 0 else if h<8 then aC 0 else if h<9 then .int .u8 (0)else if h<10 then aC 0 else if h<12 then au 0 else aC 0) fun U w2 yD m6 s2 z2 => ?_;have⟨m7,m8,m9,m10,m11,b2⟩:=tT s2.old m2 m3 m4 m5 m1 b1;have qW:=iT yD b1.size;have Pf:=cu yD m2.lt;have PN:(.slice M.aa (M.an) (M.ac):Value).ownBlock≠some U:=by rw[yD]; exact m4.jo (A_ _)
 have F7:=cu yD m1.lt;have zY:=m6.lt;refine aD<|Ws ?_;obtain⟨o,eo⟩ : ∃ r,r=x.who % M.n:=⟨_,rfl⟩;have ho:o<M.n:=by rw[eo]; exact J_ _ (by omega)
 refine yN<|aX (pt G)<|Qv (.int .u8 (x.who:Int)) (fun E D=>aM (m11.aI.dr D) 0)<|Qv (au x.who) (fun E D=>dG rfl rfl (by kernel_rfl) Tryz.underlying3 (iP (by omega) rfl))<|aX (pt p)<|aX (pt p)<|aX (pt p)<|Qv (.slice M.la (M.n) (M.lc)) (fun E D=>aM (m7.aI.dr D) 0)<|aX (au M.n)<|Qv (au o) (fun E D=>Fx.yG rfl rfl rfl (by omega) (Gl eo))<|aX (au o)<|Qn ?_;rintro _ ⟨qd,rfl⟩;obtain⟨Em,sV⟩ : ∃ E,E=World.drewN w2 qd:=⟨_,rfl⟩;rw[<- sV];have s3:Stp w2.heap.size w2 Em:=by rw[sV]; exact Sb (jS w2 qd)
 have⟨m12,m13,m14,m15,m16,m17,b3⟩:=jM s3.old m7 m8 m9 m10 m11 m6 b2;clear sV;refine sN<|ay<|av (pt p)<|av (pt p)<|av (pt p)<|Lv (.slice M.la (M.n) (M.lc)) (aM m12.aI 0)<|av (au o) ?_;obtain⟨DL,eq1⟩:=m13.addr (by omega);have m18:Fx.Own Em B 72 1 (bO DL M.n M.lc) M.n (IE M.pl):=m13.eH (L_ (fun q=>Value.slice q M.n M.lc) eq1);refine Lv (pf DL o) (dh 1 (hx:=(rfl.trans (L_ (fun q=>Value.slice q (M.n) (M.lc)) eq1))))<|Lv (pt (M.pl o)) (aM m18.aI o)<|av (pt (M.pl o))<|aD<|Ws ?_;obtain⟨H,aiE⟩ : ∃ r,r=x.kind % 7:=⟨_,rfl⟩;have axy:H<7:=by rw[aiE]; exact J_ _ (by omega)
 have ZN:=m15 o (by omega);have Gn:=ZN.c;have aiF:=ZN.n;have hkn:=(Z.inv o (by omega)).kn;have hko:=hkn o (by omega);have hko:0<=(M.ml o).s.known o/\(M.ml o).s.known o<1099511627776:=hko;have hU : ∀ k,k<(M.ml o).s.nn->jO ((M.ml o).id k):=fun k hk=>by have Y:=(Z.inv o (by omega)).pos k hk; have I:=(Z.inv o (by omega)).top k hk; exact⟨by show(0:Int)<=(M.ml o).core.id k; omega,by show(M.ml o).core.id k<=_; omega⟩
 have hbn:=(Z.g o (by omega)).bn;refine qE (T:=32) (T':=32) (a := .tmp 7) (v := .tmp 44) (m:=14) (z:=fun h=>if h<1 then au 0 else if h<8 then aC 0 else if h<9 then .int .u8 (0)else if h<10 then aC 0 else if h<12 then au 0 else aC 0) (y:=aZ (aZ (aZ (aZ (fun h=>if h<1 then au 0 else if h<8 then aC 0 else if h<9 then .int .u8 (0)else if h<10 then aC 0 else if h<12 then au 0 else aC 0) 0 1 (fun _=>au ((o:Int)+1))) 1 1 (fun _=>aC ((M.ml o).s.known o+1))) 2 6 (rv .u64 ((M.ml o).s.known))) 8 1 (fun _ => .int .u8 ((H:Int)+1))) (u := .agg (aA 14 (aZ (aZ (aZ (aZ (fun h=>if h<1 then au 0 else if h<8 then aC 0 else if h<9 then .int .u8 (0)else if h<10 then aC 0 else if h<12 then au 0 else aC 0) 0 1 (fun _=>au ((o:Int)+1))) 1 1 (fun _=>aC ((M.ml o).s.known o+1))) 2 6 (rv .u64 ((M.ml o).s.known))) 8 1 (fun _ => .int .u8 ((H:Int)+1))))) 20 21 (List.replicate 22 (0,2,[],[])) #[au (o:Int),au ((o:Int)+1),(pt (M.pl o)),au (o:Int),(pt (M.pl o)),(pt (M.pl o)),(pf (M.pl o) 12),(pf (M.pl o) (o+12)),aC ((M.ml o).s.known o),aC ((M.ml o).s.known o+1),(pt (M.pl o)),(pt (M.pl o)),(pt (M.pl o)),(pf (M.pl o) 12),.agg (aA 6 (rv .u64 ((M.ml o).s.known))),(pf G 3),.int .u8 (x.kind:Int),.int .u8 (H:Int),.int .u8 ((H:Int)+1),.agg (aA 14 (aZ (aZ (aZ (aZ (fun h=>if h<1 then au 0 else if h<8 then aC 0 else if h<9 then .int .u8 (0)else if h<10 then aC 0 else if h<12 then au 0 else aC 0) 0 1 (fun _=>au ((o:Int)+1))) 1 1 (fun _=>aC ((M.ml o).s.known o+1))) 2 6 (rv .u64 ((M.ml o).s.known))) 8 1 (fun _ => .int .u8 ((H:Int)+1)))),undef,undef] (by kernel_rfl) (by kernel_rfl) (by kernel_rfl) (by kernel_rfl) (by kernel_rfl) (by kernel_rfl) rfl (by kernel_rfl) rfl rfl (by kernel_rfl) (fun A=>(show ev _ (.tmp 7)=(pt A)from by kernel_rfl)) (fun A=>(show ev _ (.tmp 44) = .agg (aA 14 (aZ (aZ (aZ (aZ (fun h=>if h<1 then au 0 else if h<8 then aC 0 else if h<9 then .int .u8 (0)else if h<10 then aC 0 else if h<12 then au 0 else aC 0) 0 1 (fun _=>au ((o:Int)+1))) 1 1 (fun _=>aC ((M.ml o).s.known o+1))) 2 6 (rv .u64 ((M.ml o).s.known))) 8 1 (fun _ => .int .u8 ((H:Int)+1))))from by kernel_rfl)) (bD _ _) (bE (bE (bE (bE (fun jq _=>by show((fun h=>if h<1 then au 0 else if h<8 then aC 0 else if h<9 then .int .u8 (0)else if h<10 then aC 0 else if h<12 then au 0 else aC 0:Nat->Value) jq).oneCell'=true; simp only[]; repeat (first|rfl|split)) (fun _ _=>rfl)) (fun _ _=>rfl)) (fun _ _=>rfl)) (fun _ _=>rfl)) (by kernel_rfl) (fun A => ?_) ?_
 ·refine⟨?_,?_,?_,?_,?_,?_,?_,?_,?_,?_,?_,?_,?_,?_,?_,?_,?_,?_,?_,?_,?_,?_,trivial⟩
  ·exact .inr (.inr oF)
  ·exact .inr (.inr (lY (au ((o:Int)+1)) fun E D=>Fx.Fa rfl (show ev _ (.tmp 25)=au (o:Int)from by kernel_rfl) (show ev _ (.const (au 1))=au 1 from by kernel_rfl) Fx.io))
  ·exact .inr (.inr oF)
  ·exact .inr (.inr oF)
  ·exact .inr (.inr oF)
  ·exact .inr (.inr oF)
  ·exact .inr (.inr oF)
  ·exact .inr (.inr (lY (pf (M.pl o) (o+12)) fun E D=>gM rfl (show ev _ (.tmp 31)=(pf (M.pl o) 12)from by kernel_rfl) (show ev _ (.tmp 28)=au (o:Int)from by kernel_rfl) Tryz.underlying30 (s:=1) (by kernel_rfl) (by omega) (by omega) (by omega)))
  ·exact .inr (.inr (lY (aC ((M.ml o).s.known o)) fun E D=>bB (x:=mX (M.ml o)) rfl (show ev _ (.tmp 32)=(pf (M.pl o) (o+12))from by kernel_rfl) (by kernel_rfl) (Gn.aI.below D (by have:=Gn.lt; omega)) (i:=o+12) (by omega) (by omega) (mF _ (by omega) (nK _ (by omega) (by omega)))))
  ·exact .inr (.inr (lY (aC ((M.ml o).s.known o+1)) fun E D=>Fx.Fa rfl (show ev _ (.tmp 33)=aC ((M.ml o).s.known o)from by kernel_rfl) (show ev _ (.const (aC 1))=aC 1 from by kernel_rfl) (jL (by omega) (by omega))))
  ·exact .inr (.inr oF)
  ·exact .inr (.inr oF)
  ·exact .inr (.inr oF)
  ·exact .inr (.inr oF)
  ·exact .inr (.inr (lY (.agg (aA 6 (rv .u64 ((M.ml o).s.known)))) fun E D=>fC (x:=mX (M.ml o)) (y:=rv .u64 ((M.ml o).s.known)) rfl (show ev _ (.tmp 38)=(pf (M.pl o) 12)from by kernel_rfl) (by kernel_rfl) (by kernel_rfl) (Gn.aI.below D (by have:=Gn.lt; omega)) (i:=12) (by omega) (by omega) (fun j C=>mF _ (by omega) (nK _ C (by omega)))))
  ·exact .inr (.inr oF)
  ·exact .inr (.inr (lY (.int .u8 (x.kind:Int)) fun E D=>bB (x:=GZ x) rfl (show ev _ (.tmp 40)=(pf G 3)from by kernel_rfl) (by kernel_rfl) (m16.aI.below D (by have:=m16.lt; omega)) (i:=3) (by omega) (by omega) rfl))
  ·exact .inr (.inr (lY (.int .u8 (H:Int)) fun E D=>Fx.yG rfl (show ev _ (.tmp 41) = .int .u8 (x.kind:Int)from by kernel_rfl) (show ev _ (.const (.int .u8 (7))) = .int .u8 (7)from by kernel_rfl) (by omega) (Gl aiE)))
  ·exact .inr (.inr (lY (.int .u8 ((H:Int)+1)) fun E D=>Fx.Fa rfl (show ev _ (.const (.int .u8 (1))) = .int .u8 (1)from by kernel_rfl) (show ev _ (.tmp 42) = .int .u8 (H:Int)from by kernel_rfl) (Fx.u8e (by omega) (by omega))))
  ·exact .inr (.inr (lY (.agg (aA 14 (aZ (aZ (aZ (aZ (fun h=>if h<1 then au 0 else if h<8 then aC 0 else if h<9 then .int .u8 (0)else if h<10 then aC 0 else if h<12 then au 0 else aC 0) 0 1 (fun _=>au ((o:Int)+1))) 1 1 (fun _=>aC ((M.ml o).s.known o+1))) 2 6 (rv .u64 ((M.ml o).s.known))) 8 1 (fun _ => .int .u8 ((H:Int)+1))))) fun E D=>fQ (vs := [(0,au ((o:Int)+1)),(1,aC ((M.ml o).s.known o+1)),(2,.agg (aA 6 (rv .u64 ((M.ml o).s.known)))),(3,.int .u8 ((H:Int)+1))]) (places := #[(0,1),(1,1),(2,6),(8,1),(9,1),(10,1),(11,1),(12,1),(13,1)]) (m:=14) (x:=fun h=>if h<1 then au 0 else if h<8 then aC 0 else if h<9 then .int .u8 (0)else if h<10 then aC 0 else if h<12 then au 0 else aC 0) rfl (Fx.SH (show ev _ (.tmp 26)=au ((o:Int)+1)from by kernel_rfl) (show ev _ (.tmp 34)=aC ((M.ml o).s.known o+1)from by kernel_rfl) (show ev _ (.tmp 39) = .agg (aA 6 (rv .u64 ((M.ml o).s.known)))from by kernel_rfl) (show ev _ (.tmp 43) = .int .u8 ((H:Int)+1)from by kernel_rfl)) Tryz.underlying32 (by kernel_rfl) (by kernel_rfl) (by rw[aR (off:=0) (s:=1) (y:=fun _=>au ((o:Int)+1)) (by kernel_rfl) (cells_one (by rfl)) (by rfl)]; rw[aR (off:=1) (s:=1) (y:=fun _=>aC ((M.ml o).s.known o+1)) (by kernel_rfl) (cells_one (by rfl)) (by rfl)]; rw[aR (off:=2) (s:=6) (y:=rv .u64 ((M.ml o).s.known)) (by kernel_rfl) (bD _ _) (by rfl)]; rw[aR (off:=8) (s:=1) (y:=fun _ => .int .u8 ((H:Int)+1)) (by kernel_rfl) (cells_one (by rfl)) (by rfl)]; rfl)))
  ·exact .inl rfl
  exact .inr (.inl rfl)
 rintro A w3 f1 hf1 Aj m19 hb1;have aeI:p≠A:=u_ (n_ (m12.lt) Aj);have aqI:G≠A:=u_ (n_ (m16.lt) Aj);have aeG:U≠A:=u_ (n_ (m17.lt) Aj);have aqJ:DL≠A:=u_ (n_ (m18.lt) Aj);have aiG:(M.pl o)≠A:=u_ (n_ (Gn.lt) Aj);have Wz:(.slice M.aa (M.an) (M.ac):Value).ownBlock≠some A:=fun e=>by have:=(m14.ge e).2; omega
 have⟨m22,m23,m24,nP,nY,b4⟩:=tT hb1 m15 m16 m17 m18 aiF b3;have Aj:w.heap.size<=A:=m_ b3.size Aj;have J6:=m19.lt;have q1:f1 3=(pt G):=by rw[hf1]; kernel_rfl
 have q2:f1 4=(pt U):=by rw[hf1]; kernel_rfl
 have q3:f1 6=(pt (M.pl o)):=by rw[hf1]; kernel_rfl
 have q4:f1 7=(pt A):=by rw[hf1]; kernel_rfl
 clear hf1;refine sN<|Ws ?_;obtain⟨d,eV0⟩ : ∃ V:EvM,V=(⟨(o:Int)+1,(M.ml o).s.known o+1,(M.ml o).s.known,(H:Int)+1,0,0,0,0,0⟩:EvM):=⟨_,rfl⟩;have hz1:jO 0:=⟨by decide,by decide⟩;have hz2:qJ 0:=⟨by decide,by decide⟩;have t:gU d:=by rw[eV0]; exact⟨⟨by show(_:Int)<=(o:Int)+1; omega,by show(o:Int)+1<=_; omega⟩,⟨by show(0:Int)<=(M.ml o).s.known o+1; omega,by show(M.ml o).s.known o+1<=_; omega⟩,fun i hi=>⟨(hkn i hi).1,by have q:(M.ml o).s.known i<1099511627776:=(hkn i hi).2; show(M.ml o).s.known i<=_; omega⟩,⟨by show(0:Int)<=(H:Int)+1; omega,by show(H:Int)+1<=255; omega⟩,hz1,hz2,hz2,hz1,hz1⟩
 have nZ:aP w3 A 14 (bV d) 32:=m19.congr (fun j C=>by rw[eV0]; rcases j with _|_|_|_|_|_|_|_|_|_|_|_|_|_|j <;> first|rfl|omega|exact L_ (Value.int .u8) (by omega))
 have X:oL d:=by rw[eV0]; exact⟨by show(0:Int)<=_; decide,by show(0:Int)<=_; decide⟩
 have hd0:d.o=(o:Int)+1/\d.seq=(M.ml o).s.known o+1/\d.deps=(M.ml o).s.known:=by rw[eV0]; exact⟨rfl,rfl,rfl⟩
 have ek0:d.kind=(H:Int)+1:=by rw[eV0]
 refine Wl<|av (aC 0)<|aD ?_;have oH:Fx.Own w3 B 72 1 (.slice M.la (M.n) (M.lc)) M.n (IE M.pl):=nP.eH (L_ (fun q=>Value.slice q M.n M.lc) eq1.symm);refine Cm (fun f w_ => ∃ nd:Int,jO nd/\f 3=(pt G)/\f 4=(pt U)/\f 7=(pt A)/\f 8=aC nd/\aP w_ G 9 (GZ x) 36/\aP w_ U 14 (fun h=>if h<1 then au 0 else if h<8 then aC 0 else if h<9 then .int .u8 (0)else if h<10 then aC 0 else if h<12 then au 0 else aC 0) 32/\aP w_ A 14 (bV d) 32/\Below w.heap.size w w_) ?_ ?_
 ·refine Ws ?_;have ZO:=m22 o (by omega);have WS:=ZO.c;have atP:=ZO.n;refine Wl<|aT q3<|av (pt (M.pl o))<|av (pt (M.pl o))<|av (pf (M.pl o) 18)<|Lv (.slice (M.ml o).s.na ((M.ml o).s.nn) ((M.ml o).s.nc)) (aM WS.aI 18)<|av (au (((M.ml o).s.nn:Nat):Int))<|Lv (.bool (decide (0<(((M.ml o).s.nn:Nat):Int)))) (Fx.Sw rfl rfl rfl)<|aD<|Wc (b:=decide (0<(((M.ml o).s.nn:Nat):Int))) rfl (fun c51 => ?_)<|fun c51 => ?_
  ·have c51:=h_ c51;obtain⟨XR,aiI⟩ : ∃ r,r=x.node % (M.ml o).s.nn:=⟨_,rfl⟩;have aqK:XR<(M.ml o).s.nn:=(by rw[aiI]; exact J_ _ (by omega));refine yN<|eB q3<|aX (pt (M.pl o))<|aX (pt (M.pl o))<|aX (pf (M.pl o) 18)<|Qv (.slice (M.ml o).s.na ((M.ml o).s.nn) ((M.ml o).s.nc)) (fun E D=>aM (WS.aI.dr D) 18)<|Qv (pf G 4) (fun E D=>iZ q1 4)<|Qv (.int .u8 (x.node:Int)) (fun E D=>aM (m23.aI.dr D) 4)<|Qv (au x.node) (fun E D=>dG rfl rfl (by kernel_rfl) Tryz.underlying3 (iP (by omega) rfl))<|eB q3<|aX (pt (M.pl o))<|aX (pt (M.pl o))<|aX (pf (M.pl o) 18)<|Qv (.slice (M.ml o).s.na ((M.ml o).s.nn) ((M.ml o).s.nc)) (fun E D=>aM (WS.aI.dr D) 18)<|aX (au (((M.ml o).s.nn:Nat):Int))<|Qv (au XR) (fun E D=>Fx.yG rfl rfl rfl (by omega) (Gl aiI)) ?_;obtain⟨NC,Jz⟩:=nY.addr (by omega);have pG:Fx.Own w3 B 61 56 (.slice (some ⟨NC,0,none⟩) ((M.ml o).s.nn) ((M.ml o).s.nc)) ((M.ml o).s.nn) (J8 (M.ml o)):=nY.eH (L_ (fun q=>Value.slice q ((M.ml o).s.nn) ((M.ml o).s.nc)) Jz);refine Qv (pf NC (56*XR)) (fun E D=>dh 56 (hx:=(rfl.trans (L_ (fun q=>Value.slice q ((M.ml o).s.nn) ((M.ml o).s.nc)) Jz))))<|aX (pf NC (56*XR))<|Qv (aC ((M.ml o).id XR)) (fun E D=>aM (pG.aI.dr D) (56*XR) (Fx.gy (k:=XR) (j:=0) (by omega) (by omega) rfl))<|aX (aC ((M.ml o).id XR))<|Qn ?_;rintro _ ⟨qd,rfl⟩;obtain⟨wq2,xA⟩ : ∃ E,E=World.drewN w3 qd:=⟨_,rfl⟩;rw[<- xA];have s5:Stp w3.heap.size w3 wq2:=(by rw[xA]; exact Sb (jS w3 qd));have⟨oO,qh,nS,sJ,b5⟩:=tQ s5.old m23 m24 nZ pG b4;clear xA;have nJ:Fx.Own wq2 B 61 56 (.slice (M.ml o).s.na ((M.ml o).s.nn) ((M.ml o).s.nc)) ((M.ml o).s.nn) (J8 (M.ml o)):=sJ.eH (L_ (fun q=>Value.slice q ((M.ml o).s.nn) ((M.ml o).s.nc)) Jz.symm);exact wo ⟨((M.ml o).id XR),(hU XR aqK),q1,q2,q4,Fx.ic,oO,qh,nS,b5⟩
  have c51:=j_ c51;refine Wk ?_;exact wo ⟨0,⟨by decide,by decide⟩,q1,q2,q4,Fx.ic,m23,m24,nZ,b4⟩
 rintro f2 w4 ⟨nd,Qd,Y,I,F,h4,mJ,nC,K,J⟩;refine Ws<|ay<|Lv (pf A 8) (iZ F 8)<|Lv (.int .u8 (d.kind)) (aM K.aI 8)<|aD<|Wb<|ay ?_;by_cases c73:d.kind=1
 ·refine Lv aG (eX c73)<|av aG<|aD<|aL<|Ws<|Ws ?_;obtain⟨r76,aiJ⟩ : ∃ r,r=x.node % 2:=⟨_,rfl⟩;have axz:r76<2:=by rw[aiJ]; exact J_ _ (by omega)
  refine Wl<|Lv (pf G 4) (iZ Y 4)<|Lv (.int .u8 (x.node:Int)) (aM mJ.aI 4)<|Lv (.int .u8 (r76:Int)) (Fx.yG rfl rfl rfl (by omega) (Gl aiJ)) ?_;by_cases c77:(r76:Int)=1
  ·refine Lv aG (eX c77)<|aD<|aL<|Wl<|aT h4<|Lv (pf A 9) (iZ F 9)<|jh K 9 (aC nd) fun w5 rJ s6 z3 => ?_;obtain⟨L,eV1⟩ : ∃ V:EvM,V=⟨d.o,d.seq,d.deps,d.kind,nd,d.dst,d.aU,d.req,d.of⟩:=⟨_,rfl⟩;have L6:gU L:=(by rw[eV1]; exact⟨t.o,t.seq,t.deps,t.kind,Qd,t.dst,t.aU,t.req,t.of⟩);have aqM:L.o=(o:Int)+1/\L.seq=(M.ml o).s.known o+1/\L.deps=(M.ml o).s.known:=(by rw[eV1]; exact hd0);have aqN:oL L:=(by rw[eV1]; exact⟨X.aU,X.req⟩);have og:aP w5 A 14 (bV L) 32:=rJ.congr (fun j C=>by rw[eV1]; exact EY _ _ j C);have gD:=gX s6 K.ty;have qV:=jT gD mJ;have wT:=nC.cZ s6 (by omega);have b7:=s6.below J J.size (by omega);refine aD<|Wl<|Lv (pf G 6) (iZ Y 6)<|Lv (.int .u16 (x.aU:Int)) (aM qV.aI 6)<|Lv (au x.aU) (dG rfl rfl (by kernel_rfl) Tryz.underlying2 (iP (by omega) rfl))<|Lv (pf A 11) (iZ F 11)<|jh og 11 (au x.aU) fun w6 tV s7 z4 => ?_;obtain⟨V2,eV2⟩ : ∃ V:EvM,V=⟨L.o,L.seq,L.deps,L.kind,L.node,L.dst,(x.aU:Int),L.req,L.of⟩:=⟨_,rfl⟩;have aqO:gU V2:=(by rw[eV2]; exact⟨L6.o,L6.seq,L6.deps,L6.kind,L6.node,L6.dst,(show qJ (x.aU:Int)from⟨by omega,by omega⟩),L6.req,L6.of⟩);have aqP:V2.o=(o:Int)+1/\V2.seq=(M.ml o).s.known o+1/\V2.deps=(M.ml o).s.known:=(by rw[eV2]; exact aqM);have aqQ:oL V2:=(by rw[eV2]; exact⟨by show(x.aU:Int)<=65536; omega,aqN.req⟩);have rW:aP w6 A 14 (bV V2) 32:=tV.congr (fun j C=>by rw[eV2]; exact Gm _ _ j C);have uX:=wT.cZ s7 (by omega);have b8:=s7.below b7 b7.size (by omega);refine Ln<|bR<|sN<|ay<|Lv (.agg (aA 14 (bV V2))) (fJ rW.aI 0 (ha:=F))<|fq uX 0 (ha:=I) (h1:=(jd _)) fun w7 uN s8 z5 => ?_;have vL:aP w7 U 14 (bV V2) 32:=aW uN;have uw:=rW.cZ s8 (by omega);have b9:=s8.below b8 b8.size (by omega);refine aD (Wr (⟨.agg (aA 14 (bV V2)),rV Tryz.results38 ⟨_,I,aY vL.aI (by kernel_rfl) (by kernel_rfl)⟩,?_⟩));exact⟨V2,aqO,aqQ,by rw[<- eo]; exact aqP,rfl,b9⟩
  refine Lv aF (fT c77)<|aD<|aK<|Wk<|sN<|Wl<|Lv (pf G 6) (iZ Y 6)<|Lv (.int .u16 (x.aU:Int)) (aM mJ.aI 6)<|Lv (au x.aU) (dG rfl rfl (by kernel_rfl) Tryz.underlying2 (iP (by omega) rfl))<|Lv (pf A 11) (iZ F 11)<|jh K 11 (au x.aU) fun w8 uy s9 z6 => ?_;obtain⟨V3,eV3⟩ : ∃ V:EvM,V=⟨d.o,d.seq,d.deps,d.kind,d.node,d.dst,(x.aU:Int),d.req,d.of⟩:=⟨_,rfl⟩;have aqR:gU V3:=by rw[eV3]; exact⟨t.o,t.seq,t.deps,t.kind,t.node,t.dst,(show qJ (x.aU:Int)from⟨by omega,by omega⟩),t.req,t.of⟩
  have aqS:V3.o=(o:Int)+1/\V3.seq=(M.ml o).s.known o+1/\V3.deps=(M.ml o).s.known:=by rw[eV3]; exact hd0
  have aqT:oL V3:=by rw[eV3]; exact⟨by show(x.aU:Int)<=65536; omega,X.req⟩
  have uz:aP w8 A 14 (bV V3) 32:=uy.congr (fun j C=>by rw[eV3]; exact Gm _ _ j C);have qI:=nC.cZ s9 (by omega);have b10:=s9.below J J.size (by omega);refine Ln<|bR<|sN<|ay<|Lv (.agg (aA 14 (bV V3))) (fJ uz.aI 0 (ha:=F))<|fq qI 0 (ha:=I) (h1:=(jd _)) fun w9 vM s10 z7 => ?_;have oh:aP w9 U 14 (bV V3) 32:=aW vM;have m64:=uz.cZ s10 (by omega);have b11:=s10.below b10 b10.size (by omega);refine aD (Wr (⟨.agg (aA 14 (bV V3)),rV Tryz.results38 ⟨_,I,aY oh.aI (by kernel_rfl) (by kernel_rfl)⟩,?_⟩));exact⟨V3,aqR,aqT,by rw[<- eo]; exact aqS,rfl,b11⟩
 refine Lv aF (fT c73)<|av aF<|aD<|aK<|ay ?_;by_cases c85:d.kind=2
 ·refine Lv aG (eX c85)<|av aG<|aD<|aL<|ay<|aT h4<|Lv (pf A 9) (iZ F 9)<|jh K 9 (aC nd) fun sI wV s11 z8 => ?_;obtain⟨P,eV4⟩ : ∃ V:EvM,V=⟨d.o,d.seq,d.deps,d.kind,nd,d.dst,d.aU,d.req,d.of⟩:=⟨_,rfl⟩;have L8:gU P:=by rw[eV4]; exact⟨t.o,t.seq,t.deps,t.kind,Qd,t.dst,t.aU,t.req,t.of⟩
  have aqU:P.o=(o:Int)+1/\P.seq=(M.ml o).s.known o+1/\P.deps=(M.ml o).s.known:=by rw[eV4]; exact hd0
  have aqV:oL P:=by rw[eV4]; exact⟨X.aU,X.req⟩
  have wB:aP sI A 14 (bV P) 32:=wV.congr (fun j C=>by rw[eV4]; exact EY _ _ j C);have zV:=gX s11 K.ty;have wW:=jT zV mJ;have wX:=nC.cZ s11 (by omega);have b12:=s11.below J J.size (by omega);refine aD<|Wl<|Lv (pf G 6) (iZ Y 6)<|Lv (.int .u16 (x.aU:Int)) (aM wW.aI 6)<|Lv (au x.aU) (dG rfl rfl (by kernel_rfl) Tryz.underlying2 (iP (by omega) rfl))<|Lv (au ((x.aU:Int)+1)) eU<|Lv (pf A 11) (iZ F 11)<|jh wB 11 (au ((x.aU:Int)+1)) fun xU sM s12 z9 => ?_;obtain⟨V5,eV5⟩ : ∃ V:EvM,V=⟨P.o,P.seq,P.deps,P.kind,P.node,P.dst,(x.aU:Int)+1,P.req,P.of⟩:=⟨_,rfl⟩;have aqW:gU V5:=by rw[eV5]; exact⟨L8.o,L8.seq,L8.deps,L8.kind,L8.node,L8.dst,(show qJ ((x.aU:Int)+1)from⟨by omega,by omega⟩),L8.req,L8.of⟩
  have aqX:V5.o=(o:Int)+1/\V5.seq=(M.ml o).s.known o+1/\V5.deps=(M.ml o).s.known:=by rw[eV5]; exact aqU
  have aqY:oL V5:=by rw[eV5]; exact⟨by show(x.aU:Int)+1<=65536; omega,aqV.req⟩
  have uY:aP xU A 14 (bV V5) 32:=sM.congr (fun j C=>by rw[eV5]; exact Gm _ _ j C);have wC:=wX.cZ s12 (by omega);have b13:=s12.below b12 b12.size (by omega);refine Ln<|bR<|sN<|ay<|Lv (.agg (aA 14 (bV V5))) (fJ uY.aI 0 (ha:=F))<|fq wC 0 (ha:=I) (h1:=(jd _)) fun Dy uZ s13 z10 => ?_;have yx:aP Dy U 14 (bV V5) 32:=aW uZ;have yA:=uY.cZ s13 (by omega);have b14:=s13.below b13 b13.size (by omega);refine aD (Wr (⟨.agg (aA 14 (bV V5)),rV Tryz.results38 ⟨_,I,aY yx.aI (by kernel_rfl) (by kernel_rfl)⟩,?_⟩));exact⟨V5,aqW,aqY,by rw[<- eo]; exact aqX,rfl,b14⟩
 refine Lv aF (fT c85)<|av aF<|aD<|aK<|ay ?_;by_cases c94:d.kind=3
 ·refine Lv aG (eX c94)<|av aG<|aD<|aL<|ay<|aT h4<|Lv (pf A 9) (iZ F 9)<|jh K 9 (aC nd) fun EI yB Ej z11 => ?_;obtain⟨Q,eV6⟩ : ∃ V:EvM,V=⟨d.o,d.seq,d.deps,d.kind,nd,d.dst,d.aU,d.req,d.of⟩:=⟨_,rfl⟩;have L9:gU Q:=by rw[eV6]; exact⟨t.o,t.seq,t.deps,t.kind,Qd,t.dst,t.aU,t.req,t.of⟩
  have aqZ:Q.o=(o:Int)+1/\Q.seq=(M.ml o).s.known o+1/\Q.deps=(M.ml o).s.known:=by rw[eV6]; exact hd0
  have ara:oL Q:=by rw[eV6]; exact⟨X.aU,X.req⟩
  have yC:aP EI A 14 (bV Q) 32:=yB.congr (fun j C=>by rw[eV6]; exact EY _ _ j C);have adz:=gX Ej K.ty;have wY:=jT adz mJ;have wE:=nC.cZ Ej (by omega);have b15:=Ej.below J J.size (by omega);refine aD<|ay<|Lv (pf G 6) (iZ Y 6)<|Lv (.int .u16 (x.aU:Int)) (aM wY.aI 6)<|Lv (au x.aU) (dG rfl rfl (by kernel_rfl) Tryz.underlying2 (iP (by omega) rfl))<|Lv (au ((x.aU:Int)+1)) eU<|Lv (pf A 11) (iZ F 11)<|jh yC 11 (au ((x.aU:Int)+1)) fun MG vg s15 z12 => ?_;obtain⟨R,eV7⟩ : ∃ V:EvM,V=⟨Q.o,Q.seq,Q.deps,Q.kind,Q.node,Q.dst,(x.aU:Int)+1,Q.req,Q.of⟩:=⟨_,rfl⟩;have Ma:gU R:=by rw[eV7]; exact⟨L9.o,L9.seq,L9.deps,L9.kind,L9.node,L9.dst,(show qJ ((x.aU:Int)+1)from⟨by omega,by omega⟩),L9.req,L9.of⟩
  have arb:R.o=(o:Int)+1/\R.seq=(M.ml o).s.known o+1/\R.deps=(M.ml o).s.known:=by rw[eV7]; exact aqZ
  have ard:oL R:=by rw[eV7]; exact⟨by show(x.aU:Int)+1<=65536; omega,ara.req⟩
  have vN:aP MG A 14 (bV R) 32:=vg.congr (fun j C=>by rw[eV7]; exact Gm _ _ j C);have aiK:=gX s15 yC.ty;have yR:=jT aiK wY;have xV:=wE.cZ s15 (by omega);have b16:=s15.below b15 b15.size (by omega);refine aD<|Wl<|Lv (pf G 7) (iZ Y 7)<|Lv (.int .u8 (x.req:Int)) (aM yR.aI 7)<|Lv (aC x.req) (dG rfl rfl (by kernel_rfl) Tryz.underlying28 (jL (by omega) rfl))<|Lv (aC ((x.req:Int)+1)) eU<|Lv (pf A 12) (iZ F 12)<|jh vN 12 (aC ((x.req:Int)+1)) fun KJ AA s16 z13 => ?_;obtain⟨V8,eV8⟩ : ∃ V:EvM,V=⟨R.o,R.seq,R.deps,R.kind,R.node,R.dst,R.aU,(x.req:Int)+1,R.of⟩:=⟨_,rfl⟩;have arf:gU V8:=by rw[eV8]; exact⟨Ma.o,Ma.seq,Ma.deps,Ma.kind,Ma.node,Ma.dst,Ma.aU,(show jO ((x.req:Int)+1)from⟨by omega,by omega⟩),Ma.of⟩
  have arh:V8.o=(o:Int)+1/\V8.seq=(M.ml o).s.known o+1/\V8.deps=(M.ml o).s.known:=by rw[eV8]; exact arb
  have ari:oL V8:=by rw[eV8]; exact⟨ard.aU,by show(x.req:Int)+1<=256; omega⟩
  have zW:aP KJ A 14 (bV V8) 32:=AA.congr (fun j C=>by rw[eV8]; exact WR _ _ j C);have yS:=xV.cZ s16 (by omega);have b17:=s16.below b16 b16.size (by omega);refine Ln<|bR<|sN<|ay<|Lv (.agg (aA 14 (bV V8))) (fJ zW.aI 0 (ha:=F))<|fq yS 0 (ha:=I) (h1:=(jd _)) fun w16 zD J5 z14 => ?_;have Al:aP w16 U 14 (bV V8) 32:=aW zD;have Cc:=zW.cZ J5 (by omega);have b18:=J5.below b17 b17.size (by omega);refine aD (Wr (⟨.agg (aA 14 (bV V8)),rV Tryz.results38 ⟨_,I,aY Al.aI (by kernel_rfl) (by kernel_rfl)⟩,?_⟩));exact⟨V8,arf,ari,by rw[<- eo]; exact arh,rfl,b18⟩
 refine Lv aF (fT c94)<|av aF<|aD<|aK<|ay ?_;by_cases aiL:d.kind=4
 ·refine Lv aG (eX aiL)<|av aG<|aD<|aL<|ay<|Lv (pf G 7) (iZ Y 7)<|Lv (.int .u8 (x.req:Int)) (aM mJ.aI 7)<|Lv (aC x.req) (dG rfl rfl (by kernel_rfl) Tryz.underlying28 (jL (by omega) rfl))<|Lv (aC ((x.req:Int)+1)) eU<|Lv (pf A 12) (iZ F 12)<|jh K 12 (aC ((x.req:Int)+1)) fun TR Ao MI z15 => ?_;obtain⟨S,eV9⟩ : ∃ V:EvM,V=⟨d.o,d.seq,d.deps,d.kind,d.node,d.dst,d.aU,(x.req:Int)+1,d.of⟩:=⟨_,rfl⟩;have Mc:gU S:=by rw[eV9]; exact⟨t.o,t.seq,t.deps,t.kind,t.node,t.dst,t.aU,(show jO ((x.req:Int)+1)from⟨by omega,by omega⟩),t.of⟩
  have arj:S.o=(o:Int)+1/\S.seq=(M.ml o).s.known o+1/\S.deps=(M.ml o).s.known:=by rw[eV9]; exact hd0
  have aiM:oL S:=by rw[eV9]; exact⟨X.aU,by show(x.req:Int)+1<=256; omega⟩
  have Bg:aP TR A 14 (bV S) 32:=Ao.congr (fun j C=>by rw[eV9]; exact WR _ _ j C);have aiN:=gX MI K.ty;have yE:=jT aiN mJ;have DJ:=nC.cZ MI (by omega);have b19:=MI.below J J.size (by omega);refine aD<|Wl<|Lv (pf G 8) (iZ Y 8)<|Lv (.int .u8 (x.of:Int)) (aM yE.aI 8)<|Lv (aC x.of) (dG rfl rfl (by kernel_rfl) Tryz.underlying28 (jL (by omega) rfl))<|Lv (aC ((x.of:Int)+1)) eU<|Lv (pf A 13) (iZ F 13)<|jh Bg 13 (aC ((x.of:Int)+1)) fun R9 Ce s19 z16 => ?_;obtain⟨XT,ZP⟩ : ∃ V:EvM,V=⟨S.o,S.seq,S.deps,S.kind,S.node,S.dst,S.aU,S.req,(x.of:Int)+1⟩:=⟨_,rfl⟩;have aiO:gU XT:=by rw[ZP]; exact⟨Mc.o,Mc.seq,Mc.deps,Mc.kind,Mc.node,Mc.dst,Mc.aU,Mc.req,(show jO ((x.of:Int)+1)from⟨by omega,by omega⟩)⟩
  have aiP:XT.o=(o:Int)+1/\XT.seq=(M.ml o).s.known o+1/\XT.deps=(M.ml o).s.known:=by rw[ZP]; exact arj
  have aiQ:oL XT:=by rw[ZP]; exact⟨aiM.aU,aiM.req⟩
  have DK:aP R9 A 14 (bV XT) 32:=Ce.congr (fun j C=>by rw[ZP]; exact aiD _ _ j C);have uO:=DJ.cZ s19 (by omega);have b20:=s19.below b19 b19.size (by omega);refine Ln<|bR<|sN<|ay<|Lv (.agg (aA 14 (bV XT))) (fJ DK.aI 0 (ha:=F))<|fq uO 0 (ha:=I) (h1:=(jd _)) fun QF xB s20 z17 => ?_;have uP:aP QF U 14 (bV XT) 32:=aW xB;have oI:=DK.cZ s20 (by omega);have KH:=s20.below b20 b20.size (by omega);refine aD (Wr (⟨.agg (aA 14 (bV XT)),rV Tryz.results38 ⟨_,I,aY uP.aI (by kernel_rfl) (by kernel_rfl)⟩,?_⟩));exact⟨XT,aiO,aiQ,by rw[<- eo]; exact aiP,rfl,KH⟩
 refine Lv aF (fT aiL)<|av aF<|aD<|aK<|ay ?_;by_cases aiR:d.kind=5
 ·refine Lv aG (eX aiR)<|av aG<|aD<|aL<|ay<|aT h4<|Lv (pf A 9) (iZ F 9)<|jh K 9 (aC nd) fun TU ou s21 z18 => ?_;obtain⟨N,ZQ⟩ : ∃ V:EvM,V=⟨d.o,d.seq,d.deps,d.kind,nd,d.dst,d.aU,d.req,d.of⟩:=⟨_,rfl⟩;have D7:gU N:=by rw[ZQ]; exact⟨t.o,t.seq,t.deps,t.kind,Qd,t.dst,t.aU,t.req,t.of⟩
  have aiS:N.o=(o:Int)+1/\N.seq=(M.ml o).s.known o+1/\N.deps=(M.ml o).s.known:=by rw[ZQ]; exact hd0
  have aiT:oL N:=by rw[ZQ]; exact⟨X.aU,X.req⟩
  have pK:aP TU A 14 (bV N) 32:=ou.congr (fun j C=>by rw[ZQ]; exact EY _ _ j C);have aiU:=gX s21 K.ty;have oJ:=jT aiU mJ;have ql:=nC.cZ s21 (by omega);have MF:=s21.below J J.size (by omega);refine aD<|ay<|Lv (pf G 6) (iZ Y 6)<|Lv (.int .u16 (x.aU:Int)) (aM oJ.aI 6)<|Lv (au x.aU) (dG rfl rfl (by kernel_rfl) Tryz.underlying2 (iP (by omega) rfl))<|Lv (au ((x.aU:Int)+1)) eU<|Lv (pf A 11) (iZ F 11)<|jh pK 11 (au ((x.aU:Int)+1)) fun w21 qM s22 z19 => ?_;obtain⟨O,ZR⟩ : ∃ V:EvM,V=⟨N.o,N.seq,N.deps,N.kind,N.node,N.dst,(x.aU:Int)+1,N.req,N.of⟩:=⟨_,rfl⟩;have D8:gU O:=by rw[ZR]; exact⟨D7.o,D7.seq,D7.deps,D7.kind,D7.node,D7.dst,(show qJ ((x.aU:Int)+1)from⟨by omega,by omega⟩),D7.req,D7.of⟩
  have aiV:O.o=(o:Int)+1/\O.seq=(M.ml o).s.known o+1/\O.deps=(M.ml o).s.known:=by rw[ZR]; exact aiS
  have abo:oL O:=by rw[ZR]; exact⟨by show(x.aU:Int)+1<=65536; omega,aiT.req⟩
  have tZ:aP w21 A 14 (bV O) 32:=qM.congr (fun j C=>by rw[ZR]; exact Gm _ _ j C);have aiW:=gX s22 pK.ty;have qm:=jT aiW oJ;have sZ:=ql.cZ s22 (by omega);have TJ:=s22.below MF MF.size (by omega);refine aD ?_;obtain⟨W,er6⟩ : ∃ r,r=x.dst % 6:=⟨_,rfl⟩;have hr6:W<6:=by rw[er6]; exact J_ _ (by omega)
  refine Wl<|Lv (pf G 5) (iZ Y 5)<|Lv (.int .u8 (x.dst:Int)) (aM qm.aI 5)<|Lv (au x.dst) (dG rfl rfl (by kernel_rfl) Tryz.underlying3 (iP (by omega) rfl))<|Lv (au W) (Fx.yG rfl rfl rfl (by omega) (Gl er6))<|Lv (au ((W:Int)+1)) eU<|Lv (pf A 10) (iZ F 10)<|jh tZ 10 (au ((W:Int)+1)) fun w22 xZ s23 z20 => ?_;obtain⟨XU,ZT⟩ : ∃ V:EvM,V=⟨O.o,O.seq,O.deps,O.kind,O.node,(W:Int)+1,O.aU,O.req,O.of⟩:=⟨_,rfl⟩;have aiY:gU XU:=by rw[ZT]; exact⟨D8.o,D8.seq,D8.deps,D8.kind,D8.node,(show qJ ((W:Int)+1)from⟨by omega,by omega⟩),D8.aU,D8.req,D8.of⟩
  have aiZ:XU.o=(o:Int)+1/\XU.seq=(M.ml o).s.known o+1/\XU.deps=(M.ml o).s.known:=by rw[ZT]; exact aiV
  have aja:oL XU:=by rw[ZT]; exact⟨abo.aU,abo.req⟩
  have uf:aP w22 A 14 (bV XU) 32:=xZ.congr (fun j C=>by rw[ZT]; exact WQ _ _ j C);have AL:=sZ.cZ s23 (by omega);have TK:=s23.below TJ TJ.size (by omega);refine Ln<|bR<|sN<|ay<|Lv (.agg (aA 14 (bV XU))) (fJ uf.aI 0 (ha:=F))<|fq AL 0 (ha:=I) (h1:=(jd _)) fun w23 vR s24 z21 => ?_;have tu:aP w23 U 14 (bV XU) 32:=aW vR;have xC:=uf.cZ s24 (by omega);have b25:=s24.below TK TK.size (by omega);refine aD (Wr (⟨.agg (aA 14 (bV XU)),rV Tryz.results38 ⟨_,I,aY tu.aI (by kernel_rfl) (by kernel_rfl)⟩,?_⟩));exact⟨XU,aiY,aja,by rw[<- eo]; exact aiZ,rfl,b25⟩
 refine Lv aF (fT aiR)<|av aF<|aD<|aK<|ay ?_;by_cases ajb:d.kind=6
 ·refine Lv aG (eX ajb)<|av aG<|aD<|aL ?_;obtain⟨W,er6⟩ : ∃ r,r=x.dst % 6:=⟨_,rfl⟩;have hr6:W<6:=by rw[er6]; exact J_ _ (by omega)
  refine Wl<|Lv (pf G 5) (iZ Y 5)<|Lv (.int .u8 (x.dst:Int)) (aM mJ.aI 5)<|Lv (au x.dst) (dG rfl rfl (by kernel_rfl) Tryz.underlying3 (iP (by omega) rfl))<|Lv (au W) (Fx.yG rfl rfl rfl (by omega) (Gl er6))<|Lv (au ((W:Int)+1)) eU<|Lv (pf A 10) (iZ F 10)<|jh K 10 (au ((W:Int)+1)) fun w24 xD s25 z22 => ?_;obtain⟨XV,ZU⟩ : ∃ V:EvM,V=⟨d.o,d.seq,d.deps,d.kind,d.node,(W:Int)+1,d.aU,d.req,d.of⟩:=⟨_,rfl⟩;have ajc:gU XV:=by rw[ZU]; exact⟨t.o,t.seq,t.deps,t.kind,t.node,(show qJ ((W:Int)+1)from⟨by omega,by omega⟩),t.aU,t.req,t.of⟩
  have ajd:XV.o=(o:Int)+1/\XV.seq=(M.ml o).s.known o+1/\XV.deps=(M.ml o).s.known:=by rw[ZU]; exact hd0
  have aje:oL XV:=by rw[ZU]; exact⟨X.aU,X.req⟩
  have tC:aP w24 A 14 (bV XV) 32:=xD.congr (fun j C=>by rw[ZU]; exact WQ _ _ j C);have Er:=nC.cZ s25 (by omega);have b26:=s25.below J J.size (by omega);refine Ln<|bR<|sN<|ay<|Lv (.agg (aA 14 (bV XV))) (fJ tC.aI 0 (ha:=F))<|fq Er 0 (ha:=I) (h1:=(jd _)) fun w25 Cw s26 z23 => ?_;have zZ:aP w25 U 14 (bV XV) 32:=aW Cw;have Es:=tC.cZ s26 (by omega);have Yj:=s26.below b26 b26.size (by omega);refine aD (Wr (⟨.agg (aA 14 (bV XV)),rV Tryz.results38 ⟨_,I,aY zZ.aI (by kernel_rfl) (by kernel_rfl)⟩,?_⟩));exact⟨XV,ajc,aje,by rw[<- eo]; exact ajd,rfl,Yj⟩
 refine Lv aF (fT ajb)<|av aF<|aD<|aK<|Wk<|bR<|sN<|ay<|Lv (.agg (aA 14 (bV d))) (fJ K.aI 0 (ha:=F))<|fq nC 0 (ha:=I) (h1:=(jd _)) fun w26 AP s27 z24 => ?_;have yV:aP w26 U 14 (bV d) 32:=aW AP;have GR:=K.cZ s27 (by omega);have XJ:=s27.below J J.size (by omega);refine aD (Wr (⟨.agg (aA 14 (bV d)),rV Tryz.results38 ⟨_,I,aY yV.aI (by kernel_rfl) (by kernel_rfl)⟩,?_⟩));exact⟨d,t,X,by rw[<- eo]; exact hd0,rfl,XJ⟩
theorem Rt.RN{L:fI}{v:EvM}(h:bQ L v=0):bS v=true:=by
 unfold bQ at h;split at h; · cases h
 rename_i h1; simpa using h1
structure Rt.DoR(o:Nat)(x:GY)(M M':WM)(v:EvM):Prop where
 n:M'.n=M.n
 oth : ∀ q,q≠o->M'.ml q=M.ml q
 c:(v=zeroE/\M'.an=M.an/\M'.ev=M.ev/\((M'.ml o).core=(M.ml o).core\/x.meet=true/\(M'.ml o).core=F4 M.ev M.an (M.ml (x.other % M.n)).s.known (M.ml o).core))\/(x.meet=false/\M'.an=M.an+1/\M'.ev=aH M.ev M.an v/\bQ (M.ml o).core v=0/\(M'.ml o).core=dH (M.ml o).core v/\v.o=(o:Int)+1/\v.seq=(M.ml o).s.known o+1/\v.deps=(M.ml o).s.known)
theorem Rt.Dk{L:fI}{v:EvM}(h:bQ L v=0):(dH L v).known=aH L.known (aO v) (L.known (aO v)+1):=by
 rcases rQ L v with ⟨_,a⟩|⟨h1,_⟩
 ·exact a
 exact M_ h h1
theorem Rt.Md:gU zeroE:=by
 have z:jO 0:=⟨by decide,by decide⟩;have y:qJ 0:=⟨by decide,by decide⟩;exact⟨y,z,fun _ _=>z,⟨by decide,by decide⟩,z,y,y,z,z⟩
def XW(p:Nat)(M:WM)(k:Nat):Prop:=k=p\/(Value.slice M.la M.n M.lc).ownBlock=some k\/(Value.slice M.aa M.an M.ac).ownBlock=some k
def ZV(w:World)(p:Nat)(M a:WM):Prop := ∀ k,XW p a k->XW p M k\/w.heap.size<=k
theorem oM.ge{w:World}{B p T:Nat}{M:WM}(h:oM w B p M T) : ∀ k,XW p M k->B<=k/\k<w.heap.size:=fun k b=>by
 rcases b with rfl|e|e
 ·exact⟨h.pB,h.c.lt⟩
 ·exact h.l.ge e
 ·exact h.a.ge e
theorem oM.Gj{w w':World}{B p T:Nat}{M:WM}(h:oM w B p M T)(a:B<=w.heap.size)(c:jZ (XW p M) w w'):Below B w w':=Fx.jZ.below (Below.refl B w) c (fun k b=>(h.ge k b).1) a
theorem oM.Cj{w w':World}{B p T:Nat}{M:WM}(h:oM w B p M T)(d:jZ (XW p M) w w'):iA [44,72,32] w w':=Fx.iA.SN d fun k b=>by
 rcases b with rfl|e|e
 ·exact⟨_,h.c.ty,by decide⟩
 ·exact⟨_,h.l.ty e,by decide⟩
 ·exact⟨_,h.a.ty e,by decide⟩
theorem ZV.app{w b:World}{p g:Nat}{M a:WM}(i:(Value.slice M.aa M.an M.ac).ownBlock=some g\/g=b.heap.size)(l:w.heap.size<=b.heap.size)(h1:a.la=M.la:=by rfl)(c:a.n=M.n:=by rfl)(d:a.lc=M.lc:=by rfl)(f:(Value.slice a.aa a.an a.ac).ownBlock=some g:=by rfl):ZV w p M a:=fun k j=>by
 rcases j with h|h|h
 ·exact .inl (.inl h)
 ·rw[h1,c,d]at h; exact .inl (.inr (.inl h))
 ·have e:=C_ (f.symm.trans h)
  rcases i with h5|h5
  ·exact .inl (.inr (.inr (e ▸ h5)))
  ·exact .inr (by omega)
theorem oM.mono{w:World}{B p T T':Nat}{M:WM}(h:oM w B p M T)(a:T<=T'):oM w B p M T' := { h with inv:=fun i b=>(h.inv i b).mono a }
set_option maxRecDepth 20000 in
set_option maxHeartbeats 2000000 in
theorem ajf(M:WM)(B p T:Nat)(x:GY)(w:World)(d:oM w B p M T)(hB:B<=w.heap.size)(hx:IK x)(han:M.an<=60)(hT:T<=890000) :
 Calls Tryz.prog 13 #[(pt p),.agg (aA 9 (GZ x))] w fun e w' => ∃ v,e = .returned (.agg (aA 14 (bV v)))/\gU v /\ ∃ O,oM w' B p O (T+3660)/\DoR (x.who % M.n) x M O v/\O.an<=M.an+1/\(x.meet=true->O.an=M.an)/\jZ (XW p M) w w'/\ZV w p M O:=by
 have hWc:=d.c;have hWl:=d.l;have hWa:=d.a;have hWg:=d.g;have hn1:=d.n1;have hn6:=d.n6;have hpB:=d.pB;have hxw:=hx.who;have hxo:=hx.other;have hxk:=hx.kind;have hxn:=hx.node;have hxt:=hx.dst;have hxa:=hx.aU;have hxr:=hx.req;have hxf:=hx.of;refine Kent Tryz.func13 94 ?_;refine ay<|rE fun g1 w1 lN m1 s1 z1 => ?_;have⟨m2,f,m4,m5,m6⟩:=tQ s1.old hWc hWl hWa hWg d;have b1:=(vw (XW p M) w).then s1 (.inr (vw (XW p M) w).size);have tN:w.heap.size<=g1:=by rw[lN]; exact(vw (XW p M) w).size
 have nI:=cu lN hWc.lt;have uM:=m1.lt;refine uW 14 (fun b=>if b<1 then au 0 else if b<8 then aC 0 else if b<9 then .int .u8 (0)else if b<10 then aC 0 else if b<12 then au 0 else aC 0) fun R w2 ad m7 s2 z2 => ?_;have⟨m8,m9,m10,m11,m12,m13⟩:=tT s2.old m2 f m4 m5 m6 m1;have b2:=b1.then s2 (.inr b1.size);have qW:=iT ad b1.size;have abb:=cu ad m2.lt;have Gc:(.slice M.aa (M.an) (M.ac):Value).ownBlock≠some R:=by rw[ad]; exact m4.jo (A_ _)
 have ze:=cu ad m1.lt;have zY:=m7.lt;refine aD<|Ws ?_;obtain⟨o,Q⟩ : ∃ r,r=x.who % M.n:=⟨_,rfl⟩;have ho:o<M.n:=by rw[Q]; exact J_ _ (by omega)
 refine yN<|aX (pt g1)<|Qv (.int .u8 (x.who:Int)) (fun D C=>aM (m13.aI.dr C) 0)<|Qv (au x.who) (fun D C=>dG rfl rfl (by kernel_rfl) Tryz.underlying3 (iP (by omega) rfl))<|aX (pt p)<|aX (pt p)<|aX (pt p)<|Qv (.slice M.la (M.n) (M.lc)) (fun D C=>aM (m8.aI.dr C) 0)<|aX (au M.n)<|Qv (au o) (fun D C=>Fx.yG rfl rfl rfl (by omega) (Gl Q))<|aX (au o)<|Qn ?_;rintro _ ⟨qd,rfl⟩;obtain⟨Em,sV⟩ : ∃ D,D=World.drewN w2 qd:=⟨_,rfl⟩;rw[<- sV];have s3:Stp w2.heap.size w2 Em:=by rw[sV]; exact Sb (jS w2 qd)
 have⟨m14,m15,m16,m17,m18,Y,m20⟩:=jM s3.old m8 m9 m10 m11 m12 m13 m7;have Z:=b2.then s3 (.inr b2.size);clear sV;refine sN<|Ws<|ay<|av (pf g1 1) ?_;by_cases H:x.meet=true
 ·refine Lv aG (aM Y.aI 1 ((show _=Value.bool x.meet from rfl).trans (L_ Value.bool H)))<|aD<|aL<|Ws ?_;obtain⟨A,afa⟩ : ∃ r,r=x.other % M.n:=⟨_,rfl⟩;have axA:A<M.n:=by rw[afa]; exact J_ _ (by omega)
  have ZN:=m17 A (by omega);have Gn:=ZN.c;have ZO:=m17 o (by omega);refine kJ [0,1,2,4,5,6,7,9,12,13,14,16,17,18,20,23,24,25,3,8,10,11,15,19,21,22,26,27,28,29,30,31,32,33,34,35,36,37] [0,0,0,1,0,0,0,0,4,0,0,4,0,0,0,4,0,0,0,4,0,4,0,0,0,0,4,0,0,0,4,0,0,0,4,2,0,3] [(37,3,[3]),(35,8,[11,10,8]),(37,8,[8]),(35,11,[11]),(37,11,[11]),(35,15,[15]),(37,15,[15]),(35,19,[34,33,32,31,30,29,19]),(37,19,[19]),(35,21,[34,33,32,31,30,29,28,22,21]),(37,21,[21]),(35,26,[34,33,32,31,30,29,28,27,26]),(37,26,[26]),(35,30,[34,33,32,31,30]),(37,30,[30]),(35,34,[34]),(37,34,[34]),(36,35,[35]),(37,35,[35])] fun rG dZ iJ => ?_;have s4:Stp Em.heap.size Em rG:=Sb dZ;have⟨G,m22,m23,m24,nP,oG,nY,nZ⟩:=kW dZ m14 m15 m16 m17 Y m20 Gn ZO;have b4:=Z.then s4 (.inr Z.size);refine bf (pt p)<|bf (pt p)<|bf (pt p)<|bf (au o)<|bf (pt p)<|bf (pt p)<|bf (pt p)<|bf (au o)<|bf (pt p)<|bf (pt p)<|bf (pf p 1)<|bf (pt p)<|bf (pt p)<|bf (pt p)<|bf (pf g1 2)<|bf (pt p)<|bf (pt p)<|bf (pt p)<|Rd (v := .slice M.la (M.n) (M.lc)) (by rfl) (by rfl) (vB _) (fun D C=>bB (x:=GX (.slice M.la (M.n) (M.lc)) (.slice M.aa (M.an) (M.ac))) rfl rfl (by kernel_rfl) (G.aI.below C (by have:=G.lt; omega)) (i:=0) (by omega) (by omega) rfl) ?_;refine Rs (.slice M.la (M.n) (M.lc)) (aM G.aI 0) ?_;obtain⟨S,J⟩:=m22.addr (by omega);have oH:Fx.Own rG B 72 1 (bO S M.n M.lc) M.n (IE M.pl):=m22.eH (L_ (fun q=>Value.slice q M.n M.lc) J);refine Rp (pf S o) (fun _=>dh 1 (hx:=(rfl.trans (L_ (fun q=>Value.slice q (M.n) (M.lc)) J))))<|Rs (pt (M.pl o)) (aM oH.aI o) ?_;refine Rs (.slice M.aa (M.an) (M.ac)) (aM G.aI 1) ?_;refine Rs (.slice M.la (M.n) (M.lc)) (aM G.aI 0) ?_;refine Rs (.int .u8 (x.other:Int)) (aM nP.aI 2) ?_;refine Rp (au x.other) (fun D=>dG rfl rfl (by kernel_rfl) Tryz.underlying3 (iP (by omega) rfl))<|Rs (.slice M.la (M.n) (M.lc)) (aM G.aI 0) ?_;refine bf (au M.n)<|Rp (au A) (fun D=>Fx.yG rfl rfl rfl (by omega) (Gl afa))<|Rp (pf S A) (fun _=>dh 1 (hx:=(rfl.trans (L_ (fun q=>Value.slice q (M.n) (M.lc)) J))))<|Rs (pt (M.pl A)) (aM oH.aI A) ?_;refine bf (pt (M.pl A))<|bf (pt (M.pl A))<|bf (pf (M.pl A) 12)<|Rs (.agg (aA 6 (rv .u64 ((M.ml A).s.known)))) (fJ nY.aI 12 (fun j W=>mF _ (by omega) (nK _ W (by omega)))) ?_;refine Dw<|lU (Y5 (M.ml o) B (M.pl o) T M.aa M.an M.ac M.ev ((M.ml A).s.known) _ nZ (d.inv o (by omega)) m23.arr d.wf d.may d.sm han hT) ?_;rintro e9 w3 ⟨t,f,E,hlc,hI3,hL1,hb1⟩;refine⟨(pt t),E,?_⟩;clear E;have s5:=Sb hb1;have⟨pG,nA,m32,oO,qH⟩:=tQ hb1 G m23 m24 oG oH;have b5:=b4.then s5 (.inr b4.size);refine Ln ⟨s5.old,?_⟩;refine Rp (pf S o) (fun _=>dh 1 (hx:=(rfl.trans (L_ (fun q=>Value.slice q (M.n) (M.lc)) J))))<|gQ<|qB qH o (pt t) fun w4 nS s6 z3 => ?_;have gD:=gX s6 qH.Kk;have⟨rU,pV,sJ,mJ,sK⟩:=rF gD pG nA m32 oO hL1;have b6:=b5.then s6 (.inl (.inr (.inl (by rw[J]; rfl))));have rJ:Fx.Own w4 B 72 1 (bO S M.n M.lc) M.n (IE (aH M.pl o t)):=nS.congr (fun F _=>congrFun WL F);refine Ln<|bT<|ay<|av (.agg (aA 14 (fun b=>if b<1 then au 0 else if b<8 then aC 0 else if b<9 then .int .u8 (0)else if b<10 then aC 0 else if b<12 then au 0 else aC 0)))<|fq mJ 0 (h1:=(fun F _=>by show((fun b=>if b<1 then au 0 else if b<8 then aC 0 else if b<9 then .int .u8 (0)else if b<10 then aC 0 else if b<12 then au 0 else aC 0:Nat->Value) F).oneCell'=true; simp only[]; repeat (first|rfl|split))) fun w5 og s7 z4 => ?_
  have qV:aP w5 R 14 (fun b=>if b<1 then au 0 else if b<8 then aC 0 else if b<9 then .int .u8 (0)else if b<10 then aC 0 else if b<12 then au 0 else aC 0) 32:=aW og;have jv:=gX s7 mJ.ty;have wT:=jT jv rU;have tV:=pV.cZ s7 Gc;have⟨rW,uN,vL⟩:=Ec jv sJ sK rJ;have b7:=b6.then s7 (.inr qW);refine aD (Wr (sR (⟨.agg (aA 14 (fun b=>if b<1 then au 0 else if b<8 then aC 0 else if b<9 then .int .u8 (0)else if b<10 then aC 0 else if b<12 then au 0 else aC 0)),rV Tryz.results13 ⟨_,rfl,aY qV.aI (by kernel_rfl) (by kernel_rfl)⟩,?_⟩)));have wz:Fx.Own w5 B 72 1 (.slice M.la (M.n) (M.lc)) M.n (IE (aH M.pl o t)):=vL.eH (L_ (fun q=>Value.slice q M.n M.lc) J.symm);exact⟨zeroE,L_ (fun z=>Ending.returned (Value.agg z)) (Fx.fB (y:=bV zeroE) fun j W=>by rcases j with _|_|_|_|_|_|_|_|_|_|_|_|_|_|j <;> first|rfl|omega),Md,{ M with pl:=aH M.pl o t,ml:=aH M.ml o f },{ c:=wT,l:=wz,a:=tV,g:=rW.put uN,inv:=(fun i U=>by show Inv (aH M.ml o f i).core _; unfold aH; split; exact hI3; exact(d.inv i U).mono (by omega)),wf:=d.wf,may:=d.may,sm:=d.sm,cz:=d.cz.learn (o:=o) (by omega) (L:=(M.ml o).core) rfl (fun q u=>by show(aH M.ml o f q).s.known=_; unfold aH; rw[b_ u]) (by show(aH M.ml o f o).s.known=_; unfold aH; rw[d_ rfl]; exact L_ fI.known hlc),pB:=hpB,n1:=hn1,n6:=hn6 },(by rw[<- Q]; exact⟨rfl,fun q u=>by show aH M.ml o f q=_; unfold aH; rw[b_ u],.inl ⟨rfl,rfl,rfl,.inr ⟨H,by rw[<- afa]; show(aH M.ml o f o).core=_; unfold aH; rw[d_ rfl]; exact hlc⟩⟩⟩),(by show M.an<=M.an+1; omega),(fun _=>rfl),b7,fun _ h => .inl h⟩
 rw[U_]at H;refine Lv aF (aM Y.aI 1 ((show _=Value.bool x.meet from rfl).trans (L_ Value.bool H)))<|aD<|aK<|Wk<|sN<|ay<|av (pt p)<|Lv (.agg (aA 9 (GZ x))) (fJ Y.aI 0)<|lU (ZM M B p T x _ m18 hx) ?_;rintro e9 w6 ⟨V,hV,hVs,hVd,E,hb2⟩;refine⟨_,E,?_⟩;clear E;rw[<- Q]at hVd;have s8:=Sb hb2;have⟨uw,uy,uz,wU,vM,oh⟩:=tT hb2 m14 m15 m16 m17 Y m20;have b8:=Z.then s8 (.inr Z.size);refine uW 14 (fun b=>if b<1 then au 0 else if b<8 then aC 0 else if b<9 then .int .u8 (0)else if b<10 then aC 0 else if b<12 then au 0 else aC 0) fun g3 w7 ae tX s9 z5 => ?_;have⟨m64,wV,wB,wW,wX,sM⟩:=tT s9.old uw uy uz wU vM oh;have b9:=b8.then s9 (.inr b8.size);have Aj:=iT ae b8.size;have arn:=cu ae uw.lt;have Oq:(.slice M.aa (M.an) (M.ac):Value).ownBlock≠some g3:=by rw[ae]; exact uz.jo (A_ _)
 have⟨aro,arp⟩:=vH ae vM.lt oh.lt;have J6:=tX.lt;refine fq tX 0 (h1:=(jd _)) fun w8 uY s10 z6 => ?_;have uD:aP w8 g3 14 (bV V) 32:=aW uY;have qc:=gX s10 tX.ty;have⟨wC,uZ⟩:=Bt qc m64 wV;have yx:=wB.cZ s10 Oq;have⟨wD,yA⟩:=Bt qc wW wX;have yB:=sM.cZ s10 (by omega);have b10:=b9.then s10 (.inr Aj);refine aD<|Ws ?_;have arq:=wD o (by omega);refine kJ [0,1,2,4,3,5,6,7,8,9,10,11,12,13] [0,0,0,4,0,0,4,4,3,0,0,0,0,0] [(8,3,[6,5,3]),(8,6,[6]),(8,7,[7]),(9,8,[8]),(10,8,[9,8]),(11,8,[9,8]),(12,8,[8]),(13,8,[8])] fun Dx gI nX => ?_;have s11:Stp w8.heap.size w8 Dx:=Sb gI;have⟨yC,wY,wE,vg,vN,yR,xV,AA⟩:=kW gI wC uZ yx wD yA yB uD arq;have b11:=b10.then s11 (.inr b10.size);refine bf (pt p)<|bf (pt p)<|bf (pt p)<|bf (au o)<|Rs (.slice M.la (M.n) (M.lc)) (aM yC.aI 0) ?_;obtain⟨NC,K⟩:=wY.addr (by omega);have zW:Fx.Own Dx B 72 1 (bO NC M.n M.lc) M.n (IE M.pl):=wY.eH (L_ (fun q=>Value.slice q M.n M.lc) K);refine Rp (pf NC o) (fun _=>dh 1 (hx:=(rfl.trans (L_ (fun q=>Value.slice q (M.n) (M.lc)) K))))<|Rs (pt (M.pl o)) (aM zW.aI o) ?_;refine Rs (.agg (aA 14 (bV V))) (fJ xV.aI 0) ?_;refine gQ<|lU (Pp (M.ml o) B (M.pl o) T V _ AA hV (d.inv o (by omega)).w (by omega)) ?_;rintro e9 w9 ⟨t,f,E,hc3,hL2,hb3⟩;refine⟨.tuple #[(pt t),au (bQ (M.ml o).core V)],E,?_⟩;clear E;have s12:=Sb hb3;have⟨zX,yS,zD,Al,Dz,Cc,Ao⟩:=jM hb3 yC wE vg vN yR xV zW;have b12:=b11.then s12 (.inr b11.size);refine Ln<|bf (.tuple #[(pt t),au (bQ (M.ml o).core V)])<|bf (pt t)<|bf (au (bQ (M.ml o).core V))<|bf (pt t)<|bf (au (bQ (M.ml o).core V))<|bT<|Ws<|ay<|av (au (bQ (M.ml o).core V)) ?_;by_cases I:(bQ (M.ml o).core V)=0
 ·refine Lv aF (ko I)<|aD<|aK<|Wk<|sN<|ay<|av (pt p)<|av (pt p)<|av (pt p)<|Lv (.slice M.la (M.n) (M.lc)) (aM zX.aI 0)<|av (au o)<|av (pt t)<|Lv (pf NC o) (dh 1 (hx:=(rfl.trans (L_ (fun q=>Value.slice q (M.n) (M.lc)) K))))<|qB Ao o (pt t) fun sI Bg s13 z7 => ?_;have yQ:=gX s13 Ao.Kk;have⟨yE,DJ,Ce,DK,Eo,uO,xB⟩:=SV yQ zX yS zD Al Dz Cc hL2;have b13:=b12.then s13 (.inl (.inr (.inl (by rw[K]; rfl))));have uP:Fx.Own sI B 72 1 (bO NC M.n M.lc) M.n (IE (aH M.pl o t)):=Bg.congr (fun F _=>congrFun WL F);refine aD<|Ws ?_;have rM:Fx.Own sI B 72 1 (.slice M.la (M.n) (M.lc)) M.n (IE (aH M.pl o t)):=uP.eH (L_ (fun q=>Value.slice q M.n M.lc) K.symm);refine Bp [0,1,2,3,4,5,6,7,8,9,10] [0,0,0,0,1,4,2,2,0,0,3] (iA [32]) wm Fx.iA.trans (fO := [(10,4,[4]),(6,5,[5]),(7,5,[6,5]),(10,5,[5]),(7,6,[6]),(8,6,[6]),(9,6,[6]),(10,6,[6]),(8,7,[7]),(9,7,[7]),(10,7,[7])]) (by kernel_rfl) (by kernel_rfl) (by kernel_rfl) (by kernel_rfl) (by kernel_rfl) fun R8 lZ BA => ?_;have Ej:Stp sI.heap.size sI R8:=Sb lZ;have⟨oI,ou,pK,oJ,ql,qM,tZ,qm⟩:=kW lZ yE DJ Ce DK Eo uO xB rM;have b14:=b13.then Ej (.inr b13.size);refine bf (pt p)<|bf (pt p)<|bf (pt p)<|bf (pf p 1)<|Rd (v := .slice M.aa (M.an) (M.ac)) (by rfl) (by rfl) (wm _) (fun D C=>bB (x:=GX (.slice M.la (M.n) (M.lc)) (.slice M.aa (M.an) (M.ac))) rfl rfl (by kernel_rfl) (oI.kV C (by decide)).aI (i:=1) (by omega) (by omega) rfl) ?_;refine Rs (.agg (aA 14 (bV V))) (fJ qM.aI 0) ?_;refine Dw<|xY (vs := [(0,.agg (aA 14 (bV V)))]) (s:=14) (zc:=fun b=>if b<1 then au 0 else if b<8 then aC 0 else if b<9 then .int .u8 (0)else if b<10 then aC 0 else if b<12 then au 0 else aC 0) (y:=aZ (fun j=>(fun b=>if b<1 then au 0 else if b<8 then aC 0 else if b<9 then .int .u8 (0)else if b<10 then aC 0 else if b<12 then au 0 else aC 0) (j % 14)) (0*14) 14 (bV V)) (by rfl) rfl rfl Tryz.underlying42 (by kernel_rfl) (by rfl) (by rfl) (by kernel_rfl) (by rw[aR (off:=0*14) (s:=14) (y:=bV V) rfl (bD _ _) (by rfl)]; rfl) rfl fun g4 xU af sZ s15 z8 => ?_;have⟨xZ,uf,yc,vR,tu,pO,xC⟩:=jM s15.old oI ou pK ql qM tZ qm;have b15:=b14.then s15 (.inr b14.size);have Rc:=iT af b14.size;have YO:=cu af oI.lt;have YP:(.slice M.aa (M.an) (M.ac):Value).ownBlock≠some g4:=by rw[af]; exact ou.jo (A_ _)
  have⟨akY,akZ,YQ⟩:=Ed af oJ.lt ql.lt qM.lt;have Rf:=sZ.lt;refine Ln ⟨Fx.iA.of_below s15.old,?_⟩;refine Dw<|yu (B:=B) (s:=14) (bytes:=112) (k:=M.an) (m:=1) (v := .slice M.aa (M.an) (M.ac)) (x:=evX M.ev) (by rfl) rfl rfl rfl Tryz.underlying42 (by kernel_rfl) (by kernel_rfl) rfl rfl uf sZ.aI (uI (fun j=>(show(bV V j).oneCell'=true by unfold bV; repeat (first|rfl|split)))) (by omega) (by omega) (by omega) (m_ hB b15.size) fun N ab Dy ho1 hg1 sH hlt1 => ?_
  have zU:=yJ hg1 uf;have⟨tC,AO⟩:=Bt zU xZ yc;have Cw:=vR.grown hg1 Gc;have ala:R≠N:=fun e=>sH.elim (fun P=>Gc (by rw[e]; exact P)) (fun P=>by have:=vR.lt; omega);have zZ:=tu.grown hg1 Oq;have alb:g3≠N:=fun e=>sH.elim (fun P=>Oq (by rw[e]; exact P)) (fun P=>by have:=tu.lt; omega);have⟨Cx,Es⟩:=Bt zU pO xC;have xD:Fx.Own Dy B 32 14 (bO N (M.an+1) ab) (M.an+1) (evX (aH M.ev M.an V)):=(ho1.congr (fun j W=>aeX j W));have b16:jZ (XW p M) w Dy:=Fx.jZ.grow b15 hg1 (fun q u => .inl (.inr (.inr u)));refine Ln ⟨zU,?_⟩;refine bf (pt p)<|bf (pf p 1)<|gQ<|jh tC 1 (bO N (M.an+1) ab) fun EI AP s16 z9 => ?_;have yV:aP EI p 2 (GX (.slice M.la (M.n) (M.lc)) (bO N (M.an+1) ab)) 44:=AP.congr (aiA _ _ _);have zV:=gX s16 tC.ty;have⟨FU,Cy,CB,Et,Eu,AQ⟩:=SS zV AO Cw zZ Cx Es xD;have b17:=b16.then s16 (.inl (.inl rfl));refine Ln<|bT<|ay<|Lv (.agg (aA 14 (bV V))) (fJ CB.aI 0)<|fq Cy 0 (h1:=(jd _)) fun MG CF J5 z10 => ?_;have AU:aP MG R 14 (bV V) 32:=aW CF;have BH:=gX J5 Cy.ty;have CO:=jT BH FU;have yg:=CB.cZ J5 (by omega);have⟨yX,yh⟩:=Bt BH Et Eu;have BI:=AQ.X6 J5 (by omega);have K4:=jT BH yV;have b18:=b17.then J5 (.inr qW);refine aD (Wr (⟨.agg (aA 14 (bV V)),rV Tryz.results13 ⟨_,rfl,aY AU.aI (by kernel_rfl) (by kernel_rfl)⟩,?_⟩));have hinv:Inv f.core (T+3660):=by rw[hc3]; exact(Ii hVs (d.inv o (by omega))).mono (by omega)
  have eRo:aO V=o:=by unfold aO; omega
  have hk3:f.s.known=aH (M.ml o).s.known o ((M.ml o).s.known o+1):=(L_ fI.known hc3).trans (by rw[Dk I,eRo]; rfl);exact⟨V,rfl,hV,{ M with pl:=aH M.pl o t,ml:=aH M.ml o f,an:=M.an+1,aa:=some ⟨N,0,none⟩,ac:=ab,ev:=aH M.ev M.an V },{ c:=K4,l:=yh,a:=BI,g:=CO.put yX,inv:=(fun i U=>by show Inv (aH M.ml o f i).core _; unfold aH; split; exact hinv; exact(d.inv i U).mono (by omega)),wf:=(fun k X=>by have hk2:k<M.an+1:=X; show gU (aH M.ev M.an V k); unfold aH; split; exact hV; exact d.wf k (by omega)),may:=(fun k X=>by have hk2:k<M.an+1:=X; show bS (aH M.ev M.an V k)=true; unfold aH; split; exact RN I; exact d.may k (by omega)),sm:=(fun k X=>by have hk2:k<M.an+1:=X; show oL (aH M.ev M.an V k); unfold aH; split; exact hVs; exact d.sm k (by omega)),cz:=d.cz.event (o:=o) (by omega) (jV I) eRo hVd.2.2 (fun q u=>by show(aH M.ml o f q).s.known=_; unfold aH; rw[b_ u]) (by show(aH M.ml o f o).s.known=_; unfold aH; rw[d_ rfl]; exact hk3),pB:=hpB,n1:=hn1,n6:=hn6 },(by rw[<- Q]; exact⟨rfl,fun q u=>by show aH M.ml o f q=_; unfold aH; rw[b_ u],.inr ⟨H,rfl,rfl,I,by show(aH M.ml o f o).core=_; unfold aH; rw[d_ rfl]; exact hc3,hVd⟩⟩),A_ _,(fun u=>by rw[H]at u; cases u),b18,ZV.app sH b15.size⟩
 refine Lv aG (nN I)<|aD<|aL<|ay<|av (.agg (aA 14 (fun b=>if b<1 then au 0 else if b<8 then aC 0 else if b<9 then .int .u8 (0)else if b<10 then aC 0 else if b<12 then au 0 else aC 0)))<|fq Dz 0 (h1:=(fun F _=>by show((fun b=>if b<1 then au 0 else if b<8 then aC 0 else if b<9 then .int .u8 (0)else if b<10 then aC 0 else if b<12 then au 0 else aC 0:Nat->Value) F).oneCell'=true; simp only[]; repeat (first|rfl|split))) fun KJ JA MI z11 => ?_
 have K5:aP KJ R 14 (fun b=>if b<1 then au 0 else if b<8 then aC 0 else if b<9 then .int .u8 (0)else if b<10 then aC 0 else if b<12 then au 0 else aC 0) 32:=aW JA;have FI:=gX MI Dz.ty;have Js:=jT FI zX;have Rh:=yS.cZ MI Gc;have Nr:=jT FI zD;have Ns:=Cc.cZ MI (by omega);have K6:=jT FI Ao;have b19:=b12.then MI (.inr qW);refine aD (Wr (sR (⟨.agg (aA 14 (fun b=>if b<1 then au 0 else if b<8 then aC 0 else if b<9 then .int .u8 (0)else if b<10 then aC 0 else if b<12 then au 0 else aC 0)),rV Tryz.results13 ⟨_,rfl,aY K5.aI (by kernel_rfl) (by kernel_rfl)⟩,?_⟩)));have Jt:Fx.Own KJ B 72 1 (.slice M.la (M.n) (M.lc)) M.n (IE M.pl):=K6.eH (L_ (fun q=>Value.slice q M.n M.lc) K.symm);exact⟨zeroE,L_ (fun z=>Ending.returned (Value.agg z)) (Fx.fB (y:=bV zeroE) fun j W=>by rcases j with _|_|_|_|_|_|_|_|_|_|_|_|_|_|j <;> first|rfl|omega),Md,M,{ c:=Js,l:=Jt,a:=Rh,g:=Nr,inv:=fun i U=>(d.inv i U).mono (by omega),wf:=d.wf,may:=d.may,sm:=d.sm,cz:=d.cz,pB:=hpB,n1:=hn1,n6:=hn6 },⟨rfl,fun _ _=>rfl,.inl ⟨rfl,rfl,rfl,.inl rfl⟩⟩,by omega,(fun _=>rfl),b19,fun _ h => .inl h⟩
theorem ajg(M:WM)(B p T:Nat)(x:GY)(w:World)(c:oM w B p M T)(b:B<=w.heap.size)(hx:IK x)(m:M.an<=60)(l:T<=890000) :
 Calls Tryz.prog 13 #[(pt p),.agg (aA 9 (GZ x))] w fun e w' => ∃ v,e = .returned (.agg (aA 14 (bV v)))/\gU v /\ ∃ a,oM w' B p a (T+3660)/\DoR (x.who % M.n) x M a v/\a.an<=M.an+1/\(x.meet=true->a.an=M.an)/\Below B w w' :=
 (ajf M B p T x w c b hx m l).mono fun _ _ ⟨v,d,f,a,g,h,i,j,k,_⟩=>⟨v,d,f,a,g,h,i,j,c.Gj b k⟩
end Go.Proofs.YtahbiajdgealnaaGreatDoor
namespace Go.Proofs.YtahbiajdgealnaaGreatDoor
open Go.RowKit Go.WideShapes Go.ChangeShapes Go.Deep Rt
def WT:Value->Bool | .bool b=>b|_=>false
theorem Sj.int{k:IntKind}{v:Value}(h:Sj (some k) v):v = .int k (intOf v)/\(Lit.int k (intOf v)).wf=true:=by
 obtain⟨n,rfl,a⟩:=h; exact⟨rfl,a⟩
theorem Sj.bool{v:Value}(h:Sj none v):v = .bool (WT v):=by
 obtain⟨b,rfl⟩:=h; rfl
theorem wf_u8{n:Int}(h:(Lit.int .u8 n).wf=true):0<=n/\n<=255:=by simp[Lit.wf,IntKind.min,IntKind.max,IntKind.bits,IntKind.signed]at h; omega
theorem wf_u16{n:Int}(h:(Lit.int .u16 n).wf=true):0<=n/\n<=65535:=by simp[Lit.wf,IntKind.min,IntKind.max,IntKind.bits,IntKind.signed]at h; omega
theorem Ot{n:Int}(h:(Lit.int .u8 n).wf=true) : ∃ m:Nat,n=(m:Int)/\m<=255:=by
 have:=wf_u8 h; exact⟨n.toNat,by omega,by omega⟩
theorem Fx.nT.congr{w:World}{a:Option Addr}{n s:Nat}{x y:Nat->Value}(h:Fx.nT w a n s x)(e : ∀ p,p<n*s->x p=y p):Fx.nT w a n s y:=fun f=>by
 obtain⟨b,j,d,g⟩:=h f;exact⟨b,j,d,fun i c=>by rw[<- e i c]; exact g i c⟩
def WU:List (Option IntKind) := [some .u8,none,some .u8,some .u8,some .u8,some .u8,some .u16,some .u8,some .u8]
def WV(X:Nat->Value):GY:=⟨(intOf (X 0)).toNat,WT (X 1),(intOf (X 2)).toNat,(intOf (X 3)).toNat,(intOf (X 4)).toNat,(intOf (X 5)).toNat,(intOf (X 6)).toNat,(intOf (X 7)).toNat,(intOf (X 8)).toNat⟩
theorem Me{X:Nat->Value}(h : ∀(j:Nat) (k:Option IntKind),WU[j]? = some k->Sj k (X j)):IK (WV X) /\ ∀ j,j<9->X j=GZ (WV X) j:=by
 have a : ∀ j,WU[j]? = some (some .u8)->X j = .int .u8 ((intOf (X j)).toNat:Int)/\(intOf (X j)).toNat<=255:=fun j d=>by
  obtain⟨e,b⟩:=(h j _ d).int;have:=wf_u8 b;exact⟨by rw[Int.toNat_of_nonneg this.1]; exact e,by omega⟩
 have c:X 6 = .int .u16 ((intOf (X 6)).toNat:Int)/\(intOf (X 6)).toNat<=65535:=by
  obtain⟨e,b⟩:=(h 6 (some .u16) rfl).int;have:=wf_u16 b;exact⟨by rw[Int.toNat_of_nonneg this.1]; exact e,by omega⟩
 refine⟨⟨(a 0 rfl).2,(a 2 rfl).2,(a 3 rfl).2,(a 4 rfl).2,(a 5 rfl).2,c.2,(a 7 rfl).2,(a 8 rfl).2⟩,fun j d => ?_⟩
 rcases j with _|_|_|_|_|_|_|_|_|j
 ·exact(a 0 rfl).1
 ·exact(h 1 none rfl).bool
 ·exact(a 2 rfl).1
 ·exact(a 3 rfl).1
 ·exact(a 4 rfl).1
 ·exact(a 5 rfl).1
 ·exact c.1
 ·exact(a 7 rfl).1
 ·exact(a 8 rfl).1
 omega
section
variable {H:Type} {enc:TypeId × Value->H} {P:Program} {w:World}
theorem RO{t e:TypeId}{a:Option Addr}{len cap D:Nat}{d:DataW H}{r:List MemPlace}(q:P.underlying t=some (.slice e))(b:zk P D e=some WU)(l:P.cellsOf e=9)
 (h:DataW.Trod enc P w 0 (fun _=>true) true t (.slice a len cap) d r) : ∃ g:Nat->GY,(∀ i,i<len->IK (g i))/\Fx.nT w a len 9 (Fx.flat 9 fun k=>GZ (g k)):=by
 obtain⟨v,n⟩:=h;obtain⟨s,x,u,f,_,_,X,c,m⟩:=RL q b l (by decide) n;simp[Value.cells]at f;obtain⟨rfl,rfl,rfl⟩:=f;exact⟨fun i=>WV (X i),fun i o=>(Me (c i o)).1,m.congr (Fx.bM fun k b j p=>(Me (c k b)).2 j p)⟩
end
end Go.Proofs.YtahbiajdgealnaaGreatDoor
namespace Go.Proofs.YtahbiajdgealnaaGreatDoor
open Go.RowKit Rt
open Fx (Lv sN Ln Ws Wl Wr Sb Wk sR Wb Wx Wo Bj xY yu Cg gX yJ wm tO yt rv aA aP aZ aN ev aW flat aR iI nT bM bD cells_one iA gY dM bP bR bY bZ gJ gL pY)
theorem afb{B:Nat}{a b c:World}(h:Below a.heap.size a b)(e:Below B b c)(d:a.heap.size<=B):Below a.heap.size a c:=h.trans (e.mono d)
theorem wF.Ca{w w':World}{B p:Nat}{m:lV}{e:List TypeId}(h:wF w B p m)(b:Fx.GD e w w')(k:(KY.all fun T => !e.contains T)=true):wF w' B p m:=by
 have a : ∀ d∈KY,e.contains d=false:=fun d f=>by
  have:=List.all_eq_true.1 k d f
  simpa using this
 exact { h with
  c:=h.c.Ca b (a _ (by decide)),n:=h.n.Ca b (a _ (by decide)),g:=h.g.Ca b (a _ (by decide)),tc:=h.tc.Ca b (a _ (by decide)),t:=h.t.Ca b (a _ (by decide)),r:=⟨fun i j=>(h.r.1 i j).Ca b (a _ (by decide)),h.r.2⟩ }
section
namespace Rt
structure Ab where
 inn:Nat->Bool
 left:Nat->Bool
 own:Nat->Int
 has:Int->Bool
 par:Int->Int
 R:Int->Nat->Int
 gh:Int->Int->Bool
 g:Int->Int->Nat->Int
 ask:Int->Int->Bool
def Ab.up(A:Ab)(x:Int):Nat->Int
 | 0=>x
 | i+1=>A.par (A.up x i)
def Ab.on(A:Ab)(x y:Int):Bool:=A.has y&&(List.range 6).any fun i=>decide (A.up x i=y)
def rz(v:EvM):Int:=ji v.o v.seq
def aV(v:EvM):Nat:=(v.o-1).toNat
def dV(v:EvM):Nat:=(v.dst-1).toNat
def Ab.dl(A:Ab)(v:EvM)(y:Int)(p:Nat):Int :=
 if v.kind=1 then(if y=rz v/\p=aV v then v.aU else 0)
 else if v.kind=2 then(if y=v.node/\p=aV v then v.aU else 0)
 else if v.kind=3 then(if A.on v.node y=true/\p=6+aV v then v.aU else 0)
 else if v.kind=4 then(if A.on (A.g v.o v.of 2) y=true/\p=12+aV v then A.g v.o v.of 3 else 0)
 else if v.kind=5 then(if y=v.node/\p=18+(6*aV v+dV v)then v.aU else 0)
 else 0
def Ab.qR(A:Ab)(v:EvM):Ab where
 inn:=fun j=>A.inn j || (decide (v.kind=6)&&decide (j=dV v))
 left:=fun j=>A.left j || (decide (v.kind=7)&&decide (j=aV v))
 own:=fun j=>A.own j+if v.kind=1/\j=aV v then 1 else 0
 has:=fun y=>A.has y || (decide (v.kind=1)&&decide (y=rz v))
 par:=fun y=>if v.kind=1/\y=rz v then v.node else A.par y
 R:=fun y p=>A.R y p+A.dl v y p
 gh:=fun o r=>A.gh o r || (decide (v.kind=3)&&(decide (o=v.o)&&decide (r=v.req)))
 g:=fun o r j=>if v.kind=3/\o=v.o/\r=v.req then(if j=2 then v.node else if j=3 then v.aU else 0)else if v.kind=4/\o=v.o/\r=v.of/\j=4 then v.req else A.g o r j
 ask:=fun o r=>A.ask o r || ((decide (v.kind=3) || decide (v.kind=4))&&(decide (o=v.o)&&decide (r=v.req)))
structure Ab.Ok(A:Ab):Prop where
 z:A.has 0=false
 p : ∀ y,A.has y=true->A.par y=0\/A.has (A.par y)=true
 p0 : ∀ y,A.has y=false->A.par y=0
 g : ∀ o r,A.gh o r=true->A.has (A.g o r 2)=true
 r0 : ∀ y p,A.has y=false->A.R y p=0
structure Ab.Pre(A:Ab)(v:EvM):Prop where
 n1:v.kind=1->A.has (rz v)=false/\rz v≠0/\(v.node=0\/A.has v.node=true)
 n2:v.kind=2->A.has v.node=true
 n3:v.kind=3->A.has v.node=true/\A.gh v.o v.req=false
 n4:v.kind=4->A.gh v.o v.of=true
 n5:v.kind=5->A.has v.node=true
section
variable {A B:Ab} {u v:EvM} {y:Int}
theorem Ab.IL(h:A.Ok){x:Int}(hx:A.has x=true) : ∀ i,A.up x i=0\/A.has (A.up x i)=true
 | 0 => .inr hx
 | i+1=>by
   show A.par (A.up x i)=0\/A.has (A.par (A.up x i))=true
   rcases Ab.IL h hx i with e|e
   ·left; rw[e]; exact h.p0 0 h.z
   ·exact h.p _ e
theorem Ab.BX(hy:A.has y=true):(A.qR v).has y=true:=by show(A.has y || _)=true; rw[hy]; rfl
theorem Ab.Qe(c:A.Pre v)(hy:A.has y=true):(A.qR v).par y=A.par y:=by
 show(if v.kind=1/\y=rz v then v.node else A.par y)=A.par y;rw[b_];rintro ⟨a,b⟩;have:=(c.n1 a).1;rw[<- b,hy]at this; cases this
theorem Ab.WW(c:A.Pre v):(A.qR v).par 0=A.par 0:=by
 show(if v.kind=1/\(0:Int)=rz v then v.node else A.par 0)=A.par 0;rw[b_];rintro ⟨a,b⟩;exact(c.n1 a).2.1 b.symm
theorem Ab.WX(h:A.Ok)(a:A.Pre v){x:Int}(hx:A.has x=true) : ∀ i,(A.qR v).up x i=A.up x i
 | 0=>rfl
 | i+1=>by
   show(A.qR v).par ((A.qR v).up x i)=A.par (A.up x i);rw[Ab.WX h a hx i]
   rcases Ab.IL h hx i with e|e
   ·rw[e]; exact Ab.WW a
   ·exact Ab.Qe a e
theorem Ab.WY(h:A.Ok)(b:A.Pre v){x:Int}(hx:A.has x=true)(y:Int):(A.qR v).on x y=A.on x y:=by
 unfold Ab.on;have e:((List.range 6).any fun i=>decide ((A.qR v).up x i=y))=((List.range 6).any fun i=>decide (A.up x i=y)):=by
  congr 1; funext i; rw[Ab.WX h b hx i]
 rw[e]
 cases hc:(List.range 6).any fun i=>decide (A.up x i=y)
 ·rw[I_,I_]
 rw[Bool.and_true,Bool.and_true];obtain⟨i,_,a⟩:=List.any_eq_true.1 hc;have a:=h_ a;show(A.has y || (decide (v.kind=1)&&decide (y=rz v)))=A.has y
 cases hy:A.has y
 ·rcases Ab.IL h hx i with e0|e0
  ·rw[a]at e0
   cases c1:decide (v.kind=1)
   ·rfl
   have:=(b.n1 (h_ c1)).2.1;rw[g_ (show ¬ y=rz v by rw[e0]; exact fun q=>this q.symm)]; rfl
  rw[a,hy]at e0; cases e0
 rfl
theorem Ab.Mf(f:A.Pre v){o r:Int}(d:A.gh o r=true)(j:Nat)(e:j≠4):(A.qR v).g o r j=A.g o r j:=by
 show(if v.kind=3/\o=v.o/\r=v.req then(if j=2 then v.node else if j=3 then v.aU else 0)else if v.kind=4/\o=v.o/\r=v.of/\j=4 then v.req else A.g o r j)=A.g o r j;rw[b_,b_]
 ·exact fun q=>e q.2.2.2
 rintro ⟨a,b,c⟩;have:=(f.n3 a).2;rw[<- b,<- c,d]at this; cases this
theorem Ab.afc{o r:Int}(a:A.gh o r=true):(A.qR v).gh o r=true:=by show(A.gh o r || _)=true; rw[a]; rfl
theorem Ab.afd(h:A.Ok)(b:A.Pre v):(A.qR v).Ok where
 z:=by
  show(A.has 0 || (decide (v.kind=1)&&decide ((0:Int)=rz v)))=false;rw[h.z,Bool.false_or]
  cases c1:decide (v.kind=1)
  ·rfl
  ·rw[g_ (fun q=>(b.n1 (h_ c1)).2.1 q.symm)]; rfl
 p:=fun y a=>by
  have a:=a;show(if v.kind=1/\y=rz v then v.node else A.par y)=0\/(A.qR v).has (if v.kind=1/\y=rz v then v.node else A.par y)=true;by_cases c:v.kind=1/\y=rz v
  ·rw[d_ c];exact(b.n1 c.1).2.2.imp id Ab.BX
  ·rw[b_ c];have u:A.has y=true:=by
    rcases Bool.or_eq_true_iff.1 a with q|q
    ·exact q
    ·rw[T_]at q; exact M_ ⟨h_ q.1,h_ q.2⟩ c
   exact(h.p y u).imp id Ab.BX
 p0:=fun y a=>by
  have a:(A.has y || (decide (v.kind=1)&&decide (y=rz v)))=false:=a;rw[Bool.or_eq_false_iff]at a;show(if v.kind=1/\y=rz v then v.node else A.par y)=0;rw[b_]
  ·exact h.p0 y a.1
  ·rintro ⟨s,t⟩;rw[f_ s,f_ t]at a; cases a.2
 g:=fun o r d=>by
  have d:=d;by_cases c:v.kind=3/\o=v.o/\r=v.req
  ·have:(A.qR v).g o r 2=v.node:=(by show(if v.kind=3/\o=v.o/\r=v.req then _ else _)=v.node; rw[d_ c]; rfl);rw[this]; exact Ab.BX (b.n3 c.1).1
  ·have k:A.gh o r=true:=by
    rcases Bool.or_eq_true_iff.1 d with q|q
    ·exact q
    ·rw[T_,T_]at q; exact M_ ⟨h_ q.1,h_ q.2.1,h_ q.2.2⟩ c
   rw[Ab.Mf b k 2 (by decide)];exact Ab.BX (h.g o r k)
 r0:=fun y p a=>by
  have a:(A.has y || (decide (v.kind=1)&&decide (y=rz v)))=false:=a;rw[Bool.or_eq_false_iff]at a;show A.R y p+A.dl v y p=0;rw[h.r0 y p a.1,Int.zero_add];have l : ∀ x,A.on x y=false:=fun x=>by unfold Ab.on; rw[a.1]; rfl
  unfold Ab.dl;by_cases f:v.kind=1
  ·rw[d_ f,b_];rintro ⟨e,_⟩; rw[f_ f,f_ e]at a; cases a.2
  rw[b_ f];by_cases i:v.kind=2
  ·rw[d_ i,b_];rintro ⟨e,_⟩; rw[e,b.n2 i]at a; cases a.1
  rw[b_ i];by_cases m:v.kind=3
  ·rw[d_ m,b_]; rw[l]; exact fun q=>by cases q.1
  rw[b_ m];by_cases n:v.kind=4
  ·rw[d_ n,b_]; rw[l]; exact fun q=>by cases q.1
  rw[b_ n];by_cases j:v.kind=5
  ·rw[d_ j,b_];rintro ⟨e,_⟩; rw[e,b.n5 j]at a; cases a.1
  rw[b_ j]
theorem Ab.WZ(h:A.Ok)(c:A.Pre u)(i:A.Pre v)(y:Int)(p:Nat):(A.qR u).dl v y p=A.dl v y p:=by
 unfold Ab.dl;by_cases d:v.kind=1
 ·rw[d_ d,d_ d]
 rw[b_ d,b_ d];by_cases e:v.kind=2
 ·rw[d_ e,d_ e]
 rw[b_ e,b_ e];by_cases a:v.kind=3
 ·rw[d_ a,d_ a,Ab.WY h c (i.n3 a).1]
 rw[b_ a,b_ a];by_cases b:v.kind=4
 ·have f:=i.n4 b;rw[d_ b,d_ b,Ab.Mf c f 2 (by decide),Ab.Mf c f 3 (by decide),Ab.WY h c (h.g _ _ f)]
 rw[b_ b,b_ b]
theorem Ab.RP(h1:A.inn=B.inn)(a:A.left=B.left)(b:A.own=B.own)(c:A.has=B.has)(d:A.par=B.par)(e:A.R=B.R)(f:A.gh=B.gh)(h:A.g=B.g)(i:A.ask=B.ask):A=B:=by
 cases A; cases B; simp only at h1 a b c d e f h i; subst h1 a b c d e f h i; rfl
theorem Ab.W9(h:A.Ok)(b:A.Pre u)(d:A.Pre v)(k:u.o≠v.o)(i:u.kind=1->v.kind=1->rz u≠rz v):(A.qR u).qR v=(A.qR v).qR u:=by
 apply Ab.RP
 ·funext j; exact Bool.or_right_comm _ _ _
 ·funext j; exact Bool.or_right_comm _ _ _
 ·funext j; exact Int.add_right_comm _ _ _
 ·funext y; exact Bool.or_right_comm _ _ _
 ·funext y
  show(if v.kind=1/\y=rz v then v.node else if u.kind=1/\y=rz u then u.node else A.par y)=(if u.kind=1/\y=rz u then u.node else if v.kind=1/\y=rz v then v.node else A.par y);by_cases c:v.kind=1/\y=rz v
  ·rw[d_ c,d_ c,b_];rintro ⟨e,f⟩;exact i e c.1 (f.symm.trans c.2)
  rw[b_ c,b_ c]
 ·funext y p
  show A.R y p+A.dl u y p+(A.qR u).dl v y p=A.R y p+A.dl v y p+(A.qR v).dl u y p;rw[Ab.WZ h b d,Ab.WZ h d b,Int.add_right_comm]
 ·funext o r; exact Bool.or_right_comm _ _ _
 ·funext o r j
  show(if v.kind=3/\o=v.o/\r=v.req then _ else if v.kind=4/\o=v.o/\r=v.of/\j=4 then v.req else if u.kind=3/\o=u.o/\r=u.req then _ else if u.kind=4/\o=u.o/\r=u.of/\j=4 then u.req else A.g o r j) =
   (if u.kind=3/\o=u.o/\r=u.req then _ else if u.kind=4/\o=u.o/\r=u.of/\j=4 then u.req else if v.kind=3/\o=v.o/\r=v.req then _ else if v.kind=4/\o=v.o/\r=v.of/\j=4 then v.req else A.g o r j)
  by_cases c:o=v.o
  ·have a : ¬ o=u.o:=fun q=>k (q.symm.trans c);rw[b_ (show ¬ (u.kind=3/\o=u.o/\r=u.req)from fun q=>a q.2.1),b_ (show ¬ (u.kind=4/\o=u.o/\r=u.of/\j=4)from fun q=>a q.2.1),b_ (show ¬ (u.kind=3/\o=u.o/\r=u.req)from fun q=>a q.2.1),b_ (show ¬ (u.kind=4/\o=u.o/\r=u.of/\j=4)from fun q=>a q.2.1)]
  rw[b_ (show ¬ (v.kind=3/\o=v.o/\r=v.req)from fun q=>c q.2.1),b_ (show ¬ (v.kind=4/\o=v.o/\r=v.of/\j=4)from fun q=>c q.2.1),b_ (show ¬ (v.kind=3/\o=v.o/\r=v.req)from fun q=>c q.2.1),b_ (show ¬ (v.kind=4/\o=v.o/\r=v.of/\j=4)from fun q=>c q.2.1)]
 funext o r; exact Bool.or_right_comm _ _ _
end
end Rt
end
section
namespace Rt
def Dl(x:Nat->Int)(a:Nat):Int:=x a-x (6+a)+x (12+a)+(x (18+(6*0+a))+x (18+(6*1+a))+x (18+(6*2+a))+x (18+(6*3+a))+x (18+(6*4+a))+x (18+(6*5+a)))-(x (18+(6*a+0))+x (18+(6*a+1))+x (18+(6*a+2))+x (18+(6*a+3))+x (18+(6*a+4))+x (18+(6*a+5)))
structure Ab.RQ(A:Ab)(v:EvM):Prop where
 inn:A.inn (aV v)=true
 left:A.left (aV v)=false
 pre:A.Pre v
 k1:v.kind=1->A.own (aV v)<5/\v.aU<=140737488355328 /\ ¬ ∀ i,i<4->A.has (A.up v.node i)=true
 k2:v.kind=2->A.R v.node (aV v)+v.aU<=140737488355328
 k3:v.kind=3->A.ask v.o v.req=false /\ ∀ y,A.on v.node y=true->v.aU<=Dl (A.R y) (aV v)
 k4:v.kind=4->A.ask v.o v.req=false/\A.g v.o v.of 4=0 /\ ∀ y,A.on (A.g v.o v.of 2) y=true->A.g v.o v.of 3<=A.R y (6+aV v)-A.R y (12+aV v)
 k5:v.kind=5->A.inn (dV v)=true/\v.aU<=Dl (A.R v.node) (aV v)
def ajh(a p:Nat):Prop:=p=a\/p=6+a\/p=12+a \/ ∃ k,k<6/\p=18+(6*a+k)
structure Ab.Le(A B:Ab)(a:Nat):Prop where
 inn : ∀ j,A.inn j=true->B.inn j=true
 left:B.left a=A.left a
 own:B.own a=A.own a
 has : ∀ y,A.has y=true->B.has y=true
 hid : ∀ s,1<=s/\s<1099511627776->B.has (ji ((a:Int)+1) s)=A.has (ji ((a:Int)+1) s)
 par : ∀ y,A.has y=true->B.par y=A.par y
 R1 : ∀ y p,A.has y=true->ajh a p->B.R y p=A.R y p
 R2 : ∀ y k,A.has y=true->k<6->A.R y (18+(6*k+a))<=B.R y (18+(6*k+a))
 gh : ∀ o r,A.gh o r=true->B.gh o r=true /\ ∀ j,j≠4->B.g o r j=A.g o r j
 gho : ∀ r,B.gh ((a:Int)+1) r=A.gh ((a:Int)+1) r
 go : ∀ r,B.g ((a:Int)+1) r 4=A.g ((a:Int)+1) r 4
 ask : ∀ r,B.ask ((a:Int)+1) r=A.ask ((a:Int)+1) r
structure MK(v:EvM):Prop where
 o:1<=v.o/\v.o<=6
 seq:1<=v.seq/\v.seq<1099511627776
 aU:0<=v.aU
 dst:v.kind=5->1<=v.dst/\v.dst<=6
section
variable {A B:Ab} {u v:EvM} {a:Nat} {x y:Int}
theorem MK.reg(h:MK v):v.o=(aV v:Int)+1/\aV v<6:=by have:=h.o; unfold aV; omega
theorem MK.id(h:MK v):rz v=1099511627776*v.o+v.seq:=by
 unfold rz ji; rw[d_ ⟨h.o.1,h.o.2,h.seq.1,h.seq.2⟩]
theorem MK.ne(a:MK u)(b:MK v)(h:u.o≠v.o):rz u≠rz v:=by
 rw[a.id,b.id]; have:=a.seq; have:=b.seq; have:=a.o; have:=b.o; omega
theorem Ab.Le.refl(A:Ab)(a:Nat):A.Le A a:=⟨fun _ h=>h,rfl,rfl,fun _ h=>h,fun _ _=>rfl,fun _ _=>rfl,fun _ _ _ _=>rfl,fun _ _ _ _=>N_ _,fun _ _ h=>⟨h,fun _ _=>rfl⟩,fun _=>rfl,fun _=>rfl,fun _=>rfl⟩
theorem Ab.Le.up(h:A.Le B a)(b:A.Ok)(c:B.Ok)(hx:A.has x=true) : ∀ i,B.up x i=A.up x i
 | 0=>rfl
 | i+1=>by
   show B.par (B.up x i)=A.par (A.up x i);rw[h.up b c hx i]
   rcases Ab.IL b hx i with e|e
   ·rw[e,b.p0 0 b.z,c.p0 0 c.z]
   ·exact h.par _ e
theorem Ab.Le.on(h:A.Le B a)(c:A.Ok)(d:B.Ok)(hx:A.has x=true)(y:Int):B.on x y=A.on x y:=by
 unfold Ab.on;have e:((List.range 6).any fun i=>decide (B.up x i=y))=((List.range 6).any fun i=>decide (A.up x i=y)):=by
  congr 1; funext i; rw[h.up c d hx i]
 rw[e]
 cases hc:(List.range 6).any fun i=>decide (A.up x i=y)
 ·rw[I_,I_]
 rw[Bool.and_true,Bool.and_true];obtain⟨i,_,b⟩:=List.any_eq_true.1 hc;have b:=h_ b
 rcases Ab.IL c hx i with e0|e0
 ·rw[b]at e0; rw[e0,c.z,d.z]
 rw[b]at e0; rw[e0,h.has _ e0]
theorem Ab.Ou(h:A.on x y=true):A.has y=true:=by unfold Ab.on at h; rw[T_]at h; exact h.1
theorem Ab.Le.loc(h:A.Le B a)(ha:a<6)(hy:A.has y=true):Dl (A.R y) a<=Dl (B.R y) a:=by
 have o : ∀ k,k<6->B.R y (18+(6*a+k))=A.R y (18+(6*a+k)):=fun k b=>h.R1 y _ hy (.inr (.inr (.inr ⟨k,b,rfl⟩)));unfold Dl;rw[h.R1 y a hy (.inl rfl),h.R1 y (6+a) hy (.inr (.inl rfl)),h.R1 y (12+a) hy (.inr (.inr (.inl rfl))),o 0 (by omega),o 1 (by omega),o 2 (by omega),o 3 (by omega),o 4 (by omega),o 5 (by omega)];have:=h.R2 y 0 hy (by omega); have:=h.R2 y 1 hy (by omega); have:=h.R2 y 2 hy (by omega); have:=h.R2 y 3 hy (by omega); have:=h.R2 y 4 hy (by omega); have:=h.R2 y 5 hy (by omega);omega
theorem Ab.Le.okE(h:A.Le B (aV v))(l:A.Ok)(m:B.Ok)(t:MK v)(a:A.RQ v):B.RQ v:=by
 obtain⟨c,p⟩:=t.reg;have P:=a.pre;have w : ∀ r,B.gh v.o r=A.gh v.o r:=fun r=>by rw[c]; exact h.gho r
 have s : ∀ r,B.ask v.o r=A.ask v.o r:=fun r=>by rw[c]; exact h.ask r
 refine⟨h.inn _ a.inn,h.left.trans a.left,⟨fun k => ?_,fun k=>h.has _ (P.n2 k),fun k=>⟨h.has _ (P.n3 k).1,(w _).trans (P.n3 k).2⟩,fun k=>(w _).trans (P.n4 k),fun k=>h.has _ (P.n5 k)⟩,fun k => ?_,fun k => ?_,fun k => ?_,fun k => ?_,fun k=>⟨h.inn _ (a.k5 k).1,S_ (a.k5 k).2 (h.loc p (P.n5 k))⟩⟩
 ·obtain⟨d,f,j⟩:=P.n1 k;refine⟨?_,f,j.imp (fun q=>q) (h.has _)⟩;have:=h.hid v.seq t.seq;rw[<- c]at this;exact this.trans d
 ·obtain⟨d,f,j⟩:=a.k1 k;refine⟨by rw[h.own]; exact d,f,fun q=>j fun i x => ?_⟩;have n:=q i x
  rcases(P.n1 k).2.2 with e|e
  ·exfalso;have:B.up v.node 0=0:=e;have:=q 0 (by omega);rw[‹B.up v.node 0=0›,m.z]at this; cases this
  rw[h.up l m e i]at n
  rcases Ab.IL l e i with e0|e0
  ·rw[e0,m.z]at n; cases n
  exact e0
 ·rw[h.R1 _ _ (P.n2 k) (.inl rfl)]; exact a.k2 k
 ·refine⟨(s _).trans (a.k3 k).1,fun y b => ?_⟩;rw[h.on l m (P.n3 k).1]at b;exact S_ ((a.k3 k).2 y b) (h.loc p (Ab.Ou b))
 obtain⟨d,f,j⟩:=a.k4 k;have u:=(h.gh _ _ (P.n4 k)).2;refine⟨(s _).trans d,by rw[c,h.go,<- c]; exact f,fun y b => ?_⟩;rw[u 2 (by decide),h.on l m (l.g _ _ (P.n4 k))]at b;rw[u 3 (by decide),h.R1 _ _ (Ab.Ou b) (.inr (.inl rfl)),h.R1 _ _ (Ab.Ou b) (.inr (.inr (.inl rfl)))];exact j y b
end
end Rt
end
section
namespace Rt
section
variable {A B:Ab} {u v:EvM} {a:Nat} {x y:Int}
theorem Ab.Le.dl(h:A.Le B a)(f:A.Ok)(j:B.Ok)(i:A.Pre u)(y:Int)(p:Nat):B.dl u y p=A.dl u y p:=by
 unfold Ab.dl;by_cases d:u.kind=1
 ·rw[d_ d,d_ d]
 rw[b_ d,b_ d];by_cases e:u.kind=2
 ·rw[d_ e,d_ e]
 rw[b_ e,b_ e];by_cases c:u.kind=3
 ·rw[d_ c,d_ c,h.on f j (i.n3 c).1]
 rw[b_ c,b_ c];by_cases b:u.kind=4
 ·have k:=h.gh _ _ (i.n4 b);rw[d_ b,d_ b,k.2 2 (by decide),k.2 3 (by decide),h.on f j (f.g _ _ (i.n4 b))]
 rw[b_ b,b_ b]
theorem or_mono{p q c:Bool}(h:p=true->q=true)(a:(p || c)=true):(q || c)=true:=by
 cases c
 ·rw[H_]at a ⊢; exact h a
 rw[Bool.or_true]
theorem Ab.Le.both(h:A.Le B a)(f:A.Ok)(i:B.Ok)(n:A.Pre u)(w:B.Pre u):(A.qR u).Le (B.qR u) a:=by
 have m : ∀ y,(A.qR u).has y=true->A.has y=true\/(A.has y=false/\B.has y=false/\u.kind=1/\y=rz u):=fun y b=>by
  have b:(A.has y || (decide (u.kind=1)&&decide (y=rz u)))=true:=b
  cases hc:A.has y
  ·right;rw[hc,Bool.false_or,T_]at b;have k:=h_ b.1; have e:=h_ b.2;exact⟨rfl,e ▸ (w.n1 k).1,k,e⟩
  ·exact .inl rfl
 refine⟨fun j d=>or_mono (h.inn j) d,?_,?_,fun y b=>or_mono (h.has y) b,fun s x => ?_,fun y b => ?_,fun y p b v => ?_,fun y k b t => ?_,fun o r l=>⟨or_mono (fun q=>(h.gh o r q).1) l,fun j d => ?_⟩,fun r => ?_,fun r => ?_,fun r => ?_⟩
 ·show(B.left a || _)=(A.left a || _); rw[h.left]
 ·show B.own a+_=A.own a+_; rw[h.own]
 ·show(B.has _ || _)=(A.has _ || _); rw[h.hid s x]
 ·show(if u.kind=1/\y=rz u then u.node else B.par y)=(if u.kind=1/\y=rz u then u.node else A.par y)
  rcases m y b with q|⟨_,_,k,e⟩
  ·rw[h.par y q]
  rw[d_ ⟨k,e⟩,d_ ⟨k,e⟩]
 ·show B.R y p+B.dl u y p=A.R y p+A.dl u y p;rw[h.dl f i n]
  rcases m y b with q|⟨q1,q2,_,_⟩
  ·rw[h.R1 y p q v]
  rw[f.r0 y p q1,i.r0 y p q2]
 ·show A.R y _+A.dl u y _<=B.R y _+B.dl u y _;rw[h.dl f i n]
  rcases m y b with q|⟨q1,q2,_,_⟩
  ·have:=h.R2 y k q t; omega
  rw[f.r0 y _ q1,i.r0 y _ q2]; exact N_ _
 ·show(if u.kind=3/\o=u.o/\r=u.req then(if j=2 then u.node else if j=3 then u.aU else 0)else if u.kind=4/\o=u.o/\r=u.of/\j=4 then u.req else B.g o r j)=(if u.kind=3/\o=u.o/\r=u.req then(if j=2 then u.node else if j=3 then u.aU else 0)else if u.kind=4/\o=u.o/\r=u.of/\j=4 then u.req else A.g o r j);by_cases c:u.kind=3/\o=u.o/\r=u.req
  ·rw[d_ c,d_ c]
  rw[b_ c,b_ c,b_ (show ¬ (u.kind=4/\o=u.o/\r=u.of/\j=4)from fun q=>d q.2.2.2),b_ (show ¬ (u.kind=4/\o=u.o/\r=u.of/\j=4)from fun q=>d q.2.2.2)];have l:=l
  rcases Bool.or_eq_true_iff.1 l with q|q
  ·exact(h.gh o r q).2 j d
  rw[T_,T_]at q; exact M_ ⟨h_ q.1,h_ q.2.1,h_ q.2.2⟩ c
 ·show(B.gh _ r || _)=(A.gh _ r || _); rw[h.gho r]
 ·show(if u.kind=3/\(a:Int)+1=u.o/\r=u.req then(if 4=2 then u.node else if 4=3 then u.aU else 0)else if u.kind=4/\(a:Int)+1=u.o/\r=u.of/\4=4 then u.req else B.g _ r 4)=(if u.kind=3/\(a:Int)+1=u.o/\r=u.req then(if 4=2 then u.node else if 4=3 then u.aU else 0)else if u.kind=4/\(a:Int)+1=u.o/\r=u.of/\4=4 then u.req else A.g _ r 4);rw[h.go r]
 show(B.ask _ r || _)=(A.ask _ r || _); rw[h.ask r]
theorem Ab.afe(d:MK u)(r:aV u≠a)(ha:a<6){p:Nat}(b:ajh a p)(y:Int):A.dl u y p=0:=by
 obtain⟨n,s⟩:=d.reg;have j:p≠aV u:=by rcases b with e|e|e|⟨k,hk,e⟩ <;> omega
 have l:p≠6+aV u:=by rcases b with e|e|e|⟨k,hk,e⟩ <;> omega
 have m:p≠12+aV u:=by rcases b with e|e|e|⟨k,hk,e⟩ <;> omega
 unfold Ab.dl;by_cases f:u.kind=1
 ·rw[d_ f,b_ fun q=>j q.2]
 rw[b_ f];by_cases g:u.kind=2
 ·rw[d_ g,b_ fun q=>j q.2]
 rw[b_ g];by_cases h:u.kind=3
 ·rw[d_ h,b_ fun q=>l q.2]
 rw[b_ h];by_cases i:u.kind=4
 ·rw[d_ i,b_ fun q=>m q.2]
 rw[b_ i];by_cases c:u.kind=5
 ·have o:=d.dst c;rw[d_ c,b_];rintro ⟨_,q⟩;unfold dV at q
  rcases b with e|e|e|⟨k,hk,e⟩ <;> omega
 rw[b_ c]
theorem Ab.aji(a:MK u){p:Nat}(d:18<=p)(y:Int):0<=A.dl u y p:=by
 obtain⟨b,e⟩:=a.reg;have c:=a.aU;unfold Ab.dl;split
 ·split <;> omega
 split
 ·split <;> omega
 split
 ·split <;> omega
 split
 ·rw[b_ fun q=>by omega]; omega
 split
 ·split <;> omega
 omega
theorem Ab.Le.step(h:A.Le B a)(x:B.Ok)(c:MK u)(m:B.Pre u)(e:aV u≠a)(ha:a<6):A.Le (B.qR u) a:=by
 obtain⟨w,z⟩:=c.reg;have no : ¬ (a:Int)+1=u.o:=by omega
 refine⟨fun j d => ?_,?_,?_,fun y b=>Ab.BX (h.has y b),fun s f => ?_,fun y b=>(Ab.Qe m (h.has y b)).trans (h.par y b),fun y p b l => ?_,fun y k b v => ?_,fun o r t => ?_,fun r => ?_,fun r => ?_,fun r => ?_⟩
 ·show(B.inn j || _)=true; rw[h.inn j d]; rfl
 ·show(B.left a || (decide (u.kind=7)&&decide (a=aV u)))=A.left a;rw[g_ (show ¬ a=aV u from fun q=>e q.symm),I_,H_]; exact h.left
 ·show B.own a+(if u.kind=1/\a=aV u then 1 else 0)=A.own a;rw[b_ fun q=>e q.2.symm,D_]; exact h.own
 ·show(B.has _ || (decide (u.kind=1)&&decide (ji ((a:Int)+1) s=rz u)))=_;rw[g_ (show ¬ ji ((a:Int)+1) s=rz u from fun q=>by
   rw[c.id]at q; unfold ji at q; rw[d_ ⟨by omega,by omega,f.1,f.2⟩]at q; have:=c.seq; omega),I_,H_]
  exact h.hid s f
 ·show B.R y p+B.dl u y p=A.R y p;rw[Ab.afe c e ha l,D_]; exact h.R1 y p b l
 ·show A.R y _<=B.R y _+B.dl u y _;have:=h.R2 y k b v;have:=Ab.aji (A:=B) c (p:=18+(6*k+a)) (by omega) y;omega
 ·obtain⟨i,n⟩:=h.gh o r t;exact⟨Ab.afc i,fun j d=>(Ab.Mf m i j d).trans (n j d)⟩
 ·show(B.gh _ r || (decide (u.kind=3)&&(decide ((a:Int)+1=u.o)&&decide (r=u.req))))=_;rw[g_ no,Bool.false_and,I_,H_]; exact h.gho r
 ·show(if u.kind=3/\(a:Int)+1=u.o/\r=u.req then(if 4=2 then u.node else if 4=3 then u.aU else 0)else if u.kind=4/\(a:Int)+1=u.o/\r=u.of/\4=4 then u.req else B.g _ r 4)=_;rw[b_ fun q=>no q.2.1,b_ fun q=>no q.2.1]; exact h.go r
 show(B.ask _ r || ((decide (u.kind=3) || decide (u.kind=4))&&(decide ((a:Int)+1=u.o)&&decide (r=u.req))))=_;rw[g_ no,Bool.false_and,I_,H_]; exact h.ask r
end
end Rt
end
section
namespace Rt
def wG(K:Nat->Int)(v:EvM):Bool:=decide (v.seq<=K (aO v))
def fP(ev:Nat->EvM)(K:Nat->Int)(A0:Ab):Nat->Ab
 | 0=>A0
 | n+1=>if wG K (ev n)=true then(fP ev K A0 n).qR (ev n)else fP ev K A0 n
structure Evs(A0:Ab)(ev:Nat->EvM)(an:Nat):Prop where
 ok0:A0.Ok
 rd : ∀ k,k<an->dI (gV ev k) (ev k)=true
 g : ∀ k,k<an->MK (ev k)
 dc : ∀ k,k<an->Px ev an (ev k).deps
 tk : ∀ k,k<an->(fP ev (ev k).deps A0 k).RQ (ev k)
section
variable {A0:Ab} {ev:Nat->EvM} {an n m i j k:Nat} {K K1 K2:Nat->Int}
theorem ng{v:EvM}:wG K v=true<->v.seq<=K (aO v):=by unfold wG; exact Q_
theorem Evs.seq(h:Evs A0 ev an)(a:k<an):(ev k).seq=gV ev k (aO (ev k))+1:=(GU (h.rd k a)).2.1
theorem Evs.mono(h:Evs A0 ev an)(a:j<an)(c:k<an)(e:aO (ev j)=aO (ev k))(b:j<k):(ev j).seq<(ev k).seq:=by
 rw[h.seq a,h.seq c];have:=ES (ev:=ev) b;rw[e]at this ⊢; omega
theorem Evs.uniq(h:Evs A0 ev an)(b:j<an)(c:k<an)(a:aO (ev j)=aO (ev k))(d:(ev j).seq=(ev k).seq):j=k:=by
 rcases Nat.lt_trichotomy j k with q|q|q
 ·have:=h.mono b c a q; omega
 ·exact q
 have:=h.mono c b a.symm q; omega
theorem Evs.ahead(h:Evs A0 ev an)(a:j<an)(b:k<an)(e:wG (ev k).deps (ev j)=true):j<k:=by
 have e:=ng.1 e;have d:=(GU (h.rd k b)).2.2 (aO (ev j)) (h.g j a).reg.2;rw[h.seq a]at e;by_cases c:j<k
 ·exact c
 have:=cnt_mono (ev:=ev) (i:=aO (ev j)) (show k<=j by omega); omega
theorem mW(e:wG K (ev n)=true):fP ev K A0 (n+1)=(fP ev K A0 n).qR (ev n):=by show(if _ then _ else _)=_; rw[d_ e]
theorem ni(e:wG K (ev n)=false):fP ev K A0 (n+1)=fP ev K A0 n:=by show(if _ then _ else _)=_; rw[b_ (by rw[e]; decide)]
theorem JQ(h:Evs A0 ev an)(a:Nat)(ha:a<6)(f : ∀ i,i<6->K1 i<=K2 i) : ∀ m,m<=an->(∀ i,i<=m->(fP ev K1 A0 i).Ok)->(∀ i,i<=m->(fP ev K2 A0 i).Ok)->(∀ i,i<m->wG K1 (ev i)=true->(fP ev K1 A0 i).RQ (ev i))->(∀ i,i<m->wG K2 (ev i)=true->(fP ev K2 A0 i).RQ (ev i)) ->
 (∀ i,i<m->aO (ev i)=a->wG K2 (ev i)=true->wG K1 (ev i)=true)->(fP ev K1 A0 m).Le (fP ev K2 A0 m) a
 | 0,_,_,_,_,_,_=>Ab.Le.refl _ _
 | m+1,hm,o1,o2,v1,v2,ho=>by
   have d:=JQ h a ha f m (by omega) (fun i c=>o1 i (by omega)) (fun i c=>o2 i (by omega)) (fun i c=>v1 i (by omega)) (fun i c=>v2 i (by omega)) (fun i c=>ho i (by omega))
   cases c1:wG K1 (ev m)with
   | true =>
     have b:=ng.2 (S_ (ng.1 c1) (f _ (h.g m (by omega)).reg.2));rw[mW c1,mW b];exact d.both (o1 m (by omega)) (o2 m (by omega)) (v1 m (by omega) c1).pre (v2 m (by omega) b).pre
   | false =>
     rw[ni c1]
     cases b:wG K2 (ev m)with
     | true =>
       rw[mW b];exact d.step (o2 m (by omega)) (h.g m (by omega)) (v2 m (by omega) b).pre (fun e=>by have:=ho m (by omega) e b; rw[c1]at this; cases this) ha
     | false=>rw[ni b]; exact d
theorem vZ(h:Evs A0 ev an) : ∀ n,n<=an -> ∀ K,Px ev an K->(∀ i,i<=n->(fP ev K A0 i).Ok) /\ ∀ i,i<n->wG K (ev i)=true->(fP ev K A0 i).RQ (ev i)
 | 0,_,K,_=>⟨fun i a=>(show i=0 by omega) ▸ h.ok0,fun i a=>M_ a (z_ _)⟩
 | n+1,hn,K,hc=>by
   obtain⟨o,v⟩:=vZ h n (by omega) K hc;have f:wG K (ev n)=true->(fP ev K A0 n).RQ (ev n):=fun c=>by
    obtain⟨l,r⟩:=vZ h n (by omega) (ev n).deps (h.dc n (by omega));have d:=h.g n (by omega);have p:=JQ h (aV (ev n)) d.reg.2 (hc.cl n (by omega) (ng.1 c)) n (by omega) l o r v (fun i a e t=>by
     have u:=h.mono (j:=i) (k:=n) (by omega) (by omega) e a;have b:=(GU (h.rd n (by omega))).1;refine ng.2 ?_;have m:(ev n).deps (aO (ev n))=(ev n).seq-1:=by
      unfold bS at b; simp only[T_,decide_eq_true_eq]at b; exact b.1.1.1.2
     rw[show aO (ev i)=aO (ev n)from e,m]; omega)
    exact p.okE (l n (A_ _)) (o n (A_ _)) d (h.tk n (by omega))
   have s : ∀ i,i<n+1->wG K (ev i)=true->(fP ev K A0 i).RQ (ev i):=fun i a e=>by
    by_cases q:i=n
    ·subst q; exact f e
    ·exact v i (by omega) e
   refine⟨fun i a => ?_,s⟩;by_cases q:i=n+1
   ·subst q
    cases c:wG K (ev n)with
    | true=>rw[mW c]; exact Ab.afd (o n (A_ _)) (f c).pre
    | false=>rw[ni c]; exact o n (A_ _)
   ·exact o i (by omega)
end
end Rt
end
section
namespace Rt
section
variable {A0:Ab} {ev:Nat->EvM} {an n m i j k:Nat} {K:Nat->Int}
theorem Dm(h:Evs A0 ev an)(a:j<an) : ∀ m,j<=m->m<=an->fP ev (ev j).deps A0 m=fP ev (ev j).deps A0 j
 | 0,h1,_=>by obtain rfl:j=0:=(by omega); rfl
 | m+1,h1,h2=>by
   by_cases e:j=m+1
   ·rw[e]
   ·have c:wG (ev j).deps (ev m)=false:=by
     cases q:wG (ev j).deps (ev m)with
     | true=>have:=h.ahead (show m<an by omega) a q; omega
     | false=>rfl
    rw[ni c];exact Dm h a m (by omega) (by omega)
theorem Xa{v:EvM}(h:bS v=true):v.deps (aO v)=v.seq-1:=by
 unfold bS at h; simp only[T_,decide_eq_true_eq]at h; exact h.1.1.1.2
theorem IQ(h:Evs A0 ev an)(l:Px ev an K)(b:j<an)(hr:dI K (ev j)=true)(h1:j<=m)(a:m<=an):(fP ev K A0 m).RQ (ev j):=by
 obtain⟨f,q⟩:=vZ h m a (ev j).deps (h.dc j b);obtain⟨o,v⟩:=vZ h m a K l;obtain⟨n,s,p⟩:=GU hr;have c:=h.g j b;have d:=JQ h (aV (ev j)) c.reg.2 p m a f o q v (fun i r e k=>by
  refine ng.2 ?_;have:=ng.1 k;rw[show aO (ev i)=aO (ev j)from e]at this ⊢;rw[Xa n]; omega)
 rw[Dm h b m h1 a]at d;exact d.okE (by rw[<- Dm h b m h1 a]; exact f m (A_ _)) (o m (A_ _)) c (h.tk j b)
def JR(K:Nat->Int)(v:EvM):Nat->Int:=aH K (aO v) (K (aO v)+1)
theorem Xb(h:Evs A0 ev an)(a:j<an)(hr:dI K (ev j)=true)(hi:i<an)(b:i≠j):wG (JR K (ev j)) (ev i)=wG K (ev i):=by
 have d:=(GU hr).2.1;have:wG (JR K (ev j)) (ev i)=true<->wG K (ev i)=true:=by
  rw[ng,ng];unfold JR aH;split
  ·rename_i e;rw[e];constructor
   ·intro q;by_cases c:(ev i).seq<=K (aO (ev j))
    ·exact c
    ·exact M_ (h.uniq hi a e (by omega)) b
   ·intro q; omega
  ·exact Iff.rfl
 cases c1:wG (JR K (ev j)) (ev i) <;> cases c2:wG K (ev i) <;> simp_all
theorem Gp(h:Evs A0 ev an)(a:j<an)(hr:dI K (ev j)=true) : ∀ m,m<=j->fP ev (JR K (ev j)) A0 m=fP ev K A0 m
 | 0,_=>rfl
 | m+1,hm=>by
   have e:=Xb h a hr (show m<an by omega) (show m≠j by omega)
   cases c:wG K (ev m)with
   | true=>rw[mW (e.trans c),mW c,Gp h a hr m (by omega)]
   | false=>rw[ni (e.trans c),ni c,Gp h a hr m (by omega)]
theorem IU(h:Evs A0 ev an)(b:Px ev an K)(a:j<an)(hr:dI K (ev j)=true) : ∀ m,j<m->m<=an->fP ev (JR K (ev j)) A0 m=(fP ev K A0 m).qR (ev j)
 | 0,h1,_=>M_ h1 (z_ _)
 | m+1,h1,h2=>by
   have r:=(GU hr).2.1;by_cases e:m=j
   ·subst e;have l:wG (JR K (ev m)) (ev m)=true:=ng.2 (by unfold JR aH; rw[d_ rfl]; omega);have n:wG K (ev m)=false:=by
     cases q:wG K (ev m)with
     | true=>have:=ng.1 q; omega
     | false=>rfl
    rw[mW l,ni n,Gp h a hr m (A_ _)]
   ·have k:=IU h b a hr m (by omega) (by omega);have f:=Xb h a hr (show m<an by omega) e
    cases c:wG K (ev m)with
    | true =>
      obtain⟨o,v⟩:=vZ h (m+1) h2 K b;rw[mW (f.trans c),mW c,k];have i:(ev j).o≠(ev m).o:=fun q=>by
       have d:aO (ev j)=aO (ev m):=(by unfold aO; rw[q]);have s:=h.mono a (show m<an by omega) d (by omega);have p:=ng.1 c;rw[<- d]at p; omega
      exact Ab.W9 (o m (by omega)) (IQ h b a hr (by omega) (by omega)).pre (v m (by omega) c).pre i (fun _ _=>MK.ne (h.g j a) (h.g m (by omega)) i)
    | false=>rw[ni (f.trans c),ni c,k]
theorem ZW(h:Evs A0 ev an)(b:Px ev an K)(a:j<an)(hr:dI K (ev j)=true):fP ev (JR K (ev j)) A0 an=(fP ev K A0 an).qR (ev j):=IU h b a hr an a (A_ _)
end
end Rt
end
section
namespace Rt
def eO(m:dU):Ab where
 inn:=m.inn
 left:=m.left
 own:=m.own
 has:=m.T.has
 par:=m.T.par
 R:=bA m
 gh:=iH m
 g:=fun o r j=>if iH m o r=true/\2<=j/\j<=4 then m.g (fA m o r) j else 0
 ask:=gZ m
section
variable {m:dU} {T:dN} {x y:Int} {v:EvM}
theorem IV{x p:Nat->Int} : ∀ {n:Nat} {k:Int},dR x n k=false->iD x p n k=0
 | 0,k,_=>rfl
 | n+1,k,h=>by
   have h:(dR x n k || decide (x n=k))=false:=h;rw[Bool.or_eq_false_iff]at h;show(if x n=k then p n else iD x p n k)=0;rw[b_ (j_ h.2)];exact IV h.1
def Mg(T:dN)(x:Int):Nat->Int
 | 0=>x
 | i+1=>T.par (Mg T x i)
theorem Gq(T:dN)(x:Int) : ∀ i,Mg T x (i+1)=Mg T (T.par x) i
 | 0=>rfl
 | i+1=>by show T.par (Mg T x (i+1))=T.par (Mg T (T.par x) i); rw[Gq T x i]
theorem RS(h:T.has x=false):T.path x = []:=by
 have : ¬ T.has x=true:=by rw[h]; decide
 cases e:T.path x with
 | nil=>rfl
 | cons a l=>exact M_ (show jE T.x T.p T.n 4 x = []from kZ h) (by rw[show jE T.x T.p T.n 4 x=T.path x from rfl,e]; exact fun q=>by cases q)
theorem EZ(g:T.ok) : ∀ n x,(T.path x).length<=n->(∀ i,i<(T.path x).length->(T.path x).getD i 0=Mg T x i/\T.has (Mg T x i)=true)/\T.has (Mg T x (T.path x).length)=false
 | 0,x,hn=>by
   have e:T.path x = []:=List.length_eq_zero_iff.1 (by omega);rw[e];refine⟨fun i d=>M_ d (z_ _),?_⟩
   cases c:T.has (Mg T x [].length)with
   | false=>rfl
   | true=>rw[dN.step g (show T.has x=true from c)]at e; cases e
 | n+1,x,hn=>by
   cases c:T.has x with
   | false =>
     rw[RS c];exact⟨fun i d=>M_ d (z_ _),c⟩
   | true =>
     have f:=dN.step g c;have k:(T.path x).length=(T.path (T.par x)).length+1:=(by rw[f]; rfl);obtain⟨h,j⟩:=EZ g n (T.par x) (by omega);refine⟨fun i d => ?_,by rw[k,Gq]; exact j⟩
     cases i with
     | zero=>rw[f]; exact⟨rfl,c⟩
     | succ i =>
       rw[Gq];obtain⟨a,b⟩:=h i (by omega);refine⟨?_,b⟩;rw[f];exact a
theorem Gr(m:dU)(x:Int) : ∀ i,(eO m).up x i=Mg m.T x i
 | 0=>rfl
 | i+1=>by show m.T.par ((eO m).up x i)=m.T.par (Mg m.T x i); rw[Gr m x i]
theorem Mh(a:T.ok){k:Nat}(h:T.has (Mg T x k)=false) : ∀ i,k<=i->T.has (Mg T x i)=false
 | 0,hi=>by obtain rfl:k=0:=(by omega); exact h
 | i+1,hi=>by
   by_cases e:k=i+1
   ·rw[<- e]; exact h
   ·have:=Mh a h i (by omega);have b:T.par (Mg T x i)=0:=IV this;show T.has (T.par (Mg T x i))=false;rw[b]; exact Cb.Yf a
theorem Dn(j:m.T.ok)(x y:Int):(eO m).on x y=true<->y∈m.T.path x:=by
 obtain⟨h,n⟩:=EZ j _ x (A_ _);have o:=dN.zN (T:=m.T) (k:=x);unfold Ab.on;rw[T_,List.any_eq_true,List.mem_iff_getElem];constructor
 ·rintro ⟨l,i,d,e⟩;have e:=h_ e;rw[Gr]at e;have f:i<(m.T.path x).length:=by
   by_cases c:i<(m.T.path x).length
   ·exact c
   ·have:=Mh j n i (by omega);rw[e]at this;rw[show(eO m).has y=m.T.has y from rfl,this]at l; cases l
  refine⟨i,f,?_⟩;have:=(h i f).1;rw[r_,o_ f]at this;exact this.trans e
 rintro ⟨i,d,e⟩;obtain⟨a,b⟩:=h i d;rw[r_,o_ d]at a;have g:=a.symm.trans e;refine⟨by rw[<- g]; exact b,i,O_.2 (by omega),f_ (by rw[Gr]; exact g)⟩
end
end Rt
end
section
namespace Rt
theorem zQ{x:Nat->Int}{n:Int}{b:Bool}{a:Int}{off:Nat}(h:(bU x n b a off).2=0):may x=true/\1<=n/\n<=1125899906842624/\b=true/\a=0/\x off+n<=1125899906842624/\(bU x n b a off).1=upd x off (x off+n):=by
 rcases lW x n b a off with ⟨_,c,_⟩|⟨⟨hm,h1,c,hr,he,hx⟩,heq⟩
 ·exact M_ h c
 exact⟨hm,h1,c,hr,he,hx,by rw[heq]⟩
section
variable {m:dU} {x y:Int} {v:EvM}
theorem Gs(b:m.T.ok){k:Int}(d:m.T.has k=true)(r:Nat->Int)(y:Int):bA (CV m k r) y=if y=k then r else bA m y:=by
 unfold bA;show(if m.T.has y=true then aN m.R (m.idx k) r (m.idx y)else Gd)=_;by_cases e:y=k
 ·subst e; rw[d_ d,d_ rfl]; unfold aN; rw[d_ rfl]
 rw[b_ e];by_cases c:m.T.has y=true
 ·rw[d_ c,d_ c];unfold aN;rw[b_]
  ·rfl
  intro q;have a:=(dU.D6 b c).2;rw[q,(dU.D6 b d).2]at a;exact e a.symm
 rw[b_ c,b_ c]
open Classical in
theorem JU(a:m.T.ok)(f:(Nat->Int)->(Nat->Int) × Int)(x y:Int):bA (qO m f (m.T.path x)) y=if y∈m.T.path x then(f (bA m y)).1 else bA m y:=by
 unfold bA;show(if m.T.has y=true then(if m.T.x (m.idx y)∈m.T.path x then(f (m.R (m.idx y))).1 else m.R (m.idx y))else Gd)=_;by_cases c:m.T.has y=true
 ·rw[d_ c,d_ c,(dU.D6 a c).2]; rfl
 rw[b_ c,b_ c,b_ fun q=>c (dN.oC a rfl y q)]
theorem zR(b:m.T.ok){f:(Nat->Int)->(Nat->Int) × Int}(h:dA m f (m.T.path x)=0)(hy:y∈m.T.path x):(f (bA m y)).2=0:=by
 obtain⟨i,a,e⟩:=List.getElem_of_mem hy;have:=Gb h i a;rw[r_,o_ a]at this;rw[<- e];unfold bA;rw[d_ (dN.oC b rfl _ (R_ a))];exact this
theorem Gt(h:bS v=true):v.o=(aV v:Int)+1/\aV v<6/\v.o.toNat-1=aV v:=by
 have:=oz h; unfold aV; omega
theorem JV{x:Nat->Int}{off:Nat}{n:Int}(p:Nat):upd x off (x off+n) p=x p+if p=off then n else 0:=by
 unfold upd;by_cases e:p=off
 ·subst e; rw[d_ rfl,d_ rfl]
 rw[b_ e,b_ e,D_]
theorem aff(f:m.T.ok)(k:bS v=true)(j:v.kind=1)(a:iW m v=0)(y:Int)(p:Nat):bA (DY m v) y p=bA m y p+(eO m).dl v y p:=by
 have d:m.T.has (nQ v)=false:=by
  unfold iW at a;split at a
  ·cases a
  ·exact(Fy a).2.1
 have h:rz v=nQ v:=rP k;unfold Ab.dl;rw[d_ j,h];unfold bA;show(if(m.T.put (nQ v) v.node).has y=true then aN m.R m.T.n (upd (fun _=>0) (aO v) v.aU) (Ac (aN m.T.x m.T.n (nQ v)) (m.T.n+1) y)else Gd) p=_;rw[dN.jH];by_cases e:nQ v=y
 ·subst e;rw[f_ rfl,Bool.or_true,d_ rfl,d,b_ (by decide),LV _ _ _ (fun i g e=>by have:=dN.Ar g; rw[e,d]at this; cases this)]
  unfold aN;rw[d_ rfl];show upd (fun _=>0) (aO v) v.aU p=0+_;unfold upd;rw[Int.zero_add];by_cases c:p=aO v
  ·rw[d_ c,d_ ⟨rfl,c⟩]
  rw[b_ c,b_ (fun q=>c q.2)]
 rw[g_ e,H_,b_ (show ¬ (y=nQ v/\p=aV v)from fun q=>e q.1.symm),D_];by_cases c:m.T.has y=true
 ·rw[d_ c,d_ c,LW _ _ e];have b:=(dU.D6 f c).1;have b:Ac m.T.x m.T.n y<m.T.n:=b;unfold aN;rw[b_ (by omega)];rfl
 rw[b_ c,b_ c]
theorem ZX(f:m.T.ok)(g:bS v=true)(d:v.kind=2)(a:jI m v=0)(y:Int)(p:Nat):bA (uT m v) y p=bA m y p+(eO m).dl v y p:=by
 have b:m.T.has v.node=true:=by
  unfold jI at a
  cases c:m.T.has v.node with
  | true=>rfl
  | false=>rw[d_ c]at a; cases a
 unfold Ab.dl;rw[b_ (by rw[d]; decide),d_ d];unfold uT;rw[Gs f b];by_cases e:y=v.node
 ·subst e;rw[d_ rfl,JV];unfold bA;rw[d_ b];show m.R (m.idx v.node) p+(if p=aO v then v.aU else 0)=m.R (m.idx v.node) p+_;by_cases c:p=aO v
  ·rw[d_ c,d_ ⟨rfl,c⟩]
  rw[b_ c,b_ (fun q=>c q.2)]
 rw[b_ e,b_ (fun q=>e q.1),D_]
theorem afg(j:m.T.ok)(z:bS v=true)(f:v.kind=5)(d:kR m v=0)(y:Int)(p:Nat):bA (DV m v) y p=bA m y p+(eO m).dl v y p:=by
 have g:m.T.has v.node=true/\(tF m v).2=0:=by
  unfold kR at d
  cases c:m.T.has v.node with
  | true =>
    rw[b_ (by rw[c]; decide)]at d;split at d
    ·cases d
    ·exact⟨rfl,d⟩
  | false=>rw[d_ c]at d; cases d
 obtain⟨a,b,s,t,w,x,u,l,n,o,r,k⟩:=zJ g.2;have h:aV v=a:=by unfold aV; omega
 have i:dV v=b:=by unfold dV; omega
 unfold Ab.dl;rw[b_ (by rw[f]; decide),b_ (by rw[f]; decide),b_ (by rw[f]; decide),b_ (by rw[f]; decide),d_ f,h,i];unfold DV;rw[Gs j g.1];by_cases e:y=v.node
 ·subst e;rw[d_ rfl];unfold tF;rw[k,JV];unfold bA;rw[d_ g.1];show m.R (m.idx v.node) p+(if p=18+a*6+b then v.aU else 0)=m.R (m.idx v.node) p+_;by_cases c:p=18+a*6+b
  ·rw[d_ c,d_ ⟨rfl,by omega⟩]
  rw[b_ c,b_ (fun q=>c (by omega))]
 rw[b_ e,b_ (fun q=>e q.1),D_]
theorem Xc(a:m.T.ok){f:(Nat->Int)->(Nat->Int) × Int}{x:Int}{n:Int}{off:Nat}(b : ∀ y,y∈m.T.path x->(f (bA m y)).1=upd (bA m y) off (bA m y off+n))(y:Int)(p:Nat):bA (qO m f (m.T.path x)) y p=bA m y p+if(eO m).on x y=true/\p=off then n else 0:=by
 rw[JU a];by_cases c:y∈m.T.path x
 ·rw[d_ c,b y c,JV];by_cases e:p=off
  ·rw[d_ e,d_ ⟨(Dn a x y).2 c,e⟩]
  rw[b_ e,b_ (fun q=>e q.2)]
 rw[b_ c,b_ (fun q=>c ((Dn a x y).1 q.1)),D_]
theorem afh(d:m.T.ok)(g:bS v=true)(b:v.kind=3)(a:jY m v=0)(y:Int)(p:Nat):bA (kU m v) y p=bA m y p+(eO m).dl v y p:=by
 have e:dA m (fun x=>bJ x v.o v.aU) (m.T.path v.node)=0:=by
  unfold jY at a;split at a
  ·cases a
  split at a
  ·cases a
  exact a
 unfold Ab.dl;rw[b_ (by rw[b]; decide),b_ (by rw[b]; decide),d_ b];refine Xc d (f:=fun x=>bJ x v.o v.aU) (x:=v.node) (fun y h => ?_) y p;have c:=zR d e h;unfold bJ at c;show(bJ (bA m y) v.o v.aU).1=_;unfold bJ;rw[(zQ c).2.2.2.2.2.2,(Gt g).2.2]
theorem afi(i:m.T.ok)(l:bS v=true)(b:v.kind=4)(a:jy m v=0)(y:Int)(p:Nat):bA (iF m v) y p=bA m y p+(eO m).dl v y p:=by
 have d:iH m v.o v.of=true/\dA m (fun x=>bK x v.o (m.g (fA m v.o v.of) 3)) (m.T.path (m.g (fA m v.o v.of) 2))=0:=by
  unfold jy at a;split at a
  ·cases a
  split at a
  ·cases a
  rename_i c;refine⟨?_,a⟩
  cases e:iH m v.o v.of with
  | true=>rfl
  | false=>exact M_ (.inl e) c
 have j:(eO m).g v.o v.of 2=m.g (fA m v.o v.of) 2:=d_ ⟨d.1,by decide,by decide⟩;have k:(eO m).g v.o v.of 3=m.g (fA m v.o v.of) 3:=d_ ⟨d.1,by decide,by decide⟩;unfold Ab.dl;rw[b_ (by rw[b]; decide),b_ (by rw[b]; decide),b_ (by rw[b]; decide),d_ b,j,k];refine Xc i (f:=fun x=>bK x v.o (m.g (fA m v.o v.of) 3)) (x:=m.g (fA m v.o v.of) 2) (fun y n => ?_) y p;have h:=zR i d.2 n;unfold bK at h;show(bK (bA m y) v.o (m.g (fA m v.o v.of) 3)).1=_;unfold bK;rw[(zQ h).2.2.2.2.2.2,(Gt l).2.2]
theorem Mi{m':dU}(a:m'.an=m.an+1)(b:m'.ao=aN m.ao m.an v.o)(c:m'.ar=aN m.ar m.an v.req)(o r:Int):gZ m' o r=(gZ m o r || (decide (o=v.o)&&decide (r=v.req))):=by
 have:gZ m' o r=true<->(gZ m o r=true\/(v.o=o/\v.req=r)):=by unfold gZ; rw[a,b,c]; exact Gg
 rw[P_,this,Bool.or_eq_true,T_,Q_,Q_];exact⟨fun h=>h.imp id fun q=>⟨q.1.symm,q.2.symm⟩,fun h=>h.imp id fun q=>⟨q.1.symm,q.2.symm⟩⟩
theorem Xd{k1 k2:Nat->Int}{n:Nat}{a b o r:Int}(h : ¬ (a=o/\b=r)):xK (aN k1 n a) (aN k2 n b) (n+1) o r=xK k1 k2 n o r:=by
 have d : ∀ k,k<=n->xK (aN k1 n a) (aN k2 n b) k o r=xK k1 k2 k o r:=fun k=>by
  induction k with
  | zero=>intro _; rfl
  | succ k ih =>
    intro e;show(if aN k1 n a k=o/\aN k2 n b k=r then k else _)=(if k1 k=o/\k2 k=r then k else _);rw[ih (by omega)];have c : ¬ k=n:=(by omega);rw[show aN k1 n a k=k1 k from b_ c,show aN k2 n b k=k2 k from b_ c]
 show(if aN k1 n a n=o/\aN k2 n b n=r then n else xK (aN k1 n a) (aN k2 n b) n o r)=_;rw[d n (A_ _)];rw[show aN k1 n a n=a from d_ rfl,show aN k2 n b n=b from d_ rfl,b_ h]
theorem Xe{k1 k2:Nat->Int}{n:Nat}{a b:Int}:xK (aN k1 n a) (aN k2 n b) (n+1) a b=n:=by
 show(if aN k1 n a n=a/\aN k2 n b n=b then n else _)=_;unfold aN;rw[d_ ⟨d_ rfl,d_ rfl⟩]
theorem zS(g:Nat->Nat->Int)(n:Nat)(r:Nat->Int)(j:Nat):(fun i=>aN g n r i j)=aN (fun i=>g i j) n (r j):=by
 funext i; unfold aN; split <;> rfl
end
end Rt
end
section
namespace Rt
section
variable {m:dU} {x y:Int} {v:EvM}
theorem jA{b c:Bool}(h:c=false):b=(b || c):=by rw[h,H_]
theorem Kc{k:Int}(h:v.kind≠k){c:Bool}:(decide (v.kind=k)&&c)=false:=by rw[g_ h]; rfl
theorem Xf(i:m.T.ok)(e:bS v=true)(a:v.kind=1)(h:iW m v=0):eO (DY m v)=(eO m).qR v:=by
 have d:rz v=nQ v:=rP e;have b:v.kind≠3:=by rw[a]; decide
 have f:v.kind≠4:=by rw[a]; decide
 have k:v.kind≠6:=by rw[a]; decide
 have l:v.kind≠7:=by rw[a]; decide
 apply Ab.RP
 ·funext j; exact jA (Kc k)
 ·funext j; exact jA (Kc l)
 ·funext j
  show aH m.own (aO v) (m.own (aO v)+1) j=m.own j+if v.kind=1/\j=aV v then 1 else 0;unfold aH;by_cases c:j=aO v
  ·rw[d_ c,d_ ⟨a,c⟩,c]
  rw[b_ c,b_ (fun q=>c q.2),D_]
 ·funext y
  show(m.T.put (nQ v) v.node).has y=(m.T.has y || (decide (v.kind=1)&&decide (y=rz v)));rw[dN.jH,d,f_ a,Bool.true_and]
  congr 1
  exact decide_eq_decide.2 ⟨Eq.symm,Eq.symm⟩
 ·funext y
  show(m.T.put (nQ v) v.node).par y=if v.kind=1/\y=rz v then v.node else m.T.par y;rw[dN.um,d];by_cases c:nQ v=y
  ·rw[d_ c,d_ ⟨a,c.symm⟩]
  rw[b_ c,b_ (fun q=>c q.2.symm)]
 ·funext y p; exact aff i e a h y p
 ·funext o r; exact jA (Kc b)
 ·funext o r j
  show(eO m).g o r j=if v.kind=3/\_ then _ else if v.kind=4/\_ then _ else _;rw[b_ (fun q=>b q.1),b_ (fun q=>f q.1)]
 funext o r
 show gZ m o r=(gZ m o r || ((decide (v.kind=3) || decide (v.kind=4))&&_));rw[g_ b,g_ f];exact jA rfl
theorem Mj{m':dU}(e:m'.inn=m.inn)(f:m'.left=m.left)(h:m'.own=m.own)(c:m'.T=m.T)(i : ∀ o r,iH m' o r=iH m o r)(k:(eO m').g=(eO m).g)(l : ∀ o r,gZ m' o r=gZ m o r)(a:v.kind≠1)(b:v.kind≠3)(d:v.kind≠4)(s:v.kind≠6)(t:v.kind≠7)
 (n : ∀ y p,bA m' y p=bA m y p+(eO m).dl v y p):eO m'=(eO m).qR v:=by
 apply Ab.RP
 ·funext j; rw[show(eO m').inn j=m.inn j from congrFun e j]; exact jA (Kc s)
 ·funext j; rw[show(eO m').left j=m.left j from congrFun f j]; exact jA (Kc t)
 ·funext j
  rw[show(eO m').own j=m.own j from congrFun h j];show m.own j=m.own j+if v.kind=1/\j=aV v then 1 else 0;rw[b_ (fun q=>a q.1),D_]
 ·funext y; rw[show(eO m').has y=m.T.has y from by rw[<- c]; rfl]; exact jA (Kc a)
 ·funext y
  rw[show(eO m').par y=m.T.par y from by rw[<- c]; rfl];show _=if v.kind=1/\y=rz v then v.node else m.T.par y;rw[b_ (fun q=>a q.1)]
 ·funext y p; exact n y p
 ·funext o r; rw[show(eO m').gh o r=iH m o r from i o r]; exact jA (Kc b)
 ·funext o r j
  rw[k];show(eO m).g o r j=if v.kind=3/\_ then _ else if v.kind=4/\_ then _ else _;rw[b_ (fun q=>b q.1),b_ (fun q=>d q.1)]
 funext o r
 rw[show(eO m').ask o r=gZ m o r from l o r];show gZ m o r=(gZ m o r || ((decide (v.kind=3) || decide (v.kind=4))&&_));rw[g_ b,g_ d];exact jA rfl
theorem RU(c:m.T.ok)(d:bS v=true)(a:v.kind=2)(b:jI m v=0):eO (uT m v)=(eO m).qR v :=
 Mj rfl rfl rfl rfl (fun _ _=>rfl) rfl (fun _ _=>rfl) (by rw[a]; decide) (by rw[a]; decide) (by rw[a]; decide) (by rw[a]; decide) (by rw[a]; decide) (ZX c d a b)
theorem Xg(c:m.T.ok)(d:bS v=true)(a:v.kind=5)(b:kR m v=0):eO (DV m v)=(eO m).qR v :=
 Mj rfl rfl rfl rfl (fun _ _=>rfl) rfl (fun _ _=>rfl) (by rw[a]; decide) (by rw[a]; decide) (by rw[a]; decide) (by rw[a]; decide) (by rw[a]; decide) (afg c d a b)
theorem JW{k1 k2:Nat->Int}{a b:Int} : ∀ {n:Nat},BS k1 k2 n a b=true->xK k1 k2 n a b<n
 | 0,h=>by cases h
 | n+1,h=>by
   unfold xK;by_cases c:k1 n=a/\k2 n=b
   ·rw[d_ c]; omega
   ·rw[b_ c];obtain⟨j,g,d,f⟩:=lM.1 h;by_cases e:j=n
    ·subst e; exact M_ ⟨d,f⟩ c
    ·have:=JW (tJ (show j<n by omega) d f); omega
theorem ZY(h1:v.kind≠1)(a:v.kind≠2)(b:v.kind≠3)(c:v.kind≠4)(d:v.kind≠5)(A:Ab)(y:Int)(p:Nat):A.dl v y p=0:=by
 unfold Ab.dl;rw[b_ h1,b_ a,b_ b,b_ c,b_ d]
theorem IW{A B:Ab}(h1:v.kind≠1)(n:v.kind≠2)(a:v.kind≠3)(b:v.kind≠4)(s:v.kind≠5)(c : ∀ j,B.inn j=(A.inn j || (decide (v.kind=6)&&decide (j=dV v))))(d : ∀ j,B.left j=(A.left j || (decide (v.kind=7)&&decide (j=aV v))))(e:B.own=A.own)(f:B.has=A.has)(h:B.par=A.par)(i:B.R=A.R)(k:B.gh=A.gh)(l:B.g=A.g)(m:B.ask=A.ask):B=A.qR v:=by
 apply Ab.RP
 ·funext j; exact c j
 ·funext j; exact d j
 ·funext j; rw[e]; show A.own j=A.own j+if v.kind=1/\j=aV v then 1 else 0; rw[b_ (fun q=>h1 q.1),D_]
 ·funext y; rw[f]; exact jA (Kc h1)
 ·funext y; rw[h]; show _=if v.kind=1/\y=rz v then v.node else A.par y; rw[b_ (fun q=>h1 q.1)]
 ·funext y p; rw[i]; show _=A.R y p+A.dl v y p; rw[ZY h1 n a b s,D_]
 ·funext o r; rw[k]; exact jA (Kc a)
 ·funext o r j
  rw[l];show A.g o r j=if v.kind=3/\_ then _ else if v.kind=4/\_ then _ else _;rw[b_ (fun q=>a q.1),b_ (fun q=>b q.1)]
 funext o r
 rw[m];show A.ask o r=(A.ask o r || ((decide (v.kind=3) || decide (v.kind=4))&&_));rw[g_ a,g_ b];exact jA rfl
theorem Ml{f:Nat->Bool}{k j:Nat}{c:Bool}(a:c=true):aH f k true j=(f j || (c&&decide (j=k))):=by
 rw[a,Bool.true_and];unfold aH;by_cases e:j=k
 ·rw[d_ e,f_ e,Bool.or_true]
 rw[b_ e,g_ e,H_]
theorem Xh(a:v.kind=6):eO (Io m v)=(eO m).qR v :=
 IW (by rw[a]; decide) (by rw[a]; decide) (by rw[a]; decide) (by rw[a]; decide) (by rw[a]; decide) (fun j=>Ml (f_ a)) (fun j=>jA (Kc (by rw[a]; decide))) rfl rfl rfl rfl rfl rfl rfl
theorem RV(a:v.kind=7):eO (CW m v)=(eO m).qR v :=
 IW (by rw[a]; decide) (by rw[a]; decide) (by rw[a]; decide) (by rw[a]; decide) (by rw[a]; decide) (fun j=>jA (Kc (by rw[a]; decide))) (fun j=>Ml (k:=aO v) (f_ a)) rfl rfl rfl rfl rfl rfl rfl
theorem Xi(z:m.T.ok)(A:RF m)(u:bS v=true)(b:v.kind=3)(k:jY m v=0):eO (kU m v)=(eO m).qR v:=by
 have n:v.kind≠1:=by rw[b]; decide
 have C:v.kind≠4:=by rw[b]; decide
 have D:v.kind≠6:=by rw[b]; decide
 have E:v.kind≠7:=by rw[b]; decide
 have B:gZ m v.o v.req=false:=by
  unfold jY at k
  cases c:gZ m v.o v.req with
  | false=>rfl
  | true=>rw[d_ c]at k; cases k
 have F:iH m v.o v.req=false:=pX fun i t e=>by
  have:=A i t;rw[e.1,e.2,B]at this; cases this
 have s : ∀ o r,iH (kU m v) o r=(iH m o r || (decide (o=v.o)&&decide (r=v.req))):=fun o r=>by
  have d:=zS m.g m.gn (qC v) 0;have f:=zS m.g m.gn (qC v) 1;have:iH (kU m v) o r=true<->(iH m o r=true\/(v.o=o/\v.req=r)):=by
   show BS (fun i=>aN m.g m.gn (qC v) i 0) (fun i=>aN m.g m.gn (qC v) i 1) (m.gn+1) o r=true<->_;rw[d,f]; exact Gg
  rw[P_,this,Bool.or_eq_true,T_,Q_,Q_];exact⟨fun h=>h.imp id fun q=>⟨q.1.symm,q.2.symm⟩,fun h=>h.imp id fun q=>⟨q.1.symm,q.2.symm⟩⟩
 have x : ∀ o r,fA (kU m v) o r=xK (aN (fun i=>m.g i 0) m.gn v.o) (aN (fun i=>m.g i 1) m.gn v.req) (m.gn+1) o r:=fun o r=>by
  have d:=zS m.g m.gn (qC v) 0;have f:=zS m.g m.gn (qC v) 1;show xK (fun i=>aN m.g m.gn (qC v) i 0) (fun i=>aN m.g m.gn (qC v) i 1) (m.gn+1) o r=_;rw[d,f]; rfl
 apply Ab.RP
 ·funext j; exact jA (Kc D)
 ·funext j; exact jA (Kc E)
 ·funext j
  show m.own j=m.own j+if v.kind=1/\j=aV v then 1 else 0;rw[b_ (fun q=>n q.1),D_]
 ·funext y; exact jA (Kc n)
 ·funext y
  show m.T.par y=if v.kind=1/\y=rz v then v.node else m.T.par y;rw[b_ (fun q=>n q.1)]
 ·funext y p; exact afh z u b k y p
 ·funext o r
  show iH (kU m v) o r=(iH m o r || (decide (v.kind=3)&&(decide (o=v.o)&&decide (r=v.req))));rw[s,f_ b,Bool.true_and]
 ·funext o r j
  show(if iH (kU m v) o r=true/\2<=j/\j<=4 then(kU m v).g (fA (kU m v) o r) j else 0)=if v.kind=3/\o=v.o/\r=v.req then(if j=2 then v.node else if j=3 then v.aU else 0)else if v.kind=4/\_ then _ else(if iH m o r=true/\2<=j/\j<=4 then m.g (fA m o r) j else 0);rw[s,x];by_cases c:o=v.o/\r=v.req
  ·rw[d_ (show v.kind=3/\o=v.o/\r=v.req from⟨b,c⟩),c.1,c.2,Xe,f_ (rfl:v.o=v.o),f_ (rfl:v.req=v.req),Bool.and_self,Bool.or_true];show(if true=true/\2<=j/\j<=4 then aN m.g m.gn (qC v) m.gn j else 0)=_;rw[show aN m.g m.gn (qC v) m.gn=qC v from d_ rfl];by_cases a:j=2
   ·rw[d_ a,a,d_ ⟨rfl,by decide,by decide⟩]; rfl
   rw[b_ a];by_cases l:j=3
   ·rw[d_ l,l,d_ ⟨rfl,by decide,by decide⟩]; rfl
   rw[b_ l];by_cases w:j=4
   ·rw[w,d_ ⟨rfl,by decide,by decide⟩]; rfl
   rw[b_ (by omega)]
  rw[b_ (show ¬ (v.kind=3/\o=v.o/\r=v.req)from fun q=>c q.2),b_ (show ¬ (v.kind=4/\o=v.o/\r=v.of/\j=4)from fun q=>C q.1),Xd (fun q=>c ⟨q.1.symm,q.2.symm⟩)];have:(decide (o=v.o)&&decide (r=v.req))=false:=by
   cases e:(decide (o=v.o)&&decide (r=v.req))with
   | false=>rfl
   | true=>rw[T_,Q_,Q_]at e; exact M_ e c
  rw[this,H_];by_cases a:iH m o r=true/\2<=j/\j<=4
  ·rw[d_ a,d_ a];obtain⟨i,t,d,f⟩:=lM.1 a.1;have:xK (fun i=>m.g i 0) (fun i=>m.g i 1) m.gn o r<m.gn:=JW a.1;show aN m.g m.gn (qC v) _ j=_;unfold aN;rw[b_ (by omega)];rfl
  rw[b_ a,b_ a]
 funext o r
 show gZ (kU m v) o r=(gZ m o r || ((decide (v.kind=3) || decide (v.kind=4))&&(decide (o=v.o)&&decide (r=v.req))));rw[f_ b,Bool.true_or,Bool.true_and];exact Mi rfl rfl rfl o r
theorem Gu{k1 k2:Nat->Int}{a b:Int} : ∀ {n:Nat},BS k1 k2 n a b=true->k1 (xK k1 k2 n a b)=a/\k2 (xK k1 k2 n a b)=b
 | 0,h=>by cases h
 | n+1,h=>by
   unfold xK;by_cases c:k1 n=a/\k2 n=b
   ·rw[d_ c]; exact c
   ·rw[b_ c];obtain⟨j,g,d,f⟩:=lM.1 h;by_cases e:j=n
    ·subst e; exact M_ ⟨d,f⟩ c
    ·exact Gu (tJ (show j<n by omega) d f)
theorem Xj(G:m.T.ok)(J:bS v=true)(a:v.kind=4)(b:jy m v=0):eO (iF m v)=(eO m).qR v:=by
 have k:v.kind≠1:=by rw[a]; decide
 have x:v.kind≠3:=by rw[a]; decide
 have K:v.kind≠6:=by rw[a]; decide
 have L:v.kind≠7:=by rw[a]; decide
 have f:iH m v.o v.of=true:=by
  unfold jy at b;split at b
  ·cases b
  split at b
  ·cases b
  rename_i c
  cases e:iH m v.o v.of with
  | true=>rfl
  | false=>exact M_ (.inl e) c
 have h : ∀ i j,j≠4->aN m.g (fA m v.o v.of) (upd (m.g (fA m v.o v.of)) 4 v.req) i j=m.g i j:=fun i j H=>by
  unfold aN;by_cases c:i=fA m v.o v.of
  ·rw[d_ c,c]; unfold upd; rw[b_ H]
  ·rw[b_ c]
 have n:(fun i=>(iF m v).g i 0)=fun i=>m.g i 0:=by funext i; exact h i 0 (by decide)
 have s:(fun i=>(iF m v).g i 1)=fun i=>m.g i 1:=by funext i; exact h i 1 (by decide)
 have w : ∀ o r,iH (iF m v) o r=iH m o r:=fun o r=>by
  show BS (fun i=>(iF m v).g i 0) (fun i=>(iF m v).g i 1) m.gn o r=_;rw[n,s]; rfl
 have F : ∀ o r,fA (iF m v) o r=fA m o r:=fun o r=>by
  show xK (fun i=>(iF m v).g i 0) (fun i=>(iF m v).g i 1) m.gn o r=_;rw[n,s]; rfl
 apply Ab.RP
 ·funext j; exact jA (Kc K)
 ·funext j; exact jA (Kc L)
 ·funext j
  show m.own j=m.own j+if v.kind=1/\j=aV v then 1 else 0;rw[b_ (fun q=>k q.1),D_]
 ·funext y; exact jA (Kc k)
 ·funext y
  show m.T.par y=if v.kind=1/\y=rz v then v.node else m.T.par y;rw[b_ (fun q=>k q.1)]
 ·funext y p; exact afi G J a b y p
 ·funext o r
  show iH (iF m v) o r=(iH m o r || (decide (v.kind=3)&&_));rw[w]; exact jA (Kc x)
 ·funext o r j
  show(if iH (iF m v) o r=true/\2<=j/\j<=4 then(iF m v).g (fA (iF m v) o r) j else 0)=if v.kind=3/\o=v.o/\r=v.req then _ else if v.kind=4/\o=v.o/\r=v.of/\j=4 then v.req else(if iH m o r=true/\2<=j/\j<=4 then m.g (fA m o r) j else 0);rw[w,F,b_ (show ¬ (v.kind=3/\o=v.o/\r=v.req)from fun q=>x q.1)];show(if iH m o r=true/\2<=j/\j<=4 then aN m.g (fA m v.o v.of) (upd (m.g (fA m v.o v.of)) 4 v.req) (fA m o r) j else 0)=_;by_cases c:v.kind=4/\o=v.o/\r=v.of/\j=4
  ·rw[d_ c,c.2.1,c.2.2.1,c.2.2.2,d_ ⟨f,by decide,by decide⟩];unfold aN upd; rw[d_ rfl,d_ rfl]
  rw[b_ c];by_cases d:iH m o r=true/\2<=j/\j<=4
  ·rw[d_ d,d_ d];by_cases l:j=4
   ·have I:fA m o r≠fA m v.o v.of:=fun e=>c ⟨a,by
     obtain⟨z,A⟩:=Gu d.1;obtain⟨B,C⟩:=Gu f;have t:m.g (fA m o r) 0=o:=z;have D:=B;have u:m.g (fA m o r) 1=r:=A;have E:m.g (fA m v.o v.of) 1=v.of:=C;rw[e]at t u;exact⟨t.symm.trans D,u.symm.trans E,l⟩⟩
    unfold aN; rw[b_ I]
   exact h _ j l
  rw[b_ d,b_ d]
 funext o r
 show gZ (iF m v) o r=(gZ m o r || ((decide (v.kind=3) || decide (v.kind=4))&&(decide (o=v.o)&&decide (r=v.req))));rw[f_ a,Bool.or_true,Bool.true_and];exact Mi rfl rfl rfl o r
theorem Xk(c:m.T.ok)(j:RF m)(b:bS v=true)(a:fH m v=0):eO (iN m v)=(eO m).qR v:=by
 have k:=jf b;unfold fH at a;unfold iN;by_cases d:v.kind=1
 ·rw[d_ d]at a ⊢; exact Xf c b d a
 rw[b_ d]at a ⊢;by_cases e:v.kind=2
 ·rw[d_ e]at a ⊢; exact RU c b e a
 rw[b_ e]at a ⊢;by_cases f:v.kind=3
 ·rw[d_ f]at a ⊢; exact Xi c j b f a
 rw[b_ f]at a ⊢;by_cases g:v.kind=4
 ·rw[d_ g]at a ⊢; exact Xj c b g a
 rw[b_ g]at a ⊢;by_cases h:v.kind=5
 ·rw[d_ h]at a ⊢; exact Xg c b h a
 rw[b_ h]at a ⊢;by_cases i:v.kind=6
 ·rw[d_ i]; exact Xh i
 rw[b_ i]; exact RV (by omega)
theorem RX(c:m.T.ok)(d:RF m)(a:dF m v=0):eO (iX m v)=(eO m).qR v:=by
 have b:=Xk c d (qx a) (qy a).2.1;unfold iX;rw[d_ a];exact b
end
end Rt
end
section
namespace Rt
structure Ab.Sm(A:Ab)(N:Nat):Prop where
 r : ∀ y p,A.R y p<=65536*N
 g : ∀ o r,A.gh o r=true->1<=A.g o r 3/\A.g o r 3<=65536
structure Sl(m:dU):Prop where
 n:(m.T.n:Int)=m.own 0+m.own 1+m.own 2+m.own 3+m.own 4+m.own 5
 o : ∀ a,a<6->m.own a<=5
section
variable {A:Ab} {m:dU} {L:fI} {N S:Nat} {x y:Int} {v:EvM}
theorem Ab.Sm.dl(m:A.Sm S)(l:A.Pre v)(k:oL v)(y:Int)(p:Nat):A.dl v y p<=65536:=by
 have b:=k.aU;have a : ∀ {c:Prop} [Decidable c] {n:Int},n<=65536->(if c then n else 0)<=65536:=fun {c} _ {n} h=>by split <;> omega
 unfold Ab.dl;by_cases e:v.kind=1
 ·rw[d_ e]; exact a b
 rw[b_ e];by_cases f:v.kind=2
 ·rw[d_ f]; exact a b
 rw[b_ f];by_cases i:v.kind=3
 ·rw[d_ i]; exact a b
 rw[b_ i];by_cases d:v.kind=4
 ·rw[d_ d]; exact a (m.g _ _ (l.n4 d)).2
 rw[b_ d];by_cases j:v.kind=5
 ·rw[d_ j]; exact a b
 rw[b_ j]; decide
theorem Ab.Sm.qR(b:A.Sm S)(f:A.Pre v)(h:bS v=true)(d:oL v):(A.qR v).Sm (S+1) where
 r:=fun y p=>by
  have i:=b.r y p;have j:=b.dl f d y p;show A.R y p+A.dl v y p<=_;omega
 g:=fun o r a=>by
  have a:=a;by_cases c:v.kind=3/\o=v.o/\r=v.req
  ·have:(A.qR v).g o r 3=v.aU:=(by show(if v.kind=3/\o=v.o/\r=v.req then _ else _)=v.aU; rw[d_ c]; rfl);rw[this]; exact⟨(lI h (.inr (.inl c.1))).1,d.aU⟩
  ·have e:A.gh o r=true:=by
    rcases Bool.or_eq_true_iff.1 a with q|q
    ·exact q
    ·rw[T_,T_]at q; exact M_ ⟨h_ q.1,h_ q.2.1,h_ q.2.2⟩ c
   rw[Ab.Mf f e 3 (by decide)];exact b.g o r e
theorem Sl.row{m':dU}(h:Sl m)(a:m'.T=m.T)(b:m'.own=m.own):Sl m':=by
 cases m'; cases m; cases a; cases b; exact⟨h.n,h.o⟩
theorem Sl.does(h:Sl m)(l:bS v=true)(b:fH m v=0):Sl (iN m v):=by
 unfold fH at b;unfold iN;by_cases c:v.kind=1
 ·rw[d_ c]at b ⊢;have q:m.own (aO v)<5:=by
   unfold iW at b;split at b
   ·cases b
   ·omega
  have r:=mY l;have p:=h.n;refine⟨?_,fun a k => ?_⟩
  ·show((m.T.n+1:Nat):Int)=aH m.own (aO v) (m.own (aO v)+1) 0+aH m.own (aO v) (m.own (aO v)+1) 1+aH m.own (aO v) (m.own (aO v)+1) 2+aH m.own (aO v) (m.own (aO v)+1) 3+aH m.own (aO v) (m.own (aO v)+1) 4+aH m.own (aO v) (m.own (aO v)+1) 5;unfold aH
   rcases(show aO v=0\/aO v=1\/aO v=2\/aO v=3\/aO v=4\/aO v=5 by omega)with e|e|e|e|e|e <;> rw[e] <;> simp <;> omega
  show aH m.own (aO v) (m.own (aO v)+1) a<=5;have:=h.o a k;unfold aH; split <;> omega
 rw[b_ c];by_cases d:v.kind=2
 ·rw[d_ d]; exact h.row rfl rfl
 rw[b_ d];by_cases f:v.kind=3
 ·rw[d_ f]; exact h.row rfl rfl
 rw[b_ f];by_cases g:v.kind=4
 ·rw[d_ g]; exact h.row rfl rfl
 rw[b_ g];by_cases i:v.kind=5
 ·rw[d_ i]; exact h.row rfl rfl
 rw[b_ i];by_cases j:v.kind=6
 ·rw[d_ j]; exact h.row rfl rfl
 rw[b_ j]; exact h.row rfl rfl
theorem Sl.apply(h:Sl m):Sl (iX m v):=by
 unfold iX;by_cases c:dF m v=0
 ·rw[d_ c]; exact(h.does (qx c) (qy c).2.1).row rfl rfl
 rw[b_ c]; exact h
theorem abp(x:Nat->Int)(a:Nat):Rt.L x a=Dl x a:=by
 have e : ∀ i,R x a i=x (18+(6*a+i)):=fun i=>by unfold R; congr 1; omega
 have b:R x 0 a=x (18+(6*0+a)):=by unfold R; congr 1; omega
 have c:R x 1 a=x (18+(6*1+a)):=by unfold R; congr 1; omega
 have d:R x 2 a=x (18+(6*2+a)):=by unfold R; congr 1; omega
 have f:R x 3 a=x (18+(6*3+a)):=by unfold R; congr 1; omega
 have g:R x 4 a=x (18+(6*4+a)):=by unfold R; congr 1; omega
 have h:R x 5 a=x (18+(6*5+a)):=by unfold R; congr 1; omega
 unfold Rt.L Dl;rw[e,e,e,e,e,e,b,c,d,f,g,h];unfold G C F;omega
theorem Dp{x:Nat->Int}(h:may x=true)(b:bS v=true):cB x v.o=Dl x (aV v):=by
 obtain⟨e,a,_⟩:=Gt b;rw[e,jP h _ a,abp]
theorem zm{x:Nat->Int}{n:Int}{b:Bool}{a:Int}{off:Nat}(h1:may x=true)(c:1<=n)(d:n<=1125899906842624)(e:b=true)(f:a=0)(g:x off+n<=1125899906842624):(bU x n b a off).2=0:=by
 rcases lW x n b a off with ⟨_,_,h⟩|⟨_,h⟩
 ·exact M_ ⟨h1,c,d,e,f,g⟩ h
 rw[h]
theorem D9{f:(Nat->Int)->(Nat->Int) × Int}{r:Nat->Nat->Int} : ∀ {n:Nat},(∀ i,i<n->(f (r i)).2=0)->jR f r n=0
 | 0,_=>rfl
 | n+1,h=>Db (D9 fun i a=>h i (by omega)) (h n (by omega))
theorem Gv(c:m.T.ok){f:(Nat->Int)->(Nat->Int) × Int}{x:Int}(h : ∀ y,y∈m.T.path x->(f (bA m y)).2=0):dA m f (m.T.path x)=0 :=
 D9 fun i a=>by
  have b:(m.T.path x).getD i 0∈m.T.path x:=by
   rw[r_,o_ a]; exact R_ a
  have:=h _ b;unfold bA at this;rw[d_ (dN.oC c rfl _ b)]at this;exact this
theorem Bc(h:bS v=true)(b:v.kind=5):1<=v.dst/\v.dst<=6/\v.dst≠v.o:=by
 unfold bS at h;simp only[T_]at h;have a:=h.2;unfold dz at a;rw[b_ (by omega),b_ (by omega),b_ (by omega),b_ (by omega),d_ b,T_]at a;have:=a.2;unfold kN mD at this;simp at this;omega
theorem Z0(a:bS v=true):gG v.o=true:=by have:=oz a; unfold gG; simp; omega
end
structure Tw(m:dU)(L:fI)(N S:Nat):Prop where
 t:GJ m L N
 w:Sl m
 s:(eO m).Sm S
 b:S<=1000000
section
variable {m:dU} {L:fI} {N S:Nat} {x y:Int} {v:EvM}
theorem GJ.may(h:GJ m L N)(hy:m.T.has y=true):may (bA m y)=true:=by
 obtain⟨i,a,e⟩:=(h.s.T.has y).1 hy;unfold bA;rw[d_ hy,<- e,h.s.row i a];exact h.i.may i a
theorem Tw.cell(h:Tw m L N S)(y:Int)(p:Nat):bA m y p<=65536000000:=by
 have:=h.s.r y p;have a:=h.b;show(eO m).R y p<=_;omega
theorem Tw.make(h:Tw m L N S)(s:bS v=true)(k:v.kind=1)(j:(eO m).RQ v):iW m v=0:=by
 obtain⟨a,b,c⟩:=j.pre.n1 k;obtain⟨d,e,f⟩:=j.k1 k;have r:rz v=nQ v:=rP s;rw[r]at a b;unfold iW;have d:m.own (aO v)<5:=d;rw[b_ (show ¬ (5<=m.own (aO v)\/140737488355328<v.aU) by omega)];show rH m.T.x m.T.p m.T.n (nQ v) v.node=0;unfold rH;have a:dR m.T.x m.T.n (nQ v)=false:=a;rw[b_ b,b_ (by rw[a]; decide)];rw[b_ (show ¬ (¬ v.node=0/\dR m.T.x m.T.n v.node=false)from fun q=>by
  rcases c with c|c
  ·exact q.1 c
  ·have c:dR m.T.x m.T.n v.node=true:=c;rw[q.2]at c; cases c)]
 rw[b_];rintro (q|q)
 ·have y:=h.w.n;have g:=h.w.o;have:=g 0 (by decide); have:=g 1 (by decide); have:=g 2 (by decide); have:=g 3 (by decide); have:=g 4 (by decide); have:=g 5 (by decide);omega
 obtain⟨u,_⟩:=EZ h.t.t _ v.node (A_ _);exact f fun i l=>by
  rw[Gr];exact(u i (n_ l q)).2
theorem Tw.make'(h:Tw m L N S)(k:bS v=true)(o:v.kind=1)(a:iW m v=0):(rz v≠0/\(eO m).has (rz v)=false/\(v.node=0\/(eO m).has v.node=true))/\(eO m).own (aV v)<5/\v.aU<=140737488355328 /\ ¬ ∀ i,i<4->(eO m).has ((eO m).up v.node i)=true:=by
 have j:rz v=nQ v:=rP k;unfold iW at a;by_cases c:5<=m.own (aO v)\/140737488355328<v.aU
 ·rw[d_ c]at a; cases a
 rw[b_ c]at a;obtain⟨d,e,f,n,g⟩:=Fy a;rw[j];refine⟨⟨d,e,f⟩,?_,by omega,fun q => ?_⟩
 ·show m.own (aO v)<5;omega
 obtain⟨_,l⟩:=EZ h.t.t _ v.node (A_ _);have:=q _ (show(m.T.path v.node).length<4 from g);rw[Gr]at this;have b:m.T.has (Mg m.T v.node (m.T.path v.node).length)=true:=this;rw[l]at b; cases b
theorem Tw.does(h:Tw m L N S)(c:bS v=true)(I:oL v)(j:(eO m).RQ v):fH m v=0:=by
 have k:=h.t.t;have P:=j.pre;have D:=Z0 c;have G : ∀ y p n,n<=65536->bA m y p+n<=1125899906842624:=fun y p n U=>by have:=h.cell y p; omega
 unfold fH;by_cases E:v.kind=1
 ·rw[d_ E]; exact h.make c E j
 rw[b_ E];by_cases A:v.kind=2
 ·rw[d_ A];have a:m.T.has v.node=true:=P.n2 A;have:=j.k2 A;have e:(eO m).R v.node (aV v)=m.R (m.idx v.node) (aO v):=by
   show bA m v.node (aV v)=_;unfold bA; rw[d_ a]; rfl
  rw[e]at this;unfold jI;rw[b_ (by rw[a]; decide),b_ (by omega)]
 rw[b_ A];by_cases w:v.kind=3
 ·rw[d_ w];have a:m.T.has v.node=true:=(P.n3 w).1;obtain⟨b,i⟩:=j.k3 w;have b:gZ m v.o v.req=false:=b;have r:=lI c (.inr (.inl w));unfold jY;rw[b_ (by rw[b]; decide),b_ (by rw[a]; decide)];refine Gv (f:=fun x=>bJ x v.o v.aU) k fun y u => ?_;have d:=h.t.may (dN.oC k rfl y u);have:=i y ((Dn k _ y).2 u);have this:v.aU<=Dl (bA m y) (aV v):=this;refine zm d r.1 r.2 D ?_ (G y _ _ I.aU);unfold qX;rw[Dp d c,g_ (by omega)]; rfl
 rw[b_ w];by_cases z:v.kind=4
 ·rw[d_ z];have a:iH m v.o v.of=true:=P.n4 z;obtain⟨b,i,J⟩:=j.k4 z;have b:gZ m v.o v.req=false:=b;have K:(eO m).g v.o v.of 2=m.g (fA m v.o v.of) 2:=d_ ⟨a,by decide,by decide⟩;have H:(eO m).g v.o v.of 3=m.g (fA m v.o v.of) 3:=d_ ⟨a,by decide,by decide⟩;have M:(eO m).g v.o v.of 4=m.g (fA m v.o v.of) 4:=d_ ⟨a,by decide,by decide⟩;have B:=h.s.g _ _ (P.n4 z);rw[K,H]at J;rw[H]at B;rw[M]at i;unfold jy;rw[b_ (by rw[b]; decide),b_ (show ¬ (iH m v.o v.of=false\/m.g (fA m v.o v.of) 4≠0)from fun q=>q.elim (fun q=>by rw[a]at q; cases q) (fun q=>q i))]
  refine Gv (f:=fun x=>bK x v.o (m.g (fA m v.o v.of) 3)) k fun y u => ?_;have d:=h.t.may (dN.oC k rfl y u);have:=J y ((Dn k _ y).2 u);have this:m.g (fA m v.o v.of) 3<=bA m y (6+aV v)-bA m y (12+aV v):=this;refine zm d B.1 (by omega) D ?_ (G y _ _ B.2);unfold qY C F;rw[(Gt c).2.2,g_ (by omega)]; rfl
 rw[b_ z];by_cases l:v.kind=5
 ·rw[d_ l];have a:m.T.has v.node=true:=P.n5 l;obtain⟨b,i⟩:=j.k5 l;have b:m.inn (v.dst-1).toNat=true:=b;have i:v.aU<=Dl (bA m v.node) (aV v):=i;have r:=lI c (.inr (.inr l));have d:=h.t.may a;have O:bA m v.node=m.R (m.idx v.node):=by unfold bA; rw[d_ a]; rfl
  have Q:=Bc c l;unfold kR;rw[b_ (by rw[a]; decide),b_ (by rw[b]; decide)];show(cK (m.R (m.idx v.node)) v.o v.dst v.aU).2=0;rw[<- O];refine zm d r.1 r.2 (by rw[D,show gG v.dst=true by unfold gG; simp; omega]; rfl) ?_ (G _ _ _ I.aU);unfold mU;rw[b_ (fun e=>Q.2.2 e.symm),Dp d c,g_ (by omega)]; rfl
 rw[b_ l];split <;> rfl
theorem Tw.okE(h:Tw m L N S)(D:bS v=true)(h1:m.inn (aO v)=true)(p:m.left (aO v)=false)(d:fH m v=0):(eO m).RQ v:=by
 have B:=h.t.t;unfold fH at d;have no : ∀ {k:Int} {P:Prop},v.kind≠k->v.kind=k->P:=fun a b=>M_ b a;by_cases r:v.kind=1
 ·rw[d_ r]at d;obtain⟨⟨H,I,J⟩,b⟩:=h.make' D r d;have n : ∀ {k:Int} {P:Prop},k≠1->v.kind=k->P:=fun a b=>M_ (b.symm.trans r) a;exact⟨h1,p,⟨fun _=>⟨I,H,J⟩,n (by decide),n (by decide),n (by decide),n (by decide)⟩,fun _=>b,n (by decide),n (by decide),n (by decide),n (by decide)⟩
 rw[b_ r]at d;by_cases w:v.kind=2
 ·rw[d_ w]at d;have n : ∀ {k:Int} {P:Prop},k≠2->v.kind=k->P:=fun a b=>M_ (b.symm.trans w) a;unfold jI at d
  cases f:m.T.has v.node with
  | false=>rw[d_ f]at d; cases d
  | true =>
    rw[b_ (by rw[f]; decide)]at d;have e:(eO m).R v.node (aV v)=m.R (m.idx v.node) (aO v):=by
     show bA m v.node (aV v)=_;unfold bA; rw[d_ f]; rfl
    refine⟨h1,p,⟨n (by decide),fun _=>f,n (by decide),n (by decide),n (by decide)⟩,n (by decide),fun _ => ?_,n (by decide),n (by decide),n (by decide)⟩;rw[e];by_cases c:140737488355328<m.R (m.idx v.node) (aO v)+v.aU
    ·rw[d_ c]at d; cases d
    ·omega
 rw[b_ w]at d;by_cases x:v.kind=3
 ·rw[d_ x]at d;have n : ∀ {k:Int} {P:Prop},k≠3->v.kind=k->P:=fun a b=>M_ (b.symm.trans x) a;unfold jY at d
  cases c1:gZ m v.o v.req with
  | true=>rw[d_ c1]at d; cases d
  | false =>
    rw[b_ (by rw[c1]; decide)]at d
    cases f:m.T.has v.node with
    | false=>rw[d_ f]at d; cases d
    | true =>
      rw[b_ (by rw[f]; decide)]at d;have W:iH m v.o v.req=false:=pX fun i u e=>by
       have:=h.t.s.ga i u;rw[e.1,e.2,c1]at this; cases this
      refine⟨h1,p,⟨n (by decide),n (by decide),fun _=>⟨f,W⟩,n (by decide),n (by decide)⟩,n (by decide),n (by decide),fun _=>⟨c1,fun y l => ?_⟩,n (by decide),n (by decide)⟩;have l:=(Dn B _ y).1 l;have q:=zR B d l;unfold bJ at q;have G:=zQ q;have j:=G.2.2.2.2.1;unfold qX at j;rw[Dp G.1 D]at j;show v.aU<=Dl (bA m y) (aV v);by_cases c:Dl (bA m y) (aV v)<v.aU
      ·rw[f_ c]at j; cases j
      ·omega
 rw[b_ x]at d;by_cases z:v.kind=4
 ·rw[d_ z]at d;have n : ∀ {k:Int} {P:Prop},k≠4->v.kind=k->P:=fun a b=>M_ (b.symm.trans z) a;unfold jy at d
  cases c1:gZ m v.o v.req with
  | true=>rw[d_ c1]at d; cases d
  | false =>
    rw[b_ (by rw[c1]; decide)]at d;by_cases A:iH m v.o v.of=false\/m.g (fA m v.o v.of) 4≠0
    ·rw[d_ A]at d; cases d
    ·rw[b_ A]at d;have f:iH m v.o v.of=true:=by
      cases e:iH m v.o v.of with
      | true=>rfl
      | false=>exact M_ (.inl e) A
     have U:m.g (fA m v.o v.of) 4=0:=Classical.byContradiction fun q=>A (.inr q);have K:(eO m).g v.o v.of 2=m.g (fA m v.o v.of) 2:=d_ ⟨f,by decide,by decide⟩;have M:(eO m).g v.o v.of 3=m.g (fA m v.o v.of) 3:=d_ ⟨f,by decide,by decide⟩;have O:(eO m).g v.o v.of 4=m.g (fA m v.o v.of) 4:=d_ ⟨f,by decide,by decide⟩;refine⟨h1,p,⟨n (by decide),n (by decide),n (by decide),fun _=>f,n (by decide)⟩,n (by decide),n (by decide),n (by decide),fun _=>⟨c1,O.trans U,fun y l => ?_⟩,n (by decide)⟩;rw[K]at l;rw[M];have l:=(Dn B _ y).1 l;have q:(bK (bA m y) v.o (m.g (fA m v.o v.of) 3)).2=0:=zR B d l;unfold bK at q;have G:=zQ q;have j:=G.2.2.2.2.1;unfold qY C F at j;rw[(Gt D).2.2]at j;show m.g (fA m v.o v.of) 3<=bA m y (6+aV v)-bA m y (12+aV v);by_cases c:bA m y (6+aV v)-bA m y (12+aV v)<m.g (fA m v.o v.of) 3
     ·rw[f_ c]at j; cases j
     ·omega
 rw[b_ z]at d;by_cases E:v.kind=5
 ·rw[d_ E]at d;have n : ∀ {k:Int} {P:Prop},k≠5->v.kind=k->P:=fun a b=>M_ (b.symm.trans E) a;unfold kR at d
  cases f:m.T.has v.node with
  | false=>rw[d_ f]at d; cases d
  | true =>
    rw[b_ (by rw[f]; decide)]at d
    cases u:m.inn (v.dst-1).toNat with
    | false=>rw[d_ u]at d; cases d
    | true =>
      rw[b_ (by rw[u]; decide)]at d;have hm:=h.t.may f;have Q:bA m v.node=m.R (m.idx v.node):=(by unfold bA; rw[d_ f]; rfl);obtain⟨a,b,ha,hb,hne,ho,hd,X,Y,V,hM,heq⟩:=zJ d;refine⟨h1,p,⟨n (by decide),n (by decide),n (by decide),n (by decide),fun _=>f⟩,n (by decide),n (by decide),n (by decide),n (by decide),fun _=>⟨u,?_⟩⟩;show v.aU<=Dl (bA m v.node) (aV v);rw[Q,<- abp,show aV v=a by unfold aV; omega];exact V
 have Z:=jf D;exact⟨h1,p,⟨no r,no w,no x,no z,no E⟩,no r,no w,no x,no z,no E⟩
theorem JX{K:Nat->Int}(h:dI K v=true):mR K v=false:=by
 obtain⟨a,b,c⟩:=GU h;unfold mR;rw[g_ (show ¬ v.seq<=K (v.o-1).toNat by have b:v.seq=K (v.o-1).toNat+1:=b; omega),I_]
theorem Tw.check(h:Tw m L N S)(i:oL v)(hr:dI m.known v=true):dF m v=0<->(eO m).RQ v:=by
 have f:=(GU hr).1;constructor
 ·intro g;obtain⟨a,b,c,d⟩:=qy g;exact h.okE f c d b
 intro e;unfold dF;rw[b_ (by rw[f]; decide),b_ (by rw[JX hr]; decide),b_ (by rw[hr]; decide),b_,h.does f i e];rintro (q|q)
 ·have:=e.inn; rw[show(eO m).inn (aV v)=m.inn (aO v)from rfl,q]at this; cases this
 have:=e.left; rw[show(eO m).left (aV v)=m.left (aO v)from rfl,q]at this; cases this
end
end Rt
end
section
namespace Rt
def Xl(k:Nat):Ab:=eO (zi k 0 0 0 0 0 0)
structure Ws(k:Nat)(ev:Nat->EvM)(an:Nat):Prop extends Evs (Xl k) ev an where
 sm : ∀ i,i<an->oL (ev i)
 an:an<=1000
structure uU(k:Nat)(ev:Nat->EvM)(an:Nat)(L:fI):Prop where
 ex : ∃ m N,GJ m L N/\Sl m/\eO m=fP ev L.known (Xl k) an
 kc:Px ev an L.known
section
variable {ev ev':Nat->EvM} {an n k i j:Nat} {K:Nat->Int} {L L':fI} {v:EvM} {m:dU} {N S:Nat} {A:Ab}
theorem afj(h:bS v=true):MK v:=by
 have a:=oz h;refine⟨⟨a.1,a.2.1⟩,a.2.2,?_,fun d=>⟨(Bc h d).1,(Bc h d).2.1⟩⟩;by_cases g:v.kind=2\/v.kind=3\/v.kind=5
 ·have:=(lI h g).1; omega
 have c:om v=true:=by unfold bS at h; simp only[T_]at h; exact h.1.2
 have b:dz v=true:=by unfold bS at h; simp only[T_]at h; exact h.2
 by_cases f:v.kind=1
 ·unfold dz at b;rw[d_ f]at b;simp at b;omega
 have e:v.aU=(ku v).aU:=by unfold om at c; simp only[T_,decide_eq_true_eq]at c; exact c.1.1.2
 rw[e];unfold ku;rw[b_ f,b_ (by omega),b_ (by omega)];split
 ·exact N_ _
 rw[b_ (by omega)];split <;> exact N_ _
theorem afk(k:Nat):(Xl k).Ok:=⟨rfl,fun _ h=>(nomatch h),fun _ _=>rfl,fun _ _ h=>(nomatch h),fun _ _ _=>rfl⟩
theorem afl(k:Nat):(Xl k).Sm 0:=⟨fun _ _=>N_ _,fun _ _ h=>(nomatch h)⟩
theorem ow0(k:Nat):Sl (zi k 0 0 0 0 0 0):=⟨rfl,fun _ _=>by show(0:Int)<=5; decide⟩
theorem Ab.Sm.mono{S':Nat}(h:A.Sm S)(a:S<=S'):A.Sm S':=⟨fun y p=>by have:=h.r y p; omega,h.g⟩
theorem Evs.cz(h:Evs A ev an):Cz 6 an ev (fun _=>gV ev an) where
 rd:=h.rd
 reg:=fun k a=>(h.g k a).reg.2
 own:=fun _ _=>rfl
 kc:=fun _ _=>⟨fun _ _=>N_ _,fun k a _ i b=>S_ ((GU (h.rd k a)).2.2 i b) (cnt_mono (by omega))⟩
theorem Ws.fsm(W:Ws k ev an)(a:Px ev an K) : ∀ n,n<=an->(fP ev K (Xl k) n).Sm n
 | 0,_=>afl k
 | n+1,hn=>by
   have b:=W.fsm a n (by omega)
   cases c:wG K (ev n)with
   | true =>
     rw[mW c];exact b.qR ((vZ W.toEvs (n+1) hn K a).2 n (by omega) c).pre (GU (W.rd n (by omega))).1 (W.sm n (by omega))
   | false=>rw[ni c]; exact b.mono (by omega)
theorem uU.tw(h:uU k ev an L)(W:Ws k ev an) : ∃ m N,Tw m L N an/\eO m=fP ev L.known (Xl k) an:=by
 obtain⟨m,N,b,c,a⟩:=h.ex;exact⟨m,N,⟨b,c,by rw[a]; exact W.fsm h.kc an (A_ _),by have:=W.an; omega⟩,a⟩
theorem uU.ready(h:uU k ev an L)(W:Ws k ev an)(c:j<an)(hr:dI L.known (ev j)=true):bQ L (ev j)=0:=by
 obtain⟨m,N,a,d⟩:=h.tw W;have b:=IQ W.toEvs h.kc c hr (show j<=an by omega) (A_ _);rw[<- d]at b;rw[<- (a.t.s.apply a.t.t a.t.i (ev j)).1];exact(a.check (W.sm j c) (by rw[a.t.s.known]; exact hr)).2 b
theorem uU.apply(h:uU k ev an L)(W:Ws k ev an)(b:j<an):uU k ev an (dH L (ev j)):=by
 rcases rQ L (ev j)with ⟨c,e⟩|⟨c,e⟩
 ·have d:=jV c;obtain⟨m,N,a,f,g⟩:=h.ex;have l:=(a.s.apply a.t a.i (ev j)).1.trans c;refine⟨⟨iX m (ev j),N+1,a.apply (ev j),f.apply,?_⟩,by rw[e]; exact W.toEvs.cz.step h.kc b d⟩;rw[RX a.t a.s.ga l,g,e];exact(ZW W.toEvs h.kc b d).symm
 rw[e]; exact h
theorem uU.pass(W:Ws k ev an){a:Nat->Int}(h:uU k ev an L) : ∀ j,j<=an->uU k ev an (oQ ev a L j)
 | 0,_=>h
 | j+1,hj=>by
   unfold oQ;split
   ·exact(h.pass W j (by omega)).apply W (by omega)
   ·exact h.pass W j (by omega)
theorem uU.iV(W:Ws k ev an){a:Nat->Int} : ∀ f L,uU k ev an L->uU k ev an (iV ev an a f L)
 | 0,L,hL=>by unfold Rt.iV; exact hL
 | f+1,L,hL=>by
   unfold Rt.iV;split
   ·exact hL.pass W an (A_ _)
   ·exact uU.iV W f _ (hL.pass W an (A_ _))
theorem uU.new(k:Nat)(ev:Nat->EvM)(an:Nat)(a : ∀ i,i<an->1<=(ev i).seq)(f:Nat):uU k ev an (qK k f).core:=by
 have d : ∀ n,n<=an->fP ev (fun _=>0) (Xl k) n=Xl k:=fun n=>by
  induction n with
  | zero=>intro _; rfl
  | succ n ih =>
    intro h;have c:wG (fun _=>0) (ev n)=false:=g_ (show ¬ (ev n).seq<=0 by have:=a n (by omega); omega);rw[ni c]; exact ih (by omega)
 exact⟨⟨zi k 0 0 0 0 0 0,0,GJ.new k,ow0 k,(d an (A_ _)).symm⟩,fun i b=>A9 an i,fun i b e j g=>M_ (show(ev i).seq<=0 from e) (by have:=a i b; omega)⟩
theorem Dq(h : ∀ i,i<n->ev' i=ev i):fP ev' K A n=fP ev K A n:=by
 induction n with
 | zero=>rfl
 | succ n ih =>
   show(if wG K (ev' n)=true then(fP ev' K A n).qR (ev' n)else fP ev' K A n)=_;rw[ih fun i a=>h i (by omega),h n (by omega)]; rfl
theorem xL{v:EvM} : ∀ i,i<an->aH ev an v i=ev i:=fun i a=>b_ (by omega)
theorem xM{v:EvM}:aH ev an v an=v:=d_ rfl
theorem Px.more(h:Px ev an K)(g:bS v=true)(l:v.seq=gV ev an (aO v)+1):Px (aH ev an v) (an+1) K/\wG K v=false:=by
 have c : ¬ v.seq<=K (aO v):=by have:=h.le _ (mY g); omega
 refine⟨⟨fun i b => ?_,fun i b a j f => ?_⟩,g_ c⟩
 ·have:=h.le i b;have d:=cnt_mono (ev:=aH ev an v) (j:=an) (k:=an+1) (i:=i) (by omega);rw[BN an (A_ _)]at d;omega
 by_cases e:i=an
 ·rw[e,xM]at a; exact M_ a c
 rw[xL i (by omega)]at a ⊢;exact h.cl i (by omega) a j f
theorem uU.more(h:uU k ev an L)(g:bS v=true)(f:v.seq=gV ev an (aO v)+1):uU k (aH ev an v) (an+1) L:=by
 obtain⟨m,N,c,d,e⟩:=h.ex;obtain⟨a,b⟩:=h.kc.more g f;refine⟨⟨m,N,c,d,?_⟩,a⟩;rw[ni (by rw[xM]; exact b),Dq xL];exact e
theorem Ws.more(W:Ws k ev an)(h:uU k ev an L)(u:an<1000)(p:oL v)(n:bQ L v=0)(d:v.deps=L.known)(f:v.seq=gV ev an (aO v)+1):Ws k (aH ev an v) (an+1):=by
 have o:=jV n;have c:=(GU o).1;have q : ∀ j,j<=an -> ∀ i,gV (aH ev an v) j i=gV ev j i:=fun j a i=>BN j a i;have l : ∀ j,j<=an->gV (aH ev an v) j=gV ev j:=fun j a=>funext (q j a);refine { ok0:=W.ok0,rd:=fun j a => ?_,g:=fun j a => ?_,dc:=fun j a => ?_,tk:=fun j a => ?_,sm:=fun j a => ?_,an:=by omega }
 ·by_cases e:j=an
  ·rw[e,xM,l an (A_ _)];exact F5 c f (by rw[d]; exact h.kc.le)
  rw[xL j (by omega),l j (by omega)]; exact W.rd j (by omega)
 ·by_cases e:j=an
  ·rw[e,xM]; exact afj c
  rw[xL j (by omega)]; exact W.g j (by omega)
 ·by_cases e:j=an
  ·rw[e,xM,d]; exact(h.kc.more c f).1
  rw[xL j (by omega)]; exact((W.dc j (by omega)).more c f).1
 ·by_cases e:j=an
  ·rw[e,xM,d,Dq xL];obtain⟨m,N,b,r⟩:=h.tw W;rw[<- r];exact(b.check p (by rw[b.t.s.known]; exact o)).1 ((b.t.s.apply b.t.t b.t.i v).1.trans n)
  rw[xL j (by omega),Dq fun i w=>xL i (by omega)]; exact W.tk j (by omega)
 by_cases e:j=an
 ·rw[e,xM]; exact p
 rw[xL j (by omega)]; exact W.sm j (by omega)
theorem Ws.zero(k:Nat)(ev:Nat->EvM):Ws k ev 0 where
 ok0:=afk k
 rd:=fun _ h=>M_ h (z_ _)
 g:=fun _ h=>M_ h (z_ _)
 dc:=fun _ h=>M_ h (z_ _)
 tk:=fun _ h=>M_ h (z_ _)
 sm:=fun _ h=>M_ h (z_ _)
 an:=by decide
end
structure WC(M:WM):Prop where
 w:Ws M.n M.ev M.an
 f : ∀ o,o<M.n->uU M.n M.ev M.an (M.ml o).core
theorem WC.new{M:WM}(a:M.an=0)(h : ∀ i,(M.ml i).core=(qK M.n 0).core):WC M:=by
 refine⟨by rw[a]; exact .zero _ _,fun o c=>by rw[h,a]; exact .new _ _ _ (fun i b=>M_ b (z_ _)) 0⟩
theorem WC.do{w':World}{M k:WM}{B p T o:Nat}{x:GY}{v:EvM}(h:WC M)(y:oM w' B p k T)(j:o<M.n)(a:DoR o x M k v)(z:M.an<1000)(A:(M.ml o).s.known o=gV M.ev M.an o):WC k:=by
 rcases a.c with ⟨u,g,d,b⟩|⟨u,g,d,b,h5,h6,h7,h8⟩
 ·refine⟨by rw[a.n,g,d]; exact h.w,fun q i => ?_⟩;rw[a.n]at i;rw[a.n,g,d];by_cases e:q=o
  ·rw[e]
   rcases b with b|⟨_,b⟩
   ·rw[b]; exact h.f o j
   rw[b]; exact uU.iV h.w _ _ (h.f o j)
  rw[a.oth q e]; exact h.f q i
 have C:=jV b;have r:=(GU C).1;have t:aO v=o:=by unfold aO; omega
 have l:v.seq=gV M.ev M.an (aO v)+1:=by rw[t,<- A]; exact h7
 have D:oL v:=by
  have:=y.sm M.an (by omega);rw[d,xM]at this; exact this
 have m:=h.w.more (h.f o j) z D b h8 l;refine⟨by rw[a.n,g,d]; exact m,fun q i => ?_⟩;rw[a.n]at i;rw[a.n,g,d];by_cases e:q=o
 ·rw[e,h5];have:=((h.f o j).more r l).apply m (show M.an<M.an+1 by omega);rw[xM]at this;exact this
 rw[a.oth q e]; exact(h.f q i).more r l
end Rt
end
section
namespace Rt
structure Mq(L L':fI):Prop where
 inn:L'.inn=L.inn
 left:L'.left=L.left
 kn : ∀ i,i<6->L'.known i=L.known i
 nn:L'.nn=L.nn
 gn:L'.gn=L.gn
 n : ∀ k,k<L.nn->L'.id k=L.id k/\L'.par k=L.par k/\L'.R k=L.R k
 g : ∀ k,k<L.gn -> ∀ p,p<5->L'.g k p=L.g k p
section
variable {ev:Nat->EvM} {an k:Nat} {L L':fI} {m m':dU} {N N':Nat}
theorem gF.Z4(h:gF m L){q:Nat}(i:q<L.gn):iH m (L.g q 0) (L.g q 1)=true /\ ∀ p,2<=p->p<=4->(eO m).g (L.g q 0) (L.g q 1) p=L.g q p:=by
 obtain⟨j,d,e⟩:=h.g1 q i;have c:iH m (L.g q 0) (L.g q 1)=true:=tJ d (by rw[<- e]) (by rw[<- e]);have f:fA m (L.g q 0) (L.g q 1)=j:=zO h.gi d (by rw[<- e]) (by rw[<- e]);refine⟨c,fun p a b => ?_⟩;rw[show(eO m).g (L.g q 0) (L.g q 1) p=m.g (fA m (L.g q 0) (L.g q 1)) p from d_ ⟨c,a,b⟩,f,e]
theorem IX{f:Nat->Int}{n i:Nat}(hi:i<n):((List.range n).map f).getD i 0=f i:=by
 rw[r_,o_ (by rw[List.length_map,List.length_range]; exact hi)]; simp
theorem IY{f g:Nat->Int}{n n':Nat}(m : ∀ i j,i<j->j<n->f i<f j)(o : ∀ i j,i<j->j<n'->g i<g j)(h1 : ∀ i,i<n -> ∃ j,j<n'/\g j=f i)(l : ∀ j,j<n' -> ∃ i,i<n/\f i=g j):n'=n /\ ∀ i,i<n->g i=f i:=by
 have e:=vJ (by
  rw[List.pairwise_map];exact(List.pairwise_lt_range (n:=n)).imp_of_mem fun {a b} _ hb hab=>m a b hab (O_.1 hb)) (by
  rw[List.pairwise_map];exact(List.pairwise_lt_range (n:=n')).imp_of_mem fun {a b} _ hb hab=>o a b hab (O_.1 hb)) fun x=>by
  rw[List.mem_map,List.mem_map];constructor
  ·rintro ⟨i,c,rfl⟩;obtain⟨j,d,k⟩:=h1 i (O_.1 c);exact⟨j,O_.2 d,k⟩
  ·rintro ⟨j,d,rfl⟩;obtain⟨i,c,h⟩:=l j (O_.1 d);exact⟨i,O_.2 c,h⟩
 have p:n'=n:=by have:=L_ List.length e; rw[List.length_map,List.length_map,List.length_range,List.length_range]at this; exact this.symm
 refine⟨p,fun i c => ?_⟩;have:=L_ (fun z:List Int=>z.getD i 0) e;have:((List.range n).map f).getD i 0=((List.range n').map g).getD i 0:=this;rw[IX c,IX (by omega)]at this;exact this.symm
theorem GJ.same(h:GJ m L N)(d:GJ m' L' N')(C:Ad L)(D:Ad L')(e:eO m'=eO m)(I : ∀ i,i<6->L'.known i=L.known i):Mq L L':=by
 have B : ∀ y,m'.T.has y=m.T.has y:=fun y=>congrFun (L_ Ab.has e) y;have J : ∀ y,m'.T.par y=m.T.par y:=fun y=>congrFun (L_ Ab.par e) y;have H : ∀ y,bA m' y=bA m y:=fun y=>congrFun (L_ Ab.R e) y;have u : ∀ o r,iH m' o r=iH m o r:=fun o r=>congrFun (congrFun (L_ Ab.gh e) o) r;have w : ∀ {m:dU} {L:fI} {N:Nat},GJ m L N -> ∀ i,i<L.nn->m.T.has (L.id i)=true/\bA m (L.id i)=L.R i:=fun {m L N} h i k=>by
  have a:=(h.s.T.has _).2 ⟨i,k,rfl⟩;refine⟨a,?_⟩;unfold bA;rw[d_ a,h.s.row i k]
 obtain⟨Q,z⟩:=IY (f:=L.id) (g:=L'.id) (n:=L.nn) (n':=L'.nn) h.i.rise d.i.rise (fun i k=>(d.s.T.has _).1 (by rw[B]; exact(w h i k).1)) (fun i k=>(h.s.T.has _).1 (by rw[<- B]; exact(w d i k).1));have F : ∀ {m m':dU} {L L':fI} {N N':Nat},GJ m L N->GJ m' L' N'->(∀ o r,iH m' o r=iH m o r) -> ∀ q,q<L.gn -> ∃ j,j<L'.gn/\oD (L'.g j)=oD (L.g q):=fun {m m' L L' N N'} h d u q t=>by
  have a:=(h.s.Z4 t).1;rw[<- u]at a;obtain⟨j,O,l,x⟩:=lM.1 a;obtain⟨S,v,G⟩:=d.s.g2 j O;have l:=l;have x:=x;exact⟨S,v,by unfold oD; rw[G,l,x]⟩
 obtain⟨K,M⟩:=IY (f:=fun q=>oD (L.g q)) (g:=fun q=>oD (L'.g q)) (n:=L.gn) (n':=L'.gn) C.up D.up (F h d u) (F d h fun o r=>(u o r).symm);refine⟨by rw[<- h.s.inn,<- d.s.inn]; exact L_ Ab.inn e,by rw[<- h.s.left,<- d.s.left]; exact L_ Ab.left e,I,Q,K,fun i k => ?_,fun q t p W => ?_⟩
 ·have E:i<L'.nn:=by omega
  refine⟨z i k,?_,?_⟩
  ·rw[<- h.s.T.par i k,<- d.s.T.par i E,J,z i k]
  rw[<- (w h i k).2,<- (w d i E).2,H,z i k]
 have v:q<L'.gn:=by omega
 have P:=M q t;have U:=(C.wf q t).1;have V:=(D.wf q v).1;unfold oD at P;unfold jO at U V;have A:L'.g q 0=L.g q 0:=by omega
 have l:L'.g q 1=L.g q 1:=by omega
 by_cases c:2<=p
 ·have a:=(h.s.Z4 t).2 p c (by omega);have b:=(d.s.Z4 v).2 p c (by omega);rw[<- a,<- b,A,l,L_ Ab.g e]
 rcases(show p=0\/p=1 by omega)with rfl|rfl
 ·exact A
 exact l
theorem Qf{K K':Nat->Int}{A:Ab}(h : ∀ i,i<6->K' i=K i)(a : ∀ i,i<an->aO (ev i)<6) : ∀ n,n<=an->fP ev K' A n=fP ev K A n
 | 0,_=>rfl
 | n+1,hn=>by
   have c:wG K' (ev n)=wG K (ev n):=(by unfold wG; rw[h _ (a n (by omega))]);show(if wG K' (ev n)=true then(fP ev K' A n).qR (ev n)else fP ev K' A n)=_;rw[Qf h a n (by omega),c]; rfl
theorem uU.same(h:uU k ev an L)(f:uU k ev an L')(W:Ws k ev an)(j:Ad L)(l:Ad L')(a : ∀ i,i<6->L'.known i=L.known i):Mq L L':=by
 obtain⟨m,N,b,o,c⟩:=h.ex;obtain⟨m',N',d,p,e⟩:=f.ex;refine b.same d j l ?_ a;rw[c,e];exact Qf a (fun i n=>(W.g i n).reg.2) an (A_ _)
theorem uU.next(h:uU k ev an L)(W:Ws k ev an){i:Nat}(hi:i<an)(b:L.known=gV ev i):bQ L (ev i)=0/\(dH L (ev i)).known=gV ev (i+1):=by
 have a:=h.ready W hi (by rw[b]; exact W.rd i hi);refine⟨a,?_⟩;rw[Dk a,b]
 funext q
 unfold aH;show _=gV ev i q+if aO (ev i)=q then 1 else 0;by_cases e:q=aO (ev i)
 ·rw[d_ e,d_ e.symm,e]
 rw[b_ e,b_ (fun q=>e q.symm),D_]
theorem Z5(W:Ws k ev an) : ∀ i,i<an->1<=(ev i).seq:=fun i a=>(W.g i a).seq.1
theorem uU.some(h:uU k ev an L)(W:Ws k ev an){i:Nat}(hi:i<an):bQ L (ev i)=0\/bQ L (ev i)=14\/bQ L (ev i)=13:=by
 by_cases c:dI L.known (ev i)=true
 ·exact .inl (h.ready W hi c)
 right;have b:=(GU (W.rd i hi)).1;unfold bQ;rw[b_ (by rw[b]; decide)];by_cases a:mR L.known (ev i)=true
 ·rw[d_ a]; exact .inl rfl
 rw[b_ a,d_ (by simpa using c)]; exact .inr rfl
end
end Rt
end
section
namespace Rt
section
variable {ev:Nat->EvM} {an k i r:Nat} {K K':Nat->Int} {L:fI} {v:EvM}
theorem Xm(ev:Nat->EvM)(i q:Nat):gV ev (i+1) q=gV ev i q+if aO (ev i)=q then 1 else 0:=rfl
where afW {a b:Int} (h:b<=a):(if a<=b then a else b)=b:=by split <;> omega
theorem Xn(L:fI)(v:EvM)(q:Nat):L.known q<=(dH L v).known q:=by
 rcases rQ L v with ⟨_,e⟩|⟨_,e⟩
 ·rw[e]; unfold aH; split
  ·subst_vars; omega
  exact N_ _
 rw[e]; exact N_ _
theorem uU.reach(h:uU k ev an L)(W:Ws k ev an)(hr:r<an)(d : ∀ q,q<6->gV ev r q<=L.known q) : ∀ q,q<6->gV ev (r+1) q<=(dH L (ev r)).known q:=fun q l=>by
 obtain⟨a,b,c⟩:=GU (W.rd r hr);have i:=mY a;have o:=d q l;have s:=Xn L (ev r) q;rw[Xm];by_cases e:aO (ev r)=q
 ·rw[d_ e];by_cases n:(ev r).seq<=L.known q
  ·rw[e]at b; omega
  ·have j:=d _ i;have m:(ev r).seq=L.known (aO (ev r))+1:=(by rw[e]at b j ⊢; omega);have g:=h.ready W hr (F5 a m fun p f=>S_ (c p f) (d p f));rw[Dk g,e];unfold aH; rw[d_ rfl,e]at *; omega
 ·rw[b_ e]; omega
theorem uU.full(h:uU k ev an L)(b : ∀ q,q<6->gV ev an q<=L.known q) : ∀ q,q<6->L.known q=gV ev an q:=fun q a=>by
 have:=h.kc.le q a; have:=b q a; omega
end
end Rt
end
section
namespace Rt
section
variable {x:EvM} {k an i:Nat} {ev:Nat->EvM} {L:fI} {s:Int} {d:Nat->Int}
theorem Qg(ev:Nat->EvM) : ∀(i j:Nat),gV ev i j<=i
 | 0,_=>N_ _
 | i+1,j=>by have:=Qg ev i j; show gV ev i j+(if aO (ev i)=j then 1 else 0)<=_; split <;> omega
end
end Rt
end
theorem Mr(n:Nat)(m:Int)(w:World)(h:m=(n:Int))(j:1<=n)(k:n<=6) :
 Calls Tryz.prog 12 #[au m] w fun e w' => ∃ p M,e = .returned (pt p)/\M.n=n/\M.an=0/\WC M/\oM w' w.heap.size p M 0/\Below w.heap.size w w':=by
 subst h; exact(Ol n w j k).mono fun _ _ ⟨p,M,c,a,b,g,d,f⟩=>⟨p,M,c,a,b,.new b fun i=>by rw[g i,a],d,f⟩
namespace Rt
theorem Mq.st{L L':fI}(h:Mq L L')(na:Option Addr)(nc:Nat)(ga:Option Addr)(gc:Nat) : ∀ p,p<20->kK (kL L' na nc ga gc) p=kK (kL L na nc ga gc) p:=fun p a=>by
 unfold kK kL;simp only[h.inn,h.left,h.nn,h.gn];by_cases c:12<=p/\p<18
 ·rw[h.kn (p-12) (by omega)]
 ·repeat' split
  all_goals first|rfl|omega
end Rt
theorem Qa.same{w:World}{s:vk}{L L':fI}(h:Qa w s L')(d:Mq L L'):Qa w (kL L s.na s.nc s.ga s.gc) L:=by
 refine⟨rfl,?_,?_⟩
 ·have e:=h.n;rw[d.nn]at e;exact e.congr fun j k=>by
   unfold flat Sk;obtain⟨a,b,c⟩:=d.n (j / 56) (by omega);rw[a,b,c]
 have e:=h.g;rw[d.gn]at e;exact e.congr fun j k=>by
  unfold flat grL jw;have g:=d.g (j / 5) (by omega) (j % 5) (J_ _ (by decide));have f:=d.g (j / 5) (by omega) 0 (by decide);have i:=d.g (j / 5) (by omega) 3 (by decide);rw[g,f,i]
namespace Rt
structure oN where
 kind:Int
 node:Int
 dst:Int
 aU:Int
 req:Int
 of:Int
def yj(x:oN):Nat->Value:=fun p=>if p=0 then .int .u8 x.kind else if p=1 then aC x.node else if p=2 then au x.dst else if p=3 then au x.aU else if p=4 then aC x.req else aC x.of
theorem Xo(x:oN)(j:Nat):(yj x j).oneCell'=true:=by unfold yj; repeat (first|rfl|split)
def dB:oN:=⟨0,0,0,0,0,0⟩
def Ov(l:List oN):Nat->Value:=flat 6 fun k=>yj (l.getD k dB)
theorem Xp{l:List oN}{n:Nat}{y z:Nat->Value}{x:oN}(b:n=l.length)(hy : ∀ j,j<6->y j=yj x j) : ∀ j,j<(n+1)*6->gY (Ov l) (n*6) (aZ z (0*6) 6 y) j=Ov (l ++ [x]) j:=fun j a =>
 (Fx.vE j a).trans (bM (fun i d q c=>by
  subst b;unfold Fx.qG;by_cases h:i=l.length
  ·subst h; rw[d_ rfl,hy q c,r_,List.getElem?_append_right (by omega),Nat.sub_self]; rfl
  ·rw[b_ h]; show yj (l.getD i dB) q=_; rw[r_,r_,List.getElem?_append_left (by omega)]) j a)
structure Ea(x:oN):Prop where
 kind:0<=x.kind/\x.kind<=255
 node:jO x.node
 dst:qJ x.dst
 aU:qJ x.aU
 req:jO x.req
 of:jO x.of
theorem Xq{x:oN}(h:Ea x):Fx.Kd [(some .u8),(some .u64),(some .i64),(some .i64),(some .u64),(some .u64)] (yj x):=by
 have a : ∀(k:IntKind) (n:Int),(Lit.int k n).wf=true -> ∃ l,sw (some k) (.int k n)=some l:=fun k n d=>by
  obtain⟨l,c⟩:=Fx.OG (k:=k) (n:=1) (x:=fun _=>n) (fun _ _=>d) 0 (by simp);exact⟨l,c⟩
 intro i b;have e:i<6:=b
 rcases i with _|_|_|_|_|_|i
 ·exact a .u8 x.kind (Fx.agd h.kind)
 ·exact a .u64 x.node (Fx.qQ h.node)
 ·exact a .i64 x.dst (Fx.Qk h.dst)
 ·exact a .i64 x.aU (Fx.Qk h.aU)
 ·exact a .u64 x.req (Fx.qQ h.req)
 ·exact a .u64 x.of (Fx.qQ h.of)
 omega
end Rt
namespace Rt
def afm(K:Nat->Int)(i:Int)(x:oN):EvM:=⟨i,K (i-1).toNat+1,K,x.kind,x.node,x.dst,x.aU,x.req,x.of⟩
end Rt
namespace Rt
theorem afn{K:Nat->Int}{i:Int}{x:oN}(b:El K)(hx:Ea x)(hi:mD i=true):gU (afm K i x):=by
 obtain⟨a,c,f⟩:=fu hi;have g:=b a c;have e:(i-1).toNat=a:=by omega
 refine⟨⟨?_,?_⟩,⟨?_,?_⟩,fun j d => ?_,hx.kind,hx.node,hx.dst,hx.aU,hx.req,hx.of⟩
 ·show -9223372036854775808<=i; omega
 ·show i<=9223372036854775807; omega
 ·show 0<=K (i-1).toNat+1; rw[e]; omega
 ·show K (i-1).toNat+1<=18446744073709551615; rw[e]; omega
 have:=b j d; exact⟨by show 0<=K j; omega,by show K j<=_; omega⟩
end Rt
section
namespace Rt
def Ab.gs(A:Ab)(y:Int):Int:=A.R y 0+A.R y 1+A.R y 2+A.R y 3+A.R y 4+A.R y 5
def G5(v:EvM)(y:Int):Int:=if v.kind=1/\rz v=y\/v.kind=2/\v.node=y then v.aU else 0
def Z6(ev:Nat->EvM)(K:Nat->Int)(y:Int):Nat->Int
 | 0=>0
 | j+1=>Z6 ev K y j+if wG K (ev j)=true then G5 (ev j) y else 0
section
variable {A:Ab} {ev gv:Nat->EvM} {an n k i j:Nat} {K:Nat->Int} {L:fI} {v:EvM} {y x:Int} {m:dU} {N:Nat}
theorem Ab.afo(l:MK v):(A.qR v).gs y=A.gs y+G5 v y:=by
 have o:=l.reg.2;have e : ∀ p,(A.qR v).R y p=A.R y p+A.dl v y p:=fun _=>rfl;unfold Ab.gs;rw[e,e,e,e,e,e];have s:A.dl v y 0+A.dl v y 1+A.dl v y 2+A.dl v y 3+A.dl v y 4+A.dl v y 5=G5 v y:=by
  have n:(∀ p,p<6->A.dl v y p=0)->G5 v y=0->A.dl v y 0+A.dl v y 1+A.dl v y 2+A.dl v y 3+A.dl v y 4+A.dl v y 5=G5 v y:=fun h d=>by
   rw[d,h 0 (by decide),h 1 (by decide),h 2 (by decide),h 3 (by decide),h 4 (by decide),h 5 (by decide)]; rfl
  have k : ∀ {z:Int},(∀ p,A.dl v y p=if y=z/\p=aV v then v.aU else 0)->G5 v y=(if z=y then v.aU else 0)->A.dl v y 0+A.dl v y 1+A.dl v y 2+A.dl v y 3+A.dl v y 4+A.dl v y 5=G5 v y:=fun {z} h d=>by
   by_cases c:y=z
   ·rw[d,h,h,h,h,h,h,d_ c.symm]
    rcases(show aV v=0\/aV v=1\/aV v=2\/aV v=3\/aV v=4\/aV v=5 by omega)with q|q|q|q|q|q <;> rw[q] <;> simp[c]
   ·have a : ∀ p,A.dl v y p=0:=fun p=>by rw[h,b_ fun q=>c q.1]
    rw[d,a,a,a,a,a,a,b_ (show ¬ z=y from fun q=>c q.symm)]; rfl
  unfold Ab.dl at *;by_cases b:v.kind=1
  ·refine k (z:=rz v) (fun p=>by rw[d_ b]) ?_;unfold G5;by_cases c:rz v=y
   ·rw[d_ (.inl ⟨b,c⟩),d_ c]
   ·rw[b_ (fun q=>q.elim (fun q=>c q.2) (fun q=>by omega)),b_ c]
  by_cases f:v.kind=2
  ·refine k (z:=v.node) (fun p=>by rw[b_ b,d_ f]) ?_;unfold G5;by_cases c:v.node=y
   ·rw[d_ (.inr ⟨f,c⟩),d_ c]
   ·rw[b_ (fun q=>q.elim (fun q=>b q.1) (fun q=>c q.2)),b_ c]
  have m:G5 v y=0:=b_ (fun q=>q.elim (fun q=>b q.1) (fun q=>f q.1));refine n (fun p r => ?_) m;rw[b_ b,b_ f];by_cases g:v.kind=3
  ·rw[d_ g,b_ (fun q=>by omega)]
  rw[b_ g];by_cases i:v.kind=4
  ·rw[d_ i,b_ (fun q=>by omega)]
  rw[b_ i];by_cases j:v.kind=5
  ·rw[d_ j,b_ (fun q=>by omega)]
  rw[b_ j]
 omega
theorem Z7(b : ∀ i,i<n->MK (ev i)):(fP ev K (Xl k) n).gs y=Z6 ev K y n:=by
 induction n with
 | zero=>rfl
 | succ n a =>
   have a:=a fun i c=>b i (by omega);show(if wG K (ev n)=true then(fP ev K (Xl k) n).qR (ev n)else fP ev K (Xl k) n).gs y=Z6 ev K y n+_;split
   ·rw[Ab.afo (b n (by omega)),a]
   ·rw[a,D_]
theorem GJ.row(h:GJ m L N)(hi:i<L.nn):bA m (L.id i)=L.R i:=by
 unfold bA;rw[d_ ((h.s.T.has _).2 ⟨i,hi,rfl⟩),h.s.row i hi]
theorem uU.gs(h:uU k ev an L)(W:Ws k ev an)(hi:i<L.nn):nE (L.R i)=Z6 ev L.known (L.id i) an:=by
 obtain⟨m,N,a,c,b⟩:=h.ex;rw[<- Z7 (k:=k) (K:=L.known) (y:=L.id i) W.g,<- b,<- a.row hi];rfl
theorem uU.small(h:uU k ev an L)(W:Ws k ev an){q:Nat}(d:q<L.gn):1<=L.g q 3/\L.g q 3<=65536:=by
 obtain⟨m,N,c,e⟩:=h.tw W;obtain⟨a,b⟩:=c.t.s.Z4 d;have:=c.s.g _ _ a;rw[b 3 (by decide) (by decide)]at this;exact this
end
end Rt
end
namespace Rt
def XY(a b:Int):Int:=if b<a then b else a
end Rt
namespace Rt
def isLive(s:vk)(k:Nat):Bool:=s.inn k && !s.left k
def gW(s:vk):Nat->List Int
 | 0 => []
 | k+1=>if isLive s k then gW s k ++ [(k:Int)+1]else gW s k
def Ow(l:List Int):Nat->Value:=fun p=>au (l.getD p 0)
theorem wh{s:vk}{k:Nat}(h:isLive s k=true):gW s (k+1)=gW s k ++ [(k:Int)+1]:=by
 show(if isLive s k then _ else _)=_; rw[d_ h]
theorem uJ{s:vk}{k:Nat}(h:isLive s k=false):gW s (k+1)=gW s k:=by
 show(if isLive s k then _ else _)=_; rw[b_ (by rw[h]; decide)]
theorem zn(s:vk) : ∀ k,(gW s k).length<=k
 | 0=>A_ _
 | k+1=>by
   have:=zn s k;show(if isLive s k then _ else _:List Int).length<=k+1;split
   ·simp; omega
   ·omega
theorem afp{l:List Int}{n:Nat}{z:Nat->Value}{v:Int}(a:n=l.length) : ∀ j,j<(n+1)*1->gY (Ow l) (n*1) (aZ z (0*1) 1 (fun _=>au v)) j=Ow (l ++ [v]) j:=fun j b=>by
 subst a;unfold gY Ow;by_cases h:j<l.length*1
 ·rw[d_ h]; congr 1;rw[r_,r_,List.getElem?_append_left (by omega)]
 ·rw[b_ h];unfold aZ;rw[d_ (by omega),r_,List.getElem?_append_right (by omega),show j-l.length=0 by omega]; rfl
def jD(s:vk)(i:Int):Bool:=decide (1<=i)&&decide (i<=6)&&isLive s (i-1).toNat
theorem Gw{s:vk}{i:Int} : ∀ n,i∈gW s n<->(1<=i/\i<=(n:Int)/\isLive s (i-1).toNat=true)
 | 0=>by
   constructor
   ·intro h; cases h
   ·rintro ⟨b,c,_⟩; omega
 | n+1=>by
   have d:=Gw (s:=s) (i:=i) n
   cases hl:isLive s n with
   | true =>
     rw[wh hl,List.mem_append,d];constructor
     ·rintro (⟨b,c,a⟩|h)
      ·exact⟨b,by omega,a⟩
      ·have f:i=(n:Int)+1:=(by simpa using h);subst f;exact⟨by omega,by omega,by rw[show((n:Int)+1-1).toNat=n by omega]; exact hl⟩
     ·rintro ⟨b,c,a⟩;by_cases e:i=(n:Int)+1
      ·right; rw[e]; exact List.mem_singleton.2 rfl
      ·left; exact⟨b,by omega,a⟩
   | false =>
     rw[uJ hl,d];constructor
     ·rintro ⟨b,c,a⟩; exact⟨b,by omega,a⟩
     ·rintro ⟨b,c,a⟩;by_cases e:i=(n:Int)+1
      ·subst e; rw[show((n:Int)+1-1).toNat=n by omega,hl]at a; cases a
      ·exact⟨b,by omega,a⟩
theorem abq{l:List Int}{k:Nat}(h:k<l.length):l.getD k 0∈l:=by
 rw[r_,o_ h]; exact R_ h
theorem afq{l:List Int}{i:Int}:0<=fU (fun k=>decide (i=l.getD k 0)) l.length<->i∈l:=by
 rcases je (fun k=>decide (i=l.getD k 0)) l.length with ⟨k,a,e,d⟩|⟨e,h⟩
 ·rw[e];have:=h_ d;exact⟨fun _=>by rw[this]; exact abq a,fun _=>by omega⟩
 rw[e];refine⟨fun h=>M_ h (by decide),fun c => ?_⟩;obtain⟨k,a,b⟩:=List.getElem_of_mem c;have:=h k a;rw[r_,o_ a,b]at this;exact M_ rfl (j_ this)
theorem BZ(s:vk)(i:Int):decide (0<=fU (fun k=>decide (i=(gW s 6).getD k 0)) (gW s 6).length)=jD s i:=by
 rw[P_,Q_,afq,Gw];unfold jD;simp only[T_,decide_eq_true_eq];exact⟨fun⟨a,b,c⟩=>⟨⟨a,by omega⟩,c⟩,fun⟨⟨a,b⟩,c⟩=>⟨a,by omega,c⟩⟩
end Rt
set_option maxRecDepth 10000 in
theorem JY(s:vk)(w:World) :
 Calls Tryz.prog 32 #[.agg (aA 20 (kK s))] w fun e w' => ∃ v n,e = .returned v/\n=(gW s 6).length/\Fx.Own w' w.heap.size 3 1 v n (Ow (gW s 6))/\Below w.heap.size w w':=by
 refine Kent Tryz.func32 26 ?_;refine ay<|rE fun o w1 O F s1 z1 => ?_;have M:=bF s1.old (Below.refl w.heap.size w);refine av (.slice none 0 0)<|aD<|Ws<|ay<|av (pt o)<|Lv (.agg (aA 6 (fun q => .bool (s.inn q)))) (fJ F.aI 0 (fun jq S=>by rw[G_]; exact Cu _ S))<|av (au 0)<|aD<|Wb ?_;have X:Fx.Own w1 w.heap.size 3 1 (.slice none 0 0) 0 (Ow (gW s 0)):=tO _ _ _ _ _;refine Wo (fun f H => ∃ k:Nat,∃ n:Nat,∃ a:Option Addr,∃ c:Nat,k<=6/\n=(gW s k).length/\f 1=(pt o)/\f 6 = .agg (aA 6 (fun q => .bool (s.inn q)))/\f 2 = .slice a (n) (c)/\f 7=au (k:Int)/\aP H o 20 (kK s) 53/\Fx.Own H w.heap.size 3 1 (.slice a (n) (c)) n (Ow (gW s k))/\Below w.heap.size w H) (fun f _=>(6-(intOf (f 7)).toNat)) ⟨0,0,none,0,by omega,rfl,(by rfl),(by rfl),(by rfl),Fx.ic,F,X,M⟩ ?_;rintro f1 w2 ⟨k,n,a,c,hk,r,u,p,z,b,g,t,h⟩;have hnl:=zn s k;refine ay ?_;by_cases I:(k:Int)<6
 ·refine Lv aG (gN I (hx:=b))<|aD<|Ws<|aL<|Wk<|sN<|Ws<|Wb<|ay<|aT b ?_;by_cases i:(s.inn k)=true
  ·refine Lv aG (Fx.Bq (j:=k) (y:=fun q => .bool (s.inn q)) rfl p b Tryz.underlying49 (by kernel_rfl) (by kernel_rfl) (by omega) ((show _=Value.bool (s.inn k)from rfl).trans (L_ Value.bool i)))<|av (au k)<|av aG<|aD<|ay<|av aG<|av aG<|av (au k)<|Lv (pf o 6) (iZ u 6)<|Lv (pf o (k+6)) (iY 6 1) ?_;by_cases l:(s.left k)=true
   ·refine Lv aG (aM g.aI (k+6) ((yU _ (by omega) (by omega)).trans (L_ Value.bool l)))<|av aF<|av aF<|aD<|aK<|Wk<|bR<|sN ?_;have d:isLive s k=false:=(by unfold isLive; rw[l,Bool.not_true,I_]);refine Wl<|Lv (au ((k:Int)+1)) (eU (hx:=b))<|av (au ((k:Int)+1))<|Ln ?_;have Y:=t.congr (y:=Ow (gW s (k+1))) (fun j _=>by rw[uJ d])
    skip
    refine gL ⟨k+1,n,a,c,by omega,(by rw[uJ d]; exact r),u,p,z,Fx.ic,g,Y,h⟩ ?_;show(6-(intOf (au ((k:Int)+1))).toNat)<_;simp only[b,intOf]; omega
   rw[U_]at l;refine Lv aF (aM g.aI (k+6) ((yU _ (by omega) (by omega)).trans (L_ Value.bool l)))<|av aG<|av aG<|aD<|aL ?_;have d:isLive s k=true:=(by unfold isLive; rw[i,l]; rfl);refine Wl<|aT z<|av (au k)<|Lv (au ((k:Int)+1)) eU<|xY (vs := [(0,au ((k:Int)+1))]) (s:=1) (zc:=rv .i64 (fun _=>0)) (y:=aZ (fun j=>(rv .i64 (fun _=>0)) (j % 1)) (0*1) 1 (fun _=>au ((k:Int)+1))) (by rfl) rfl rfl Tryz.underlying88 (by kernel_rfl) (by rfl) (by rfl) (by kernel_rfl) (by rw[aR (off:=0*1) (s:=1) (y:=fun _=>au ((k:Int)+1)) rfl (cells_one (by rfl)) (by rfl)]; rfl) rfl fun P w3 D K s2 z2 => ?_;have⟨Z,G,A⟩:=jr s2.old g t h;have qW:=iT D h.size;have Pf:=cu D g.lt;have abb:(.slice a (n) (c):Value).ownBlock≠some P:=(by rw[D]; exact t.jo (A_ _));have zY:=K.lt;refine yu (B:=w.heap.size) (s:=1) (bytes:=8) (k:=n) (m:=1) (v := .slice a (n) (c)) (x:=Ow (gW s k)) (by rfl) rfl rfl rfl Tryz.underlying88 (by kernel_rfl) (by kernel_rfl) rfl rfl G K.aI (uI (fun _=>rfl)) (by omega) (by omega) (by omega) A.size fun E C L T J sH hlt1 => ?_;have Q:=yJ J G;have V:=jT Q Z;have m9:Fx.Own L w.heap.size 3 1 (bO E (n+1) C) (n+1) (Ow (gW s (k+1))):=(T.congr (fun j R=>by rw[wh d]; exact afp r j R));have N:Below w.heap.size w L:=yt A J A.size (fun q U=>(G.ge U).1);refine av (bO E (n+1) C)<|Ln<|bR<|sN<|Wl<|Lv (au ((k:Int)+1)) (eU (hx:=b))<|av (au ((k:Int)+1))<|Ln ?_
   skip
   refine gL ⟨k+1,n+1,(some ⟨E,0,none⟩),C,by omega,(by rw[wh d,E_,<- r]; rfl),u,p,(by rfl),Fx.ic,V,m9,N⟩ ?_;show(6-(intOf (au ((k:Int)+1))).toNat)<_;simp only[b,intOf]; omega
  rw[U_]at i;refine Lv aF (Fx.Bq (j:=k) (y:=fun q => .bool (s.inn q)) rfl p b Tryz.underlying49 (by kernel_rfl) (by kernel_rfl) (by omega) ((show _=Value.bool (s.inn k)from rfl).trans (L_ Value.bool i)))<|av (au k)<|av aF<|aD<|ay<|av aF<|av aF<|dw<|dw<|dw<|dw<|dw<|av aF<|aD<|aK<|Wk<|bR<|sN ?_;have d:isLive s k=false:=by unfold isLive; rw[i]; rfl
  refine Wl<|Lv (au ((k:Int)+1)) (eU (hx:=b))<|av (au ((k:Int)+1))<|Ln ?_;have W:=t.congr (y:=Ow (gW s (k+1))) (fun j _=>by rw[uJ d])
  skip
  refine gL ⟨k+1,n,a,c,by omega,(by rw[uJ d]; exact r),u,p,z,Fx.ic,g,W,h⟩ ?_;show(6-(intOf (au ((k:Int)+1))).toNat)<_;simp only[b,intOf]; omega
 refine Lv aF (gP I (hx:=b))<|aD<|Ws<|aK<|Wx<|bY<|gJ<|bZ<|sN<|ay<|aT z<|av (.slice a (n) (c))<|aD<|Wr<|aJ (.slice a (n) (c)) ?_;obtain rfl:k=6:=by omega
 exact⟨_,n,rfl,r,t,h⟩
theorem Z8(a:Option Addr)(n cap:Nat)(l:List Int)(x:Int)(w:World)(u:nT w a n 1 (Ow l))(D:n<=1000000) :
 Calls Tryz.prog 85 #[.slice a (n) (cap),au x] w fun e w'=>e = .returned (au (fU (fun k=>decide (x=l.getD k 0)) n))/\Below w.heap.size w w':=by
 refine Kent Tryz.func85 19 ?_;refine ay<|av (au 0)<|aD<|Ws<|ay<|av (.slice a (n) (cap))<|av (au n)<|av (au 0)<|aD<|Wb<|Wo (fun f z => ∃ k:Nat,k<=n/\(∀ i,i<k->(fun k=>decide (x=l.getD k 0)) i=false)/\f 0 = .slice a (n) (cap)/\f 1=au x/\f 7=au (n:Int)/\f 8=au (k:Int)/\Below w.heap.size w z) (fun f _=>(n-(intOf (f 8)).toNat)) ⟨0,by omega,(fun i h=>M_ h (by omega)),(by rfl),Fx.ic,Fx.ic,Fx.ic,(Below.refl w.heap.size w)⟩ ?_;rintro A y ⟨k,C,j,p,r,g,b,c⟩;refine ay ?_;by_cases o:(k:Int)<(n:Int)
 ·refine Lv aG (gN o (hx:=b) (hy:=g))<|aD<|Ws<|aL<|Wk<|sN<|Ws<|Wb<|ay<|aT b<|av (au k)<|aD<|ay<|aT r<|aT p<|av (au k) ?_;obtain⟨m,v,t,s⟩:=(u.up c rfl) (by omega);refine Lv (pf m (k+v)) (dh 1 (hx:=(rfl.trans (L_ (fun q=>Value.slice q (n) (cap)) t))))<|Lv (au (l.getD k 0)) (aM s k) ?_;by_cases d:x=(l.getD k 0)
  ·refine Lv aG (eX d)<|aD<|aL<|ay<|av (au k)<|av (au k)<|aD<|Wr<|bP<|sR<|pY<|bP<|sR<|aJ (au k) ?_;exact⟨pF (Eq.symm (pI j (f_ d) (by omega))),c⟩
  refine Lv aF (fT d)<|aD<|aK<|Wk<|bR<|sN<|Wl<|Lv (au ((k:Int)+1)) (eU (hx:=b))<|av (au ((k:Int)+1))<|Ln<|gL ⟨k+1,by omega,(rX j (g_ d)),p,(r.trans Fx.ic),(g.trans Fx.ic),Fx.ic,c⟩ ?_;show(n-(intOf (au ((k:Int)+1))).toNat)<_;simp only[b,intOf]; omega
 refine Lv aF (gP o (hx:=b) (hy:=g))<|aD<|Ws<|aK<|Wx<|bY<|gJ<|bZ<|sN<|ay<|av (au (-1))<|aD<|Wr<|aJ (au (-1)) ?_;exact⟨pF (Eq.symm (lD (fun i B=>j i (by omega)))),c⟩
theorem xO(a:Option Addr)(n cap:Nat)(l:List Int)(x:Int)(w:World)(f:nT w a n 1 (Ow l))(g:n<=1000000) :
 Calls Tryz.prog 58 #[.slice a (n) (cap),au x] w fun e w'=>e = .returned (.bool (decide (0<=fU (fun k=>decide (x=l.getD k 0)) n)))/\Below w.heap.size w w':=by
 refine Kent Tryz.func58 9 ?_;refine ay<|av aF<|aD<|ay<|av (.slice a (n) (cap))<|av (au x)<|dQ (Z8 a n cap l x _ (f.up (Below.refl w.heap.size w) rfl) g) _ rfl ?_;intro h d;have c:=bF d (Below.refl w.heap.size w);by_cases b:0<=(fU (fun k=>decide (x=l.getD k 0)) n)
 ·refine Lv aG (kM b)<|av aG<|aD<|Wr<|aJ aG ?_;exact⟨iB (Eq.symm (f_ b)),c⟩
 refine Lv aF (kg b)<|av aF<|aD<|Wr<|aJ aF ?_;exact⟨iB (Eq.symm (g_ b)),c⟩
namespace Rt
def rA(id tj x:Int):oN:=⟨5,id,tj,XY x 1125899906842624,0,0⟩
def mo:oN:=⟨7,0,0,0,0,0⟩
def leave1(l:List oN)(id tj x:Int):List oN:=if 0<x then l ++ [rA id tj x]else l
def eG(id:Nat->Int)(R:Nat->Nat->Int)(i tj:Int):Nat->List oN
 | 0 => []
 | k+1=>leave1 (eG id R i tj k) (id k) tj (cB (R k) i)
theorem Ox{l:List oN}{id tj x:Int}{n:Nat}(h:n=l.length):(leave1 l id tj x).length<=n+1:=by
 unfold leave1;split
 ·simp; omega
 omega
theorem tK(id:Nat->Int)(R:Nat->Nat->Int)(i tj:Int) : ∀ k,(eG id R i tj k).length<=k
 | 0=>A_ _
 | k+1=>m_ (Ox rfl) (by have:=tK id R i tj k; omega)
def mI(s:vk)(i tj:Int):Int:=if jD s i=false\/jD s tj=false\/i=tj then 10 else 0
def tL(s:vk)(id:Nat->Int)(R:Nat->Nat->Int)(i tj:Int):List oN:=if jD s i=false\/jD s tj=false\/i=tj then []else eG id R i tj s.nn ++ [mo]
end Rt
theorem Rt.ajj{z y:Nat->Value}(hy : ∀ j,j<6->(y j).oneCell'=true) : ∀ j,j<1*6->(aZ z (0*6) 6 y j).oneCell'=true:=fun j a=>by
 unfold aZ; rw[d_ (by omega)]; exact hy _ (by omega)
set_option maxRecDepth 10000 in
theorem Xr(B:Nat)(d arv:Int)(c:Nat->Int)(V h W:Nat)(i tj:Int)(a:Option Addr)(n cap:Nat)(l:List oN)(w:World)(g:B<=w.heap.size)(hi : -9223372036854775808<=i/\i<=9223372036854775807)(D:aP w V 1 (fun _=>au i) 3)(E:aP w h 1 (fun _ => .slice a n cap) 82)(F:aP w W 1 (fun _=>au tj) 3)(hoa:Fx.Own w B 86 6 (.slice a n cap) n (Ov l))(H:n=l.length)(hn2:n<=1000000)(axD:B<=h) :
 Calls Tryz.prog 59 #[.agg (aA 56 (jQ (d) (arv) (c))),(pt V),(pt h),(pt W)] w fun e w' => ∃ P u R,e = .returned (.tuple #[])/\u=(leave1 l d tj (cB c i)).length/\aP w' h 1 (fun _ => .slice P u R) 82/\Fx.Own w' B 86 6 (.slice P u R) u (Ov (leave1 l d tj (cB c i)))/\iA [82,86] w w'/\Below B w w':=by
 refine Kent Tryz.func59 21 ?_;refine ay<|rE fun U w1 T I M z1 => ?_;have⟨m2,m3,m4,m5⟩:=nO M.old D E F hoa;have b1:=eP M.old (Below.refl B w) g;have ct1:=Fx.iA.trans _ _ _ (wm w:iA [82,86] w w) (Fx.iA.of_below M.old);have⟨nI,UR,za⟩:=Ed T D.lt E.lt F.lt;refine aD<|ay<|av (pf U 2)<|Lv (.agg (aA 54 (rv .i64 c))) (fJ I.aI 2 (fun q _=>BG _ _ _ q))<|Lv (au i) (aM m2.aI 0)<|dQ (sS c i _ hi) _ rfl ?_;intro w2 C;have s2:=Sb C;have⟨m6,t,m8,L,Z⟩:=tQ C m2 m3 m4 m5 I;have z:=eP C b1 g;have S:=Fx.iA.trans _ _ _ ct1 (Fx.iA.of_below s2.old);refine av (au (cB c i))<|aD<|ay<|av (au (cB c i)) ?_;by_cases f:0<(cB c i)
 ·refine Lv aG (mK f)<|aD<|aL<|Wl<|Lv (.slice a (n) (cap)) (aM t.aI 0)<|av (pt U)<|Lv (aC d) (aM Z.aI 0)<|Lv (au tj) (aM m8.aI 0)<|av (au (cB c i))<|Lv (au (XY (cB c i) 1125899906842624)) (Fx.agc rfl rfl rfl)<|av (.agg (aA 6 (aZ (aZ (aZ (aZ (fun b=>if b<1 then .int .u8 (0)else if b<2 then aC 0 else if b<4 then au 0 else aC 0) 0 1 (fun _ => .int .u8 (5))) 1 1 (fun _=>aC d)) 2 1 (fun _=>au tj)) 3 1 (fun _=>au (XY (cB c i) 1125899906842624)))))<|xY (vs := [(0,.agg (aA 6 (aZ (aZ (aZ (aZ (fun b=>if b<1 then .int .u8 (0)else if b<2 then aC 0 else if b<4 then au 0 else aC 0) 0 1 (fun _ => .int .u8 (5))) 1 1 (fun _=>aC d)) 2 1 (fun _=>au tj)) 3 1 (fun _=>au (XY (cB c i) 1125899906842624)))))]) (s:=6) (zc:=fun b=>if b<1 then .int .u8 (0)else if b<2 then aC 0 else if b<4 then au 0 else aC 0) (y:=aZ (fun j=>(fun b=>if b<1 then .int .u8 (0)else if b<2 then aC 0 else if b<4 then au 0 else aC 0) (j % 6)) (0*6) 6 (aZ (aZ (aZ (aZ (fun b=>if b<1 then .int .u8 (0)else if b<2 then aC 0 else if b<4 then au 0 else aC 0) 0 1 (fun _ => .int .u8 (5))) 1 1 (fun _=>aC d)) 2 1 (fun _=>au tj)) 3 1 (fun _=>au (XY (cB c i) 1125899906842624)))) (by rfl) rfl rfl Tryz.underlying82 (by kernel_rfl) (by rfl) (by rfl) (by kernel_rfl) (by rw[aR (off:=0*6) (s:=6) (y:=aZ (aZ (aZ (aZ (fun b=>if b<1 then .int .u8 (0)else if b<2 then aC 0 else if b<4 then au 0 else aC 0) 0 1 (fun _ => .int .u8 (5))) 1 1 (fun _=>aC d)) 2 1 (fun _=>au tj)) 3 1 (fun _=>au (XY (cB c i) 1125899906842624))) rfl (bD _ _) (by rfl)]; rfl) rfl fun g2 w3 p aa N z2 => ?_;have⟨m13,J⟩:=fF N.old t L;have A:=eP N.old z g;have ct3:=Fx.iA.trans _ _ _ S (Fx.iA.of_below N.old);have⟨CX,ze,CY⟩:=Ed p m6.lt t.lt m8.lt;have AB:(.slice a (n) (cap):Value).ownBlock≠some g2:=by rw[p]; exact L.jo (A_ _)
  refine yu (B:=B) (s:=6) (bytes:=48) (k:=n) (m:=1) (v := .slice a (n) (cap)) (x:=Ov l) (by rfl) rfl rfl rfl Tryz.underlying82 (by kernel_rfl) (by kernel_rfl) rfl rfl J aa.aI (ajj (fun j G=>by rcases j with _|_|_|_|_|_|j <;> first|rfl|omega)) (by omega) (by omega) (by omega) (m_ g A.size) fun r o w4 ho1 Y sH hlt1 => ?_
  have X:=yJ Y J;have K:=jT X m13;have m17:Fx.Own w4 B 86 6 (bO r (n+1) o) (n+1) (Ov (l ++ [rA d tj (cB c i)])):=(ho1.congr (fun j G=>Xp H (fun j G=>by rcases j with _|_|_|_|_|_|j <;> first|rfl|omega) j G))
  have Q:Below B w w4:=yt A Y (m_ g A.size) (fun q hq=>(J.ge hq).1);have ct4:=Fx.iA.trans _ _ _ ct3 (X.wide (by decide));refine jh K 0 (bO r (n+1) o) fun w5 m22 O z3 => ?_;have m23:aP w5 h 1 (fun _=>bO r (n+1) o) 82:=dM m22;have jv:=gX O K.ty;have nY:=jT jv m17;have b5:=O.below Q (m_ g Q.size) (by omega);have ct5:=Fx.iA.trans _ _ _ ct4 ((gX O K.ty).wide (by decide));refine Ln (⟨.tuple #[],iI Tryz.results59,?_⟩);exact⟨some ⟨r,0,none⟩,n+1,o,rfl,by unfold leave1; rw[d_ f,E_,<- H]; rfl,m23,by unfold leave1; rw[d_ f]; exact nY,ct5,b5⟩
 refine Lv aF (mM f) (aD (aK (Wk (⟨.tuple #[],iI Tryz.results59,?_⟩))));exact⟨a,n,cap,rfl,by unfold leave1; rw[b_ f]; exact H,t,by unfold leave1; rw[b_ f]; exact L,S,z⟩
namespace Rt
theorem Gx{id:Nat->Int}{R:Nat->Nat->Int}{i tj:Int}(a:qJ tj) : ∀ n,(∀ k,k<n->jO (id k)) -> ∀ x∈eG id R i tj n,Ea x
 | 0,_,_,h=>M_ h (List.not_mem_nil)
 | n+1,hid,x,h=>by
   unfold eG leave1 at h;have b:=Gx (R:=R) (i:=i) a n (fun k c=>hid k (by omega));split at h
   ·rename_i hx
    rcases List.mem_append.1 h with h|h
    ·exact b x h
    ·obtain rfl:x=rA (id n) tj (cB (R n) i):=(by simpa using h);have z:jO (0:Int):=⟨by decide,by decide⟩;refine⟨by show(0:Int)<=5/\(5:Int)<=255; omega,hid n (by omega),a,?_,z,z⟩;show qJ (XY (cB (R n) i) 1125899906842624);have:=Ct (R n) i;unfold qJ XY; split <;> omega
   ·exact b x h
theorem RY{s:vk}{id:Nat->Int}{R:Nat->Nat->Int}{i tj:Int}(b:qJ tj)(a : ∀ k,k<s.nn->jO (id k)) : ∀ x∈tL s id R i tj,Ea x:=fun x h=>by
 unfold tL at h;split at h
 ·cases h
 ·rcases List.mem_append.1 h with h|h
  ·exact Gx b s.nn a x h
  ·obtain rfl:x=mo:=(by simpa using h);exact⟨by decide,⟨by decide,by decide⟩,⟨by decide,by decide⟩,⟨by decide,by decide⟩,⟨by decide,by decide⟩,⟨by decide,by decide⟩⟩
theorem ajk{l:List oN}{k:Nat}(h:k<l.length):l.getD k dB∈l:=by
 rw[r_,o_ h]; exact R_ h
theorem zo{s:vk}{id:Nat->Int}{R:Nat->Nat->Int}{i tj:Int}(h:jD s i=false\/jD s tj=false\/i=tj):mI s i tj=10/\tL s id R i tj = []:=⟨d_ h,d_ h⟩
theorem Gy{s:vk}{id:Nat->Int}{R:Nat->Nat->Int}{i tj:Int}(h1:jD s i=true)(a:jD s tj=true)(b : ¬ i=tj):mI s i tj=0/\tL s id R i tj=eG id R i tj s.nn ++ [mo]:=by
 have h : ¬ (jD s i=false\/jD s tj=false\/i=tj):=by rw[h1,a]; exact fun h=>h.elim (fun h=>by cases h) (fun h=>h.elim (fun h=>by cases h) b)
 exact⟨b_ h,b_ h⟩
end Rt
set_option maxRecDepth 10000 in
theorem JZ(s:vk)(id par:Nat->Int)(R:Nat->Nat->Int)(i tj:Int)(w:World)(hnn:s.nn<=900000)(hnd:Nds w s.na s.nn id par R)(hi : -9223372036854775808<=i/\i<=9223372036854775807) :
 Calls Tryz.prog 30 #[.agg (aA 20 (kK s)),au i,au tj] w fun e w' => ∃ v n,e = .returned (.tuple #[v,au (mI s i tj)])/\n=(tL s id R i tj).length/\Fx.Own w' w.heap.size 86 6 v n (Ov (tL s id R i tj))/\Below w.heap.size w w':=by
 refine Kent Tryz.func30 46 ?_;refine ay<|rE fun Q w1 lN W s1 z1 => ?_;have b1:=bF s1.old (Below.refl w.heap.size w);refine yM (au i) fun r J yD Z s2 z2 => ?_;have⟨m3,b2⟩:=fF s2.old W b1;refine yM (au tj) fun t w3 zF m4 s3 z3 => ?_;have⟨m5,m6,b3⟩:=jr s3.old m3 Z b2;have⟨aaS,agT⟩:=vH zF m3.lt Z.lt;refine av (.slice none 0 0)<|av (au 0)<|aD<|ay<|Lv (.agg (aA 20 (kK s))) (fJ m5.aI 0)<|lU (JY s _) ?_;rintro e9 w4 ⟨v9,g,E,F,H,XL⟩;obtain⟨h,l,rfl⟩:=H.val;refine⟨.slice h g l,E,?_⟩;clear E;have⟨m7,m8,m9,b4⟩:=nO XL m5 m6 m4 b3;have axI:g<=6:=by rw[F]; exact zn s 6
 refine av (.slice h (g) (l))<|aD<|Ws<|ay<|av (.slice h (g) (l))<|Lv (au i) (aM m8.aI 0) ?_;by_cases A:(jD s i)=true
 ·refine dQ ((xO h g l (gW s 6) i _ H.arr (by omega)).mono (fun e J d=>(⟨d.1.trans (by rw[F,BZ]),d.2⟩:e = .returned (.bool (jD s i))/\_))) aG (by rw[A]) ?_;intro w5 hb1;have⟨m10,m11,m12,m13,b5⟩:=tQ hb1 m7 m8 m9 H b4;refine av aF<|av aF<|av (.slice h (g) (l))<|Lv (au tj) (aM m12.aI 0) ?_;by_cases C:(jD s tj)=true
  ·refine dQ ((xO h g l (gW s 6) tj _ m13.arr (by omega)).mono (fun e J d=>(⟨d.1.trans (by rw[F,BZ]),d.2⟩:e = .returned (.bool (jD s tj))/\_))) aG (by rw[C]) ?_;intro w6 hb2;have⟨m14,X,Y,L⟩:=nO hb2 m10 m11 m12 b5;refine av aF<|av aF<|av aF<|Lv (au i) (aM X.aI 0)<|Lv (au tj) (aM Y.aI 0) ?_;by_cases G:i=tj
   ·refine Lv aG (eX G)<|av aG<|aD<|aL<|ay<|av (.slice none 0 0)<|av (au 10)<|aD<|Wr<|sR<|aJ (.tuple #[.slice none 0 0,au 10]) ?_;have c:=zo (s:=s) (i:=i) (tj:=tj) (id:=id) (R:=R) (.inr (.inr G));exact⟨.slice none 0 0,0,by rw[c.1],by rw[c.2]; rfl,by rw[c.2]; exact tO _ _ _ _ _,L⟩
   refine Lv aF (fT G)<|av aF<|aD<|aK<|Wk<|sN<|ay<|Cg (m:=1) (y:=fun _ => .slice none 0 0) (by rfl) rfl (by kernel_rfl) rfl fun o w7 GQ m18 s7 z4 => ?_;have⟨m19,m20,m21,b7⟩:=nO s7.old m14 X Y L;have Rc:=iT GQ L.size;have⟨arw,arx,adR⟩:=Ed GQ m14.lt X.lt Y.lt;have Rf:=m18.lt;refine aD<|ay<|Lv (.func (.func 59) #[] #[(pt r),(pt o),(pt t)]) (Fx.nk (us := []) (vs := [(pt r),(pt o),(pt t)]) rfl rfl rfl)<|av (.func (.func 59) #[] #[(pt r),(pt o),(pt t)])<|aD<|Ws<|ay<|av (pf Q 18)<|Lv (.slice s.na (s.nn) (s.nc)) (aM m19.aI 18)<|av (au s.nn)<|av (au 0)<|aD<|Wb ?_;have m23:Fx.Own w7 w.heap.size 86 6 (.slice none 0 0) 0 (Ov (eG id R i tj 0)):=tO _ _ _ _ _;refine Wo (fun f u => ∃ k:Nat,∃ n:Nat,∃ a:Option Addr,∃ p:Nat,k<=s.nn/\n=(eG id R i tj k).length/\f 3=(pt Q)/\f 9=(pt o)/\f 10 = .func (.func 59) #[] #[(pt r),(pt o),(pt t)]/\f 32 = .slice s.na (s.nn) (s.nc)/\f 33=au (s.nn:Int)/\f 34=au (k:Int)/\aP u Q 20 (kK s) 53/\aP u r 1 (fun _=>au i) 3/\aP u t 1 (fun _=>au tj) 3/\aP u o 1 (fun _ => .slice a n p) 82/\Fx.Own u w.heap.size 86 6 (.slice a (n) (p)) n (Ov (eG id R i tj k))/\Below w.heap.size w u) (fun f _=>(s.nn-(intOf (f 34)).toNat)) ⟨0,0,none,0,by omega,rfl,(by rfl),(by rfl),(by rfl),(by rfl),Fx.ic,Fx.ic,m19,m20,m21,m18,m23,b7⟩ ?_;rintro f1 w8 ⟨k,n,a,p,hk,V,h1,d,h3,h4,T,D,aa,ab,ac,I,ad,z⟩;have hnl:=tK id R i tj k;refine ay ?_;by_cases c35:(k:Int)<(s.nn:Int)
   ·refine Lv aG (gN c35 (hx:=D) (hy:=T))<|aD<|Ws<|aL<|Wk<|sN<|Ws<|Wb<|Ws ?_;obtain⟨M,off1,ea1,ajl⟩:=hnd k (by omega);have lb9:M<w.heap.size:=ajl.lt (by omega);have ae:=ajl.below z lb9;refine Wl<|Lv (pf M (56*k+off1)) (dh 56 (hx:=(h4.trans (L_ (fun q=>Value.slice q (s.nn) (s.nc)) ea1))) (hi:=D))<|Lv (.agg (aA 56 (jQ (id k) (par k) (R k)))) (fJ ae 0)<|uW 56 (fun b=>if b<2 then aC 0 else au 0) fun g5 w9 O af s8 z5 => ?_;have⟨m32,qg,oO,qh,qH,nS,b10⟩:=jM s8.old aa ab ac I ad ae z;have WA:=iT O z.size;have⟨arz,arA,arB,arC⟩:=SX O aa.lt ab.lt ac.lt I.lt;have arD:M≠g5:=(by rw[O]; exact u_ (ae.lt (by omega)));have tg5:=af.lt;refine fq af 0 (h1:=(fun j _=>qj _ _ _ j)) fun sI rU s9 z6 => ?_;have pV:aP sI g5 56 (jQ (id k) (par k) (R k)) 61:=aW rU;have gD:=gX s9 af.ty;have⟨sJ,nJ,mJ,nC,sK⟩:=rF gD m32 qg oO qh qH;have rJ:=nS.cZ s9 (by omega);have b11:=s9.below b10 b10.size (by omega);refine aD<|Wl<|aT h3<|Lv (.agg (aA 56 (jQ (id k) (par k) (R k)))) (fJ pV.aI 0)<|Bj (by rfl) (Fx.Fe (args := [.agg (aA 56 (jQ (id k) (par k) (R k)))]) rfl rfl rfl (all := #[.agg (aA 56 (jQ (id k) (par k) (R k))),(pt r),(pt o),(pt t)]) rfl Tryz.func59 rfl rfl) rfl<|(Xr w.heap.size (id k) (par k) (R k) r o t i tj a n p (eG id R i tj k) _ b11.size hi nJ nC mJ sK V (by omega) Rc).mono ?_;rintro e9 xU ⟨a2,n2,cap2,E,hn2,arE,ho2,jv,hb3⟩;refine⟨.tuple #[],E,?_⟩;clear E;have⟨og,qV,wT⟩:=Ec jv sJ nJ mJ;have b12:=b11.trans hb3;refine Ln<|bR<|sN<|Wl<|Lv (au ((k:Int)+1)) (eU (hx:=D))<|av (au ((k:Int)+1))<|Ln<|gL ⟨k+1,n2,a2,cap2,by omega,hn2,h1,d,h3,h4,(T.trans Fx.ic),Fx.ic,og,qV,wT,arE,ho2,b12⟩ ?_;show(s.nn-(intOf (au ((k:Int)+1))).toNat)<_;simp only[D,intOf]; omega
   refine Lv aF (gP c35 (hx:=D) (hy:=T))<|aD<|Ws<|aK<|Wx<|bY<|gJ<|bZ<|sN<|ay<|Lv (.slice a (n) (p)) (aM I.aI 0 (ha:=d))<|av (.agg (aA 6 (aZ (fun b=>if b<1 then .int .u8 (0)else if b<2 then aC 0 else if b<4 then au 0 else aC 0) 0 1 (fun _ => .int .u8 (7)))))<|xY (vs := [(0,.agg (aA 6 (aZ (fun b=>if b<1 then .int .u8 (0)else if b<2 then aC 0 else if b<4 then au 0 else aC 0) 0 1 (fun _ => .int .u8 (7)))))]) (s:=6) (zc:=fun b=>if b<1 then .int .u8 (0)else if b<2 then aC 0 else if b<4 then au 0 else aC 0) (y:=aZ (fun j=>(fun b=>if b<1 then .int .u8 (0)else if b<2 then aC 0 else if b<4 then au 0 else aC 0) (j % 6)) (0*6) 6 (aZ (fun b=>if b<1 then .int .u8 (0)else if b<2 then aC 0 else if b<4 then au 0 else aC 0) 0 1 (fun _ => .int .u8 (7)))) (by rfl) rfl rfl Tryz.underlying82 (by kernel_rfl) (by rfl) (by rfl) (by kernel_rfl) (by rw[aR (off:=0*6) (s:=6) (y:=aZ (fun b=>if b<1 then .int .u8 (0)else if b<2 then aC 0 else if b<4 then au 0 else aC 0) 0 1 (fun _ => .int .u8 (7))) rfl (bD _ _) (by rfl)]; rfl) rfl fun g6 Dy P rW s10 z7 => ?_;have⟨wz,K⟩:=fF s10.old ad z;have lg6:=iT P z.size;have⟨arF,arG,arH,arI⟩:=SX P aa.lt ab.lt ac.lt I.lt;have arJ:(.slice a (n) (p):Value).ownBlock≠some g6:=(by rw[P]; exact ad.jo (A_ _));have tg6:=rW.lt;refine yu (B:=w.heap.size) (s:=6) (bytes:=48) (k:=n) (m:=1) (v := .slice a (n) (p)) (x:=Ov (eG id R i tj k)) (by rfl) rfl rfl rfl Tryz.underlying82 (by kernel_rfl) (by kernel_rfl) rfl rfl wz rW.aI (ajj (fun j U=>by rcases j with _|_|_|_|_|_|j <;> first|rfl|omega)) (by omega) (by omega) (by omega) K.size fun S N EI ho1 hg1 sH hlt1 => ?_
   have uw:Fx.Own EI w.heap.size 86 6 (bO S (n+1) N) (n+1) (Ov (eG id R i tj k ++ [mo])):=(ho1.congr (fun j U=>Xp V (fun j U=>by rcases j with _|_|_|_|_|_|j <;> first|rfl|omega) j U))
   have b14:Below w.heap.size w EI:=yt K hg1 K.size (fun q hq=>(wz.ge hq).1);refine av (bO S (n+1) N)<|av (au 0)<|aD<|Wr<|aJ (.tuple #[bO S (n+1) N,au 0]) ?_;have c:=Gy (s:=s) (i:=i) (tj:=tj) (id:=id) (R:=R) A C G;obtain ek:k=s.nn:=(by omega);exact⟨_,n+1,by rw[c.1],by rw[c.2,E_,<- ek,<- V]; rfl,by rw[c.2,<- ek]; exact uw,b14⟩
  rw[U_]at C;refine dQ ((xO h g l (gW s 6) tj _ m13.arr (by omega)).mono (fun e J d=>(⟨d.1.trans (by rw[F,BZ]),d.2⟩:e = .returned (.bool (jD s tj))/\_))) aF (by rw[C]) ?_;intro MG hb4;have b15:=bF hb4 b5;refine av aG<|av aG<|av aG<|dw<|dw<|dw<|av aG<|aD<|aL<|ay<|av (.slice none 0 0)<|av (au 10)<|aD<|Wr<|sR<|aJ (.tuple #[.slice none 0 0,au 10]) ?_;have c:=zo (s:=s) (i:=i) (tj:=tj) (id:=id) (R:=R) (.inr (.inl C));exact⟨.slice none 0 0,0,by rw[c.1],by rw[c.2]; rfl,by rw[c.2]; exact tO _ _ _ _ _,b15⟩
 rw[U_]at A;refine dQ ((xO h g l (gW s 6) i _ H.arr (by omega)).mono (fun e J d=>(⟨d.1.trans (by rw[F,BZ]),d.2⟩:e = .returned (.bool (jD s i))/\_))) aF (by rw[A]) ?_;intro KJ hb5;have b16:=bF hb5 b4;refine av aG<|av aG<|dw<|dw<|dw<|dw<|av aG<|av aG<|dw<|dw<|dw<|av aG<|aD<|aL<|ay<|av (.slice none 0 0)<|av (au 10)<|aD<|Wr<|sR<|aJ (.tuple #[.slice none 0 0,au 10]) ?_;have c:=zo (s:=s) (i:=i) (tj:=tj) (id:=id) (R:=R) (.inl A);exact⟨.slice none 0 0,0,by rw[c.1],by rw[c.2]; rfl,by rw[c.2]; exact tO _ _ _ _ _,b16⟩
end Go.Proofs.YtahbiajdgealnaaGreatDoor
