/-
  What the proof of the law rests on, part 7: walks of functions, and plain laws; each says its conditions itself.
-/
import Derived.Deep.Slices
import Derived.Lib.SmallJoins
import Derived.ChangeArms
import Derived.Test.YtcbedgfikejkoaaGreatDoorZA6
set_option maxRecDepth 20000
set_option linter.unusedVariables false
set_option maxHeartbeats 1600000
set_option linter.unusedSimpArgs false
namespace Go.Proofs.YtcbedgfikejkoaaGreatDoor
open Go.RowKit Go
namespace Rt
def om(x:Nat->Int):Int:=x 0*18446744073709551616+x 1
structure xJ(L:eY):Prop where
 up : ∀ i j,i<j->j<L.gn->om (L.g i)<om (L.g j)
 wf : ∀ q,q<L.gn->iA (L.g q 1)/\iA (L.g q 4)
 ga : ∀ q,q<L.gn->1<=L.g q 0/\L.g q 0<=6 /\ ∃ j,j<L.rn (L.g q 0-1).toNat/\L.rq (L.g q 0-1).toNat j=L.g q 1
section
variable {L:eY} {N:Nat} {v:EvM}
theorem VW(a:iA v.req){x:Nat->Int}(hx:iA (x 1)):Df v x=true<->om (pJ v)<om x:=by
 unfold Df om iA at *;rw[Bool.or_eq_true,S_,P_,P_,P_];show v.o<x 0\/x 0=v.o/\v.req<x 1<->v.o*18446744073709551616+v.req<x 0*18446744073709551616+x 1;omega
theorem LJ{a:Nat}{r:Int}(L':eY)(d:L'.rn=aI L.rn a (L.rn a+1))(f:L'.rq=aI L.rq a (aI (L.rq a) (L.rn a) r)):(∀ b y,(∃ j,j<L.rn b/\L.rq b j=y) -> ∃ j,j<L'.rn b/\L'.rq b j=y) /\ ∃ j,j<L'.rn a/\L'.rq a j=r:=by
 rw[d,f];unfold aI;refine⟨fun b y ⟨j,g,e⟩ => ?_,L.rn a,by rw[d_ rfl]; omega,by rw[d_ rfl,d_ rfl]⟩;by_cases c:b=a
 ·subst c;exact⟨j,by rw[d_ rfl]; omega,by rw[d_ rfl,b_ (by omega)]; exact e⟩
 exact⟨j,by rw[b_ c]; exact g,by rw[b_ c]; exact e⟩
attribute [local irreducible] dF cZ in
theorem NQ(h:xJ L)(J:bQ v=true)(M:gu v)(t:iZ L v=0):xJ (mE L v):=by
 have z:=oh J;have m:iA v.req:=M.req;unfold iZ at t;split at t
 ·cases t
 rename_i c1;obtain⟨w,x⟩:=LJ (L:=L) (a:=aL v) (r:=v.req) (mE L v) rfl rfl;have K : ∀ j,j<L.gn -> ¬ (L.g j 0=v.o/\L.g j 1=v.req):=fun j f e=>c1 (by
  obtain⟨_,_,q,b,y⟩:=h.ga j f;rw[e.1,e.2]at y;rw[e.1]at b;unfold eY.lD;rw[CK];exact⟨q,b,f_ y⟩)
 obtain⟨k,u⟩ : ∃ k,k=Fx.down (fun i=>Df v (L.g i)) L.gn:=⟨_,rfl⟩;have l:k<=L.gn:=by rw[u]; exact Fx.vZ _ _
 have I : ∀ q,k<=q->q<L.gn->om (pJ v)<om (L.g q):=fun q D d=>(VW m (h.wf q d).1).1 (Fx.IX (P:=fun i=>Df v (L.g i)) (n:=L.gn) (i:=q) (by omega) d);have H : ∀ q,q<k->om (L.g q)<om (pJ v):=fun q D=>by
  obtain⟨j,rfl⟩ : ∃ j,k=j+1:=⟨k-1,by omega⟩;have d:=Fx.IY (P:=fun i=>Df v (L.g i)) (n:=L.gn) (j:=j) u.symm;have E : ¬ om (pJ v)<om (L.g j):=fun e=>by
   have:=(VW m (h.wf j (by omega)).1).2 e;rw[this]at d; cases d
  have F:om (L.g j)<om (pJ v):=by
   rcases Int.lt_trichotomy (om (L.g j)) (om (pJ v))with c|c|c
   ·exact c
   ·exfalso;have G:=(h.wf j (by omega)).1;refine K j (by omega) ?_;unfold om at c;have c:L.g j 0*18446744073709551616+L.g j 1=v.o*18446744073709551616+v.req:=c;unfold iA at G m;omega
   ·exact M_ c E
  by_cases e:q=j
  ·rw[e]; exact F
  ·have:=h.up q j (by omega) (by omega); omega
 have p:(mE L v).g=Fx.cB L.g k (pJ v):=by rw[u]; rfl
 have s:(mE L v).gn=L.gn+1:=rfl;refine⟨fun i j N f => ?_,fun q b => ?_,fun q b => ?_⟩
 ·rw[s]at f;rw[p]
  rcases dU l (show i<L.gn+1 by omega)with rfl|⟨q,b,eq,q1,q2⟩
  ·rcases dU l f with rfl|⟨r,hr,er,w,x⟩
   ·omega
   rw[dH,er]; exact I r (by omega) hr
  rcases dU l f with rfl|⟨r,hr,er,w,x⟩
  ·rw[dH,eq]; exact H q (by omega)
  rw[eq,er]; exact h.up q r (by omega) hr
 ·rw[s]at b;rw[p]
  rcases dU l b with rfl|⟨r,hr,er,_,_⟩
  ·rw[dH]; exact⟨m,by show iA 0; unfold iA; omega⟩
  rw[er]; exact h.wf r hr
 rw[s]at b;rw[p]
 rcases dU l b with rfl|⟨r,hr,er,_,_⟩
 ·rw[dH]; exact⟨z.1,z.2.1,x⟩
 rw[er];obtain⟨A,B,C⟩:=h.ga r hr;exact⟨A,B,w _ _ C⟩
attribute [local irreducible] dF cZ in
theorem NR(h:xJ L)(w:bQ v=true)(s:gu v)(u:iT L v=0):xJ (kJ L v):=by
 obtain⟨t,x⟩:=LJ (L:=L) (a:=aL v) (r:=v.req) (kJ L v) rfl rfl;have e : ∀ q,(kJ L v).g q=if q=yw L v then aI (L.g (yw L v)) 4 v.req else L.g q:=fun q=>rfl;have b : ∀ j p,(p=0\/p=1)->(kJ L v).g j p=L.g j p:=fun j p o=>by
  rw[e];by_cases c:j=yw L v
  ·subst c; rw[d_ rfl]; rcases o with rfl|rfl <;> rfl
  ·rw[b_ c]
 refine⟨fun i j m n => ?_,fun q d => ?_,fun q d => ?_⟩
 ·unfold om;rw[b i 0 (.inl rfl),b i 1 (.inr rfl),b j 0 (.inl rfl),b j 1 (.inr rfl)];exact h.up i j m n
 ·rw[b q 1 (.inr rfl)];refine⟨(h.wf q d).1,?_⟩;rw[e];by_cases c:q=yw L v
  ·rw[d_ c]; exact s.req
  rw[b_ c]; exact(h.wf q d).2
 rw[b q 0 (.inl rfl),b q 1 (.inr rfl)];obtain⟨f,k,l⟩:=h.ga q d;exact⟨f,k,t _ _ l⟩
theorem FX(h:xJ L)(e:gu v):xJ (bV L v):=by
 unfold bV;by_cases c:bA L v=0
 ·rw[d_ c];have b:=(Dj (iK c)).1;have a:dY L v=0:=by
   unfold bA at c;rw[b_ (by rw[b]; decide)]at c;split at c; · cases c
   split at c; · cases c
   split at c; · cases c
   exact c
  have d:xJ (gY L v):=by
   unfold dY at a;unfold gY;by_cases f:v.kind=1
   ·rw[d_ f]; exact⟨h.up,h.wf,h.ga⟩
   rw[b_ f]at a ⊢;by_cases g:v.kind=2
   ·rw[d_ g]; exact⟨h.up,h.wf,h.ga⟩
   rw[b_ g]at a ⊢;by_cases i:v.kind=3
   ·rw[d_ i]at a ⊢; exact NQ h b e a
   rw[b_ i]at a ⊢;by_cases j:v.kind=4
   ·rw[d_ j]at a ⊢; exact NR h b e a
   rw[b_ j]at a ⊢;by_cases k:v.kind=5
   ·rw[d_ k]; exact⟨h.up,h.wf,h.ga⟩
   rw[b_ k];by_cases l:v.kind=6
   ·rw[d_ l]; exact⟨h.up,h.wf,h.ga⟩
   ·rw[b_ l]; exact⟨h.up,h.wf,h.ga⟩
  exact⟨d.up,d.wf,d.ga⟩
 rw[b_ c]; exact h
theorem LK(k a:Nat):xJ (kH k a).core:=⟨fun i j _ h=>M_ h (z_ _),fun q h=>M_ h (z_ _),fun q h=>M_ h (z_ _)⟩
theorem fP.new(k l d e f c b g:Nat):fP (yG k l d e f c b) (kH k g).core where
 T:=⟨fun q=>⟨fun h=>(nomatch h),fun⟨i,h,_⟩=>M_ h (z_ _)⟩,rfl,fun i h=>M_ h (z_ _)⟩
 inn:=rfl
 left:=rfl
 known:=rfl
 row:=fun i h=>M_ h (z_ _)
 own:=fun a _=>rfl
 gi:=fun i j h=>M_ h (z_ _)
 gn:=rfl
 g1:=fun q h=>M_ h (z_ _)
 g2:=fun q h=>M_ h (z_ _)
 ask:=fun a r _=>⟨fun h=>(nomatch h),fun⟨j,h,_⟩=>M_ h (z_ _)⟩
 ga:=fun i h=>M_ h (z_ _)
 li:=fun i j h=>M_ h (z_ _)
structure StC(L:eY)(m:dO)(l:List Int)(gl:List JC):Prop where
 nn:l.length=L.nn
 gn:gl.length=L.gn
 n : ∀ k,k<L.nn->l.getD k 0=L.id k/\m.T.par (l.getD k 0)=L.par k/\AB m (l.getD k 0)=L.R k
 g : ∀ k,k<L.gn->(gl.getD k g0).x=L.g k
theorem StC.of{m:dO}{l:List Int}{c:List JC}(h:fP m L)(F:Inv0 L N)(u:xJ L)(B:l.Pairwise (· < ·) /\ ∀ k,k∈l<->m.T.has k=true)(s:GrS m c):StC L m l c:=by
 have w:l=(List.range L.nn).map L.id:=uR B.1 (by
  rw[List.pairwise_map];exact(List.pairwise_lt_range (n:=L.nn)).imp_of_mem fun {a b} _ hb hab=>F.rise a b hab (O_.1 hb)) fun k=>by
  rw[B.2,h.T.has,List.mem_map];exact⟨fun⟨i,d,e⟩=>⟨i,O_.2 d,e⟩,fun⟨i,d,e⟩=>⟨i,O_.1 d,e⟩⟩
 have y:c.map LA=(List.range L.gn).map fun q=>om (L.g q):=uR (by rw[List.pairwise_map]; exact s.up) (by
  rw[List.pairwise_map];exact(List.pairwise_lt_range (n:=L.gn)).imp_of_mem fun {a b} _ hb hab=>u.up a b hab (O_.1 hb)) fun k=>by
  rw[List.mem_map,List.mem_map];constructor
  ·rintro ⟨x,v,e⟩;obtain⟨i,d,p⟩:=s.mem x v;obtain⟨q,o,r⟩:=h.g2 i d;refine⟨q,O_.2 o,?_⟩;rw[r,<- p]; exact e
  ·rintro ⟨q,o,e⟩;obtain⟨j,G,C⟩:=h.g1 q (O_.1 o);obtain⟨x,v,E⟩:=s.all j G;refine⟨x,v,?_⟩;rw[<- e,<- C,<- E]; rfl
 have I:c.length=L.gn:=by have:=L_ List.length y; rwa [List.length_map,List.length_map,List.length_range]at this
 refine⟨by rw[w,List.length_map,List.length_range],I,fun k f => ?_,fun k f => ?_⟩
 ·have:l.getD k 0=L.id k:=by
   rw[w,r_,o_ (by rw[List.length_map,List.length_range]; exact f)];simp
  rw[this];exact⟨rfl,h.T.par k f,h.row k f⟩
 have t:k<c.length:=by omega
 have H:c.getD k g0∈c:=by rw[r_,o_ t]; exact Q_ t
 have D:LA (c.getD k g0)=om (L.g k):=by
  have A:=L_ (fun z=>z.getD k 0) y;simp only[r_,List.getElem?_map,o_ t,List.getElem?_range f]at A;rw[r_,o_ t]; exact A
 obtain⟨i,d,p⟩:=s.mem _ H;obtain⟨q,o,r⟩:=h.g2 i d;have J:om (L.g q)=om (L.g k):=by rw[r,<- p,<- D]; rfl
 have:q=k:=by
  rcases Nat.lt_trichotomy q k with h5|h5|h5
  ·have:=u.up q k h5 f; omega
  ·exact h5
  ·have:=u.up k q h5 o; omega
 rw[p,<- r,this]
end
end Rt
end Go.Proofs.YtcbedgfikejkoaaGreatDoor
namespace Go.Proofs.YtcbedgfikejkoaaGreatDoor
open Go.RowKit Go.WideShapes Go.ChangeShapes Go.Deep
theorem Q6{w:World}{x:Addr}{v:Value}(h:w.cell? x=some v) : ∃ b a,x=⟨b,a,none⟩:=by
 obtain⟨b,a,c⟩:=x
 cases c with
 | none=>exact⟨b,a,rfl⟩
 | some q =>
   unfold World.cell? at h;simp at h;split at h <;> cases h
def At4(a k1 k2 c:IntKind)(w:World)(b off:Nat)(x0 x1 x2 d:Int):Prop :=
 w.cell? ⟨b,off,none⟩=some (.int a x0)/\w.cell? ⟨b,off+1,none⟩=some (.int k1 x1)/\w.cell? ⟨b,off+2,none⟩=some (.int k2 x2)/\w.cell? ⟨b,off+3,none⟩=some (.int c d)
def Wf4(a k1 k2 b:IntKind)(x0 x1 x2 c:Int):Prop:=(Lit.int a x0).wf=true/\(Lit.int k1 x1).wf=true/\(Lit.int k2 x2).wf=true/\(Lit.int b c).wf=true
def Sl4(g k1 k2 h:IntKind)(w:World)(a:Option Addr)(len:Nat)(c d e f:Nat->Int):Prop :=
 ∀ i,i<len->(∃ b j,a=some ⟨b,j,none⟩/\At4 g k1 k2 h w b (j+i*4) (c i) (d i) (e i) (f i))/\Wf4 g k1 k2 h (c i) (d i) (e i) (f i)
theorem Sl4.up{m k1 k2 n:IntKind}{w w':World}{a:Option Addr}{len:Nat}{g j k l:Nat->Int}(h:Sl4 m k1 k2 n w a len g j k l)(f:Below w.heap.size w w'):Sl4 m k1 k2 n w' a len g j k l:=by
 intro i q;obtain⟨⟨b,d,e,o,r,s,t⟩,hw⟩:=h i q;have c:=block_lt_of_cell o
 dsimp only at c
 exact⟨⟨b,d,e,(f.cell (p:=⟨b,d+i*4,none⟩) c).trans o,(f.cell (p:=⟨b,d+i*4+1,none⟩) c).trans r,(f.cell (p:=⟨b,d+i*4+2,none⟩) c).trans s,(f.cell (p:=⟨b,d+i*4+3,none⟩) c).trans t⟩,hw⟩
instance {g k1 k2 i:IntKind} {w w':World} {a:Option Addr} {len:Nat} {c d e f:Nat->Int}:Rt.Tr w w' (Sl4 g k1 k2 i w a len c d e f) (Sl4 g k1 k2 i w' a len c d e f):=⟨fun b h=>h.up b⟩
def yH(P:Program):Nat->TypeId->Option (List (Option IntKind))
 | 0,_=>none
 | d+1,t=>match P.underlying t with
   | some (.int k)=>some [some k]
   | some .bool=>some [none]
   | some (.array n e)=>(yH P d e).bind fun a=>if P.cellsOf e=a.length/\P.cellsOf t=n*a.length then some (List.replicate n a).flatten else none
   | some (.struct fs)=>(fs.toList.foldlM (fun l f=>(yH P d f.type).bind fun a=>if f.offset=l.length/\P.cellsOf f.type=a.length then some (l++a)else none) []).bind fun l=>if P.cellsOf t=l.length then some l else none
   | _=>none
def RA(k:Option IntKind)(v:Value):Prop:=match k with|some k => ∃ n,v = .int k n/\(Lit.int k n).wf=true|none => ∃ b,v = .bool b
def aay(ks:List (Option IntKind))(cs:List Value):Prop:=cs.length=ks.length /\ ∀(j:Nat) (k:Option IntKind),ks[j]? = some k -> ∃ v,cs[j]? = some v/\RA k v
theorem CO{ks:List (Option IntKind)}{k:Option IntKind} : ∀(n j:Nat),(List.replicate n ks).flatten[j]? = some k->ks[j % ks.length]? = some k/\j / ks.length<n
 | 0,j,h=>by simp at h
 | n+1,j,h=>by
   rw[List.replicate_succ,List.flatten_cons]at h;by_cases b:j<ks.length
   ·rw[List.getElem?_append_left b]at h;rw[Nat.mod_eq_of_lt b,Nat.div_eq_of_lt b]; exact⟨h,by omega⟩
   ·rw[List.getElem?_append_right (by omega)]at h;have c:0<ks.length:=by
     rcases Nat.eq_zero_or_pos ks.length with e|e
     ·obtain⟨a,_⟩:=CO n _ h;have:=(List.getElem?_eq_some_iff.1 a).1; omega
     ·exact e
    obtain⟨a,d⟩:=CO n _ h;rw[Nat.mod_eq_sub_mod (by omega),Nat.div_eq_sub_div c (by omega)];exact⟨a,by omega⟩
section
variable {H:Type} {enc:TypeId × Value->H} {P:Program} {w:World} {base:Nat} {spare:Nat->Bool} {held:Bool}
theorem FY{ks:List (Option IntKind)}{cs:List Value}{o s j:Nat}{k:Option IntKind}(h:aay ks ((cs.drop o).take s))(e:s=ks.length)(b:ks[j]? = some k) : ∃ v,cs[o+j]? = some v/\RA k v:=by
 obtain⟨n,a,c⟩:=h.2 j k b;have d:=(List.getElem?_eq_some_iff.1 b).1;rw[List.getElem?_take_of_lt (by omega),List.getElem?_drop]at a;exact⟨n,a,c⟩
theorem CP : ∀(d:Nat) (t:TypeId) (q:List (Option IntKind)),yH P d t=some q -> ∀(C:Nat) (p:List Value) (x:DataW H × List MemPlace),DataW.trod enc P w base spare held C t p=some x->aay q p
 | 0,_,_,h=>by simp[yH]at h
 | d+1,t,q,h=>by
   intro C p x z;unfold yH at h;split at h
   ·rename_i k hu;simp only[Option.some.injEq]at h; subst h;obtain⟨n,rfl,_,U⟩:=DataW.trod_int hu z;refine⟨rfl,fun j W a => ?_⟩
    match j,a with
    | 0,a=>simp at a; subst a; exact⟨_,rfl,n,rfl,U⟩
    | j+1,a=>simp at a
   ·rename_i hu;simp only[Option.some.injEq]at h; subst h;obtain⟨b,rfl,_⟩:=DataW.trod_bool hu z;refine⟨rfl,fun j W a => ?_⟩
    match j,a with
    | 0,a=>simp at a; subst a; exact⟨_,rfl,b,rfl⟩
    | j+1,a=>simp at a
   ·rename_i n e hu;obtain⟨I,S,h⟩:=Option.bind_eq_some_iff.1 h;split at h
    ·rename_i hc;simp only[Option.some.injEq]at h; subst h;obtain⟨Y,m,_,_,c,F,J⟩:=DataW.trod_array hu z;refine⟨by rw[c,hc.2]; simp,fun j k a => ?_⟩;obtain⟨r,A⟩:=CO n j a;have u:=J (j / I.length) A;rw[o_ (by omega),hc.1]at u;have:=FY (CP d e I S _ _ _ u) rfl r;rw[Nat.mul_comm,Nat.div_add_mod]at this;exact this
    ·cases h
   ·rename_i fs hu;obtain⟨l,c,h⟩:=Option.bind_eq_some_iff.1 h;split at h
    ·rename_i hc;simp only[Option.some.injEq]at h; subst h;obtain⟨Y,m,_,_,T,F,K⟩:=DataW.trod_struct hu z;refine⟨by rw[T,hc],?_⟩;have M : ∀ f,f∈fs.toList -> ∃ y,DataW.trod enc P w base spare held m f.type ((p.drop f.offset).take (P.cellsOf f.type))=some y:=by
      intro f N;obtain⟨i,u,e⟩:=List.mem_iff_getElem.1 N;have E:i<fs.size:=(by simpa using u);have r:fs[i]? = some f:=(by rw[Array.getElem?_eq_getElem E]; simpa using e);have:=K i f r;rw[o_ (by rw[F]; exact E)]at this;exact⟨_,this⟩
     have X : ∀(L:List Field) (o:List (Option IntKind)),(∀ f,f∈L -> ∃ y,DataW.trod enc P w base spare held m f.type ((p.drop f.offset).take (P.cellsOf f.type))=some y)->(∀(j:Nat) (k:Option IntKind),o[j]? = some k -> ∃ v,p[j]? = some v/\RA k v) -> ∀ l,L.foldlM (fun l f=>(yH P d f.type).bind fun q=>if f.offset=l.length/\P.cellsOf f.type=q.length then some (l++q)else none) o=some l -> ∀(j:Nat) (k:Option IntKind),l[j]? = some k -> ∃ v,p[j]? = some v/\RA k v:=by
      intro L
      induction L with
      | nil=>intro o _ B l c; simp at c; subst c; exact B
      | cons f L ih =>
        intro o D B l c;rw[List.foldlM_cons]at c;obtain⟨Z,r,A⟩:=Option.bind_eq_some_iff.1 c;obtain⟨G,R,s⟩:=Option.bind_eq_some_iff.1 r;split at s
        ·rename_i hcc;simp only[Option.some.injEq]at s; subst s;refine ih (o++G) (fun g O=>D g (List.mem_cons_of_mem _ O)) (fun j k a => ?_) l A;by_cases Q:j<o.length
         ·rw[List.getElem?_append_left Q]at a; exact B j k a
         ·rw[List.getElem?_append_right (by omega)]at a;obtain⟨y,V⟩:=D f (List.mem_cons_self ..);have:=FY (CP d f.type G R _ _ _ V) hcc.2 a;rw[hcc.1,show o.length+(j-o.length)=j by omega]at this;exact this
        ·cases s
     exact X fs.toList [] M (fun j k a=>by simp at a) l c
    ·cases h
   ·cases h
end
section
variable {H:Type} {enc:TypeId × Value->H} {P:Program} {w:World} {base:Nat} {spare:Nat->Bool} {held:Bool}
theorem Q7{t e:TypeId}{ks:List (Option IntKind)}{fuel D:Nat}{cs:List Value}{x:DataW H × List MemPlace}(S:P.underlying t=some (.slice e))(O:yH P D e=some ks)(F:P.cellsOf e=ks.length)(C:0<ks.length)
 (h:DataW.trod enc P w base spare held fuel t cs=some x) : ∃ a c l,cs = [.slice a c l]/\c<=maxLen/\c<=l /\ ∃ X:Nat->Nat->Value,(∀ i,i<c -> ∀(j:Nat) (k:Option IntKind),ks[j]? = some k->RA k (X i j))/\Fx.mY w a c ks.length (Fx.flat ks.length X):=by
 rcases open_slice S h with ⟨rfl,_⟩|⟨a',c,l,m,n,D',Pl,rfl,_,hl,hm,hmm,_,hx⟩
 ·exact⟨none,0,0,rfl,by unfold maxLen; omega,A_ _,fun _ _=>undef,fun i d=>M_ d (by omega),fun h=>M_ h (by omega)⟩
 have W:c<=m:=by rw[hmm]; split <;> omega
 have r : ∀ i j:Nat,∃ q:Value,i<c -> ∀ k,ks[j]? = some k->w.cell? (a'.add (i*ks.length+j))=some q/\RA k q:=by
  intro i j;by_cases d:i<c/\j<ks.length
  ·obtain⟨U,A,J⟩:=hx i (by omega);rw[F]at A;obtain⟨_,V,M⟩:=World.cells?_some A;obtain⟨q,y,z⟩:=(CP _ _ _ O _ _ _ J).2 j _ (o_ d.2);refine⟨q,fun _ k v => ?_⟩;rw[o_ d.2,Option.some.injEq]at v;subst v;have E:=M j (by omega);rw[add_add]at E;exact⟨by rw[<- y]; simpa using E,z⟩
  ·refine⟨undef,fun y k z=>M_ ⟨y,(List.getElem?_eq_some_iff.1 z).1⟩ d⟩
 refine⟨some a',c,l,rfl,by omega,hl,fun i j=>Classical.choose (r i j),fun i d j k v=>(Classical.choose_spec (r i j) d k v).2,fun K => ?_⟩;have G:a'.add (0*ks.length+0)=a':=by unfold Addr.add; simp
 obtain⟨Z,L⟩:=r 0 0;have Q:=o_ C;have B:=(L K _ Q);have g:=B.1;rw[G]at g;have o : ∃ b f,a'=⟨b,f,none⟩:=by
  have u:=B.2;unfold RA at u;split at u
  ·obtain⟨Y,rfl,_⟩:=u; exact Q6 g
  ·obtain⟨T,rfl⟩:=u;unfold World.cell? at g
   cases a' with
   | mk b f sp =>
     cases sp with
     | none=>exact⟨b,f,rfl⟩
     | some s=>simp at g; split at g <;> simp_all
 obtain⟨b,f,o⟩:=o;refine⟨b,f,by rw[o],fun p R => ?_⟩;have N:p % ks.length<ks.length:=J_ _ C;have d:p / ks.length<c:=Nat.div_lt_of_lt_mul (by rw[Nat.mul_comm]; exact R);have:=(Classical.choose_spec (r (p / ks.length) (p % ks.length)) d _ (o_ N)).1;have I:a'.add (p / ks.length*ks.length+p % ks.length)=⟨b,f+p,none⟩:=by rw[o,addr_add,Nat.mul_comm,Nat.div_add_mod]
 exact(L_ w.cell? I).symm.trans this
end
section
variable {H:Type} {enc:TypeId × Value->H} {P:Program} {w:World}
theorem mY.uQ{w:World}{a:Option Addr}{n s:Nat}{x y:Nat->Value}(h:Fx.mY w a n s x)(e : ∀ p,p<n*s->x p=y p):Fx.mY w a n s y:=fun f=>by
 obtain⟨b,j,d,g⟩:=h f;exact⟨b,j,d,fun i c=>by rw[<- e i c]; exact g i c⟩
end
end Go.Proofs.YtcbedgfikejkoaaGreatDoor
namespace Go.Proofs.YtcbedgfikejkoaaGreatDoor
open Go.RowKit Rt
open Fx (Lv sN Ln Ws Qv Wl Wr Sb Wk Wb Wx Wo Qn yK zk gP zl wX zi rv aA aR bK ev Stp flat dD bG mY bJ cells_one iP iF bR bZ cu gL ig)
namespace Rt
def NS(L:eY)(c:Option Addr)(d:Nat)(a:Option Addr)(b:Nat):DR:=⟨L.inn,L.left,L.known,c,L.nn,d,a,L.gn,b⟩
def VX(L:eY):Nat->Nat->Value:=fun k=>mG (L.id k) (L.par k) (L.R k)
def VY(L:eY):Nat->Nat->Value:=fun k=>jm (L.g k)
structure LWf(L:eY):Prop where
 n : ∀ k,k<L.nn->iA (L.id k)/\iA (L.par k) /\ ∀ p,p<54->pV (L.R k p)
 g : ∀ k,k<L.gn->pV (L.g k 0)/\iA (L.g k 1)/\iA (L.g k 2)/\pV (L.g k 3)/\iA (L.g k 4)
 k : ∀ i,i<6->iA (L.known i)
 bn:L.nn<=900000
 bg:L.gn<=900000
theorem aen{n:Int}(h:iA n):(Lit.int .u64 n).wf=true:=Fx.tC h
theorem apX{n:Int}(h:pV n):(Lit.int .i64 n).wf=true:=Fx.RQ h
theorem LM{n:Int}(h:iA n):oz (some .u64) (.int .u64 n)=some (.int .u64 n):=by simp[oz,aen h]
theorem VZ{n:Int}(h:pV n):oz (some .i64) (.int .i64 n)=some (.int .i64 n):=by simp[oz,apX h]
theorem Er(b:Nat->Bool):Fx.Kd (List.replicate 6 none) (fun j => .bool (b j)):=fun i a=>⟨.bool (b i),by rw[List.getElem_replicate]; rfl⟩
theorem aaz{id par:Int}{R:Nat->Int}(h:iA id/\iA par /\ ∀ p,p<54->pV (R p)):Fx.Kd (some .u64::some .u64::List.replicate 54 (some .i64)) (mG id par R):=fun i a=>by
 match i,a with
 | 0,_=>exact⟨_,LM h.1⟩
 | 1,_=>exact⟨_,LM h.2.1⟩
 | i+2,a =>
   have b:i<54:=(by simp at a; omega);have e:(some IntKind.u64::some IntKind.u64::List.replicate 54 (some IntKind.i64))[i+2]=some .i64:=(by rw[List.getElem_cons_succ,List.getElem_cons_succ,List.getElem_replicate]);rw[e,Na _ _ _ (p:=i) rfl];exact⟨_,VZ (h.2.2 i b)⟩
theorem aaA{x:Nat->Int}(h:pV (x 0)/\iA (x 1)/\iA (x 2)/\pV (x 3)/\iA (x 4)):Fx.Kd [some .i64,some .u64,some .u64,some .i64,some .u64] (jm x):=fun i a=>by
 match i,a with
 | 0,_=>exact⟨_,VZ h.1⟩
 | 1,_=>exact⟨_,LM h.2.1⟩
 | 2,_=>exact⟨_,LM h.2.2.1⟩
 | 3,_=>exact⟨_,VZ h.2.2.2.1⟩
 | 4,_=>exact⟨_,LM h.2.2.2.2⟩
theorem LWf.of{L:eY}{N:Nat}(a:Inv0 L N)(o:Al L)(m:xJ L)(A:N<=900000):LWf L where
 n:=fun k c=>by
  have y:=a.pos k c;have z:=a.top k c;have f:=lV (a.may k c);refine⟨⟨by omega,by omega⟩,?_,fun p r=>by have:=f p r; exact⟨by omega,by omega⟩⟩
  rcases a.up k c with e|⟨j,b,e⟩
  ·rw[e]; exact⟨by omega,by omega⟩
  ·have h:=a.pos j b;have l:=a.top j b;rw[<- e]; exact⟨by omega,by omega⟩
 g:=fun k c=>by
  obtain⟨d,u,v,w,x⟩:=o.gb k c;obtain⟨s,t⟩:=m.wf k c;obtain⟨j,b,e⟩:=gZ.1 d;rw[a.BH]at b;rw[(a.tid j b).1]at e;have h:=a.pos j b;have l:=a.top j b;exact⟨⟨by omega,by omega⟩,s,by rw[<- e]; exact⟨by omega,by omega⟩,⟨by omega,by omega⟩,t⟩
 k:=fun i q=>by have:=a.kn i q; exact⟨by omega,by omega⟩
 bn:=by have:=a.nn; omega
 bg:=by have:=a.gn; omega
end Rt
structure JZ(w:World)(s:DR)(L:eY):Prop where
 e:s=NS L s.na s.nc s.ga s.gc
 n:mY w s.na L.nn 56 (flat 56 (VX L))
 g:mY w s.ga L.gn 5 (flat 5 (VY L))
theorem JZ.up{w w':World}{s:DR}{L:eY}(h:JZ w s L)(a:Below w.heap.size w w'):JZ w' s L:=⟨h.e,h.n.up a rfl,h.g.up a rfl⟩
instance {w w':World} {s:DR} {L:eY}:Rt.Tr w w' (JZ w s L) (JZ w' s L):=⟨fun b h=>h.up b⟩
theorem JZ.ldg{w:World}{p:Nat}{m:kR}(h:Cb w p m):JZ w m.s m.core:=⟨rfl,h.an,h.ag⟩
theorem JZ.of{w:World}{B:Nat}{m:dO}{s:DR}{l:List Int}{p:List JC}{L:eY}{N:Nat}(h:StQ w B m s l p)(d:fP m L)(r:Inv0 L N)(q:xJ L):JZ w s L:=by
 have e:=StC.of d r q h.ls h.gs;have f:s.nn=L.nn:=by rw[h.nn,e.nn]
 have i:s.gn=L.gn:=by rw[h.gn,e.gn]
 refine⟨?_,?_,?_⟩
 ·cases s
  unfold NS;have a:=h.inn;have b:=h.left;have c:=h.known;simp only at a b c f i ⊢;rw[a,b,c,d.inn,d.left,d.known,f,i]
 ·have:=h.n.arr;rw[f]at this;refine mY.uQ this<|bJ fun k o j _ => ?_;obtain⟨a,b,c⟩:=e.n k o;unfold VR VX;rw[b,c,a]
 have:=h.g.arr;rw[i]at this;refine mY.uQ this<|bJ fun k o j _ => ?_;unfold Xg VY;rw[e.g k o]
theorem aeo(L:eY)(t A m x:Option Addr)(u B o y:Nat)(w:World)(l:LWf L)(hN1:mY w t L.nn 56 (flat 56 (VX L)))(hN2:mY w A L.nn 56 (flat 56 (VX L)))(hG1:mY w m L.gn 5 (flat 5 (VY L)))(hG2:mY w x L.gn 5 (flat 5 (VY L))) :
 Calls Tryz.prog 17 #[.agg (aA 20 (nQ (NS L t u m o))),.agg (aA 20 (nQ (NS L A B x y)))] w fun e w'=>e = .returned (.bool true)/\Below w.heap.size w w':=by
 have hbn:=l.bn;have hbg:=l.bg;refine Kent Tryz.func17 80 ?_;refine ay<|pR fun c w1 mo S s1 z1 => ?_;have V:=bE s1.old (Below.refl w.heap.size w);have sM:=gT mo;have ug:=S.lt;refine pR fun d w2 ae s s2 z2 => ?_;have⟨z,b2⟩:=fq s2.old S V;have ru:=iQ ae V.size;have KE:=cK ae S.lt;have zK:=s.lt;refine av aF<|aD<|Ws<|ay<|av (pt c)<|Lv (.agg (aA 6 (fun j => .bool (L.inn j)))) (fD z.aH 0 (fun j h=>by rw[G_]; exact Ad _ h))<|av (pt d)<|Lv (.agg (aA 6 (fun j => .bool (L.inn j)))) (fD s.aH 0 (fun j h=>by rw[G_]; exact Ad _ h))<|Lv aF (Fx.EF (n:=6) (ks:=List.replicate 6 none) (X:=fun j => .bool (L.inn j)) (Y:=fun j => .bool (L.inn j)) 12 true rfl rfl rfl (Fx.Dz (fun _ _=>rfl)) (Er _) (Er _) rfl (by kernel_rfl) (by kernel_rfl) (by kernel_rfl) (by kernel_rfl) (by kernel_rfl))<|av aF<|av (pf c 6)<|Lv (.agg (aA 6 (fun j => .bool (L.left j)))) (fD z.aH 6 (fun j h=>Ba (p:=j) _ h (by omega)))<|av (pf d 6)<|Lv (.agg (aA 6 (fun j => .bool (L.left j)))) (fD s.aH 6 (fun j h=>Ba (p:=j) _ h (by omega)))<|Lv aF (Fx.EF (n:=6) (ks:=List.replicate 6 none) (X:=fun j => .bool (L.left j)) (Y:=fun j => .bool (L.left j)) 12 true rfl rfl rfl (Fx.Dz (fun _ _=>rfl)) (Er _) (Er _) rfl (by kernel_rfl) (by kernel_rfl) (by kernel_rfl) (by kernel_rfl) (by kernel_rfl))<|av aF<|av aF<|av (pf c 12)<|Lv (.agg (aA 6 (rv .u64 L.known))) (fD z.aH 12 (fun j h=>jO (p:=j) _ h (by omega)))<|av (pf d 12)<|Lv (.agg (aA 6 (rv .u64 L.known))) (fD s.aH 12 (fun j h=>jO (p:=j) _ h (by omega)))<|Lv aF (Fx.EF (n:=6) (ks:=List.replicate 6 (some .u64)) (X:=rv .u64 L.known) (Y:=rv .u64 L.known) 12 true rfl rfl rfl (Fx.Dz (fun _ _=>rfl)) (Fx.J6 fun i Q=>aen (l.k i Q)) (Fx.J6 fun i Q=>aen (l.k i Q)) rfl (by kernel_rfl) (by kernel_rfl) (by kernel_rfl) (by kernel_rfl) (by kernel_rfl))<|av aF<|av aF<|av (pf c 18)<|Lv (.slice t (L.nn) (u)) (aM z.aH 18)<|av (au L.nn)<|av (pf d 18) ?_;refine Lv (.slice A (L.nn) (B)) (aM s.aH 18)<|av (au L.nn)<|Lv aF (jQ rfl)<|av aF<|av aF<|av (pf c 19)<|Lv (.slice m (L.gn) (o)) (aM z.aH 19)<|av (au L.gn)<|av (pf d 19)<|Lv (.slice x (L.gn) (y)) (aM s.aH 19)<|av (au L.gn)<|Lv aF (jQ rfl)<|av aF<|aD<|aK<|Wk<|sN<|Ws<|ay<|av (au 0)<|aD<|Wb<|Wo (fun f v => ∃ k:Nat,k<=L.nn/\f 2=(pt c)/\f 3=(pt d)/\f 5=au (k:Int)/\aR v c 20 (nQ (NS L t u m o)) 50/\aR v d 20 (nQ (NS L A B x y)) 50/\Below w.heap.size w v) (fun f _=>(L.nn-(intOf (f 5)).toNat)) ⟨0,by omega,(by rfl),(by rfl),Fx.ic,z,s,b2⟩ ?_;rintro f1 C ⟨k,hk,J,O,E,K,U,H⟩;refine Ws<|ay<|bf E<|Lv (pf c 18) (jD J 18)<|Lv (.slice t (L.nn) (u)) (aM K.aH 18)<|av (au L.nn) ?_;by_cases ac:(k:Int)<(L.nn:Int)
 ·refine Lv aG (iq ac)<|aD<|aO<|Wk<|sN<|Ws<|Wb<|Ws ?_;refine uO<|Qv (pf c 18) (fun b a=>jD J 18)<|Qv (.slice t (L.nn) (u)) (fun b a=>aM (K.aH.dr a) 18)<|dZ E ?_;obtain⟨W,oq1,eq1,m6⟩:=(hN1.up H rfl) (by omega);have ahf:W<C.heap.size:=m6.lt (by omega);refine Qv (pf W (56*k+oq1)) (fun b a=>dh 56 (hx:=(rfl.trans (L_ (fun q=>Value.slice q (L.nn) (u)) eq1))))<|Qv (.agg (aA 56 (VX L k))) (fun b a=>fD (m6.dr a) (56*k) (fun R r=>Fx.jJ (k:=k) (by omega) r))<|Qv (pf d 18) (fun b a=>jD O 18)<|Qv (.slice A (L.nn) (B)) (fun b a=>aM (U.aH.dr a) 18)<|dZ E ?_;obtain⟨Z,oq2,Gy,m7⟩:=(hN2.up H rfl) (by omega);have aqa:Z<C.heap.size:=m7.lt (by omega);refine Qv (pf Z (56*k+oq2)) (fun b a=>dh 56 (hx:=(rfl.trans (L_ (fun q=>Value.slice q (L.nn) (B)) Gy))))<|Qv (.agg (aA 56 (VX L k))) (fun b a=>fD (m7.dr a) (56*k) (fun R r=>Fx.jJ (k:=k) (by omega) r))<|Qv aF (fun b a=>Fx.EF (n:=56) (ks:=((some .u64)::(some .u64)::List.replicate 54 (some .i64))) (X:=VX L k) (Y:=VX L k) 12 true rfl rfl rfl (Fx.Dz (fun _ _=>rfl)) (aaz (l.n k (by omega))) (aaz (l.n k (by omega))) rfl (by kernel_rfl) (by kernel_rfl) (by kernel_rfl) (by kernel_rfl) (by kernel_rfl))<|Qn ?_;rintro _ ⟨G,rfl⟩;obtain⟨BZ,M⟩ : ∃ b,b=World.drewN C G:=⟨_,rfl⟩;rw[<- M];have s3:Stp C.heap.size C BZ:=by rw[M]; exact Sb (je C G)
  have⟨m8,m9,b4⟩:=iy s3.old K U H;clear M;refine sN<|aK<|Wk<|bR<|sN<|Wl<|bf E<|Lv (au ((k:Int)+1)) fC<|av (au ((k:Int)+1))<|Ln<|ig ⟨k+1,by omega,J,O,Fx.ic,m8,m9,b4⟩ ?_;show(L.nn-(intOf (au ((k:Int)+1))).toNat)<_;simp only[E,intOf]; omega
 refine Lv aF (iw ac)<|aD<|aK<|Wx<|bZ<|gL<|cu<|sN<|Ws<|ay<|av (au 0)<|aD<|Wb<|Wo (fun f v => ∃ k:Nat,k<=L.gn/\f 2=(pt c)/\f 3=(pt d)/\f 6=au (k:Int)/\aR v c 20 (nQ (NS L t u m o)) 50/\aR v d 20 (nQ (NS L A B x y)) 50/\Below w.heap.size w v) (fun f _=>(L.gn-(intOf (f 6)).toNat)) ⟨0,by omega,J,O,Fx.ic,K,U,H⟩ ?_;rintro f2 D ⟨k,hk,P,h5,F,T,m13,I⟩;refine Ws<|ay<|bf F<|Lv (pf c 19) (jD P 19)<|Lv (.slice m (L.gn) (o)) (aM T.aH 19)<|av (au L.gn) ?_;by_cases ad:(k:Int)<(L.gn:Int)
 ·refine Lv aG (iq ad)<|aD<|aO<|Wk<|sN<|Ws<|Wb<|Ws ?_;refine uO<|Qv (pf c 19) (fun b a=>jD P 19)<|Qv (.slice m (L.gn) (o)) (fun b a=>aM (T.aH.dr a) 19)<|dZ F ?_;obtain⟨aa,oq3,Xf,m14⟩:=(hG1.up I rfl) (by omega);have aqb:aa<D.heap.size:=m14.lt (by omega);refine Qv (pf aa (5*k+oq3)) (fun b a=>dh 5 (hx:=(rfl.trans (L_ (fun q=>Value.slice q (L.gn) (o)) Xf))))<|Qv (.agg (aA 5 (VY L k))) (fun b a=>fD (m14.dr a) (5*k) (fun R r=>Fx.jJ (k:=k) (by omega) r))<|Qv (pf d 19) (fun b a=>jD h5 19)<|Qv (.slice x (L.gn) (y)) (fun b a=>aM (m13.aH.dr a) 19)<|dZ F ?_;obtain⟨ab,oq4,eq4,m15⟩:=(hG2.up I rfl) (by omega);have awz:ab<D.heap.size:=m15.lt (by omega);refine Qv (pf ab (5*k+oq4)) (fun b a=>dh 5 (hx:=(rfl.trans (L_ (fun q=>Value.slice q (L.gn) (y)) eq4))))<|Qv (.agg (aA 5 (VY L k))) (fun b a=>fD (m15.dr a) (5*k) (fun R r=>Fx.jJ (k:=k) (by omega) r))<|Qv aF (fun b a=>Fx.EF (n:=5) (ks := [(some .i64),(some .u64),(some .u64),(some .i64),(some .u64)]) (X:=VY L k) (Y:=VY L k) 12 true rfl rfl rfl (Fx.Dz (fun _ _=>rfl)) (aaA (l.g k (by omega))) (aaA (l.g k (by omega))) rfl (by kernel_rfl) (by kernel_rfl) (by kernel_rfl) (by kernel_rfl) (by kernel_rfl))<|Qn ?_;rintro _ ⟨G,rfl⟩;obtain⟨wq2,N⟩ : ∃ b,b=World.drewN D G:=⟨_,rfl⟩;rw[<- N];have s4:Stp D.heap.size D wq2:=by rw[N]; exact Sb (je D G)
  have⟨m16,m17,b6⟩:=iy s4.old T m13 I;clear N;refine sN<|aK<|Wk<|bR<|sN<|Wl<|bf F<|Lv (au ((k:Int)+1)) fC<|av (au ((k:Int)+1))<|Ln<|ig ⟨k+1,by omega,P,h5,Fx.ic,m16,m17,b6⟩ ?_;show(L.gn-(intOf (au ((k:Int)+1))).toNat)<_;simp only[F,intOf]; omega
 refine Lv aF (iw ad)<|aD<|aK<|Wx<|bZ<|gL<|cu<|sN<|ay<|av aG<|aD<|Wr<|aJ aG ?_;exact⟨rfl,I⟩
theorem Y8{w:World}{b c:DR}{L:eY}(h1:JZ w b L)(a:JZ w c L)(d:LWf L):Calls Tryz.prog 17 #[.agg (aA 20 (nQ b)),.agg (aA 20 (nQ c))] w fun e w'=>e = .returned (.bool true)/\Below w.heap.size w w':=by
 rw[h1.e,a.e];exact aeo L _ _ _ _ _ _ _ _ w d h1.n a.n h1.g a.g
namespace Rt
def Ms(x y:Value):Nat->Value:=fun q=>if q=0 then x else y
theorem ahQ(x y v:Value):dD (Ms x y) 0 v=Ms v y:=by funext q; unfold dD Ms; split <;> rfl
theorem ahR(x y v:Value) : ∀ j,j<2->dD (Ms x y) 1 v j=Ms x v j:=fun j a=>by
 unfold dD Ms
 rcases j with _|_|j
 ·rfl
 ·rfl
 ·omega
def GD(a:Nat->Nat):Nat->Value:=fun i=>(pt (a i))
def Iq(w:World)(B n:Nat)(b:Nat->Nat)(a:Nat->kR):Prop := ∀ i,i<n->um w B (b i) (a i)
theorem Iq.up{w w':World}{B n:Nat}{b:Nat->Nat}{a:Nat->kR}(h:Iq w B n b a)(c:Below w.heap.size w w'):Iq w' B n b a:=fun i d=>(h i d).up c
instance {w w':World} {B n:Nat} {c:Nat->Nat} {a:Nat->kR}:Rt.Tr w w' (Iq w B n c a) (Iq w' B n c a):=⟨fun b h=>h.up b⟩
theorem Iq.kN{w w':World}{B n:Nat}{c:Nat->Nat}{b:Nat->kR}{a:List TypeId}(h:Iq w B n c b)(e:iP a w w')(f:(KQ.all fun T => !a.contains T)=true):Iq w' B n c b:=fun i d=>(h i d).kN e f
instance {w w':World} {B n:Nat} {d:Nat->Nat} {c:Nat->kR} {a:List TypeId}:Rt.Tc a w w' (Iq w B n d c) (Iq w' B n d c) (KQ.all fun T => !a.contains T):=⟨fun b h e=>h.kN b (by simpa using e)⟩
theorem Iq.put{w:World}{B n o p:Nat}{b:Nat->Nat}{a:Nat->kR}{m:kR}(h:Iq w B n b a)(d:um w B p m):Iq w B n (aI b o p) (aI a o m):=fun i c=>by
 unfold aI;by_cases e:i=o
 ·rw[d_ e,d_ e]; exact d
 ·rw[b_ e,b_ e]; exact h i c
theorem Iq.snoc{w:World}{B n p:Nat}{b:Nat->Nat}{a:Nat->kR}{m:kR}(h:Iq w B n b a)(c:um w B p m):Iq w B (n+1) (aI b n p) (aI a n m):=fun i d=>by
 unfold aI;by_cases e:i=n
 ·rw[d_ e,d_ e]; exact c
 ·rw[b_ e,b_ e]; exact h i (by omega)
theorem aer{n p:Nat}{a:Nat->Nat}{z:Nat->Value} : ∀ j,j<(n+1)*1->iF (GD a) (n*1) (bK z (0*1) 1 (fun _=>(pt p))) j=GD (aI a n p) j:=by
 intro j b;unfold iF GD aI;by_cases h:j<n*1
 ·rw[d_ h,b_ (by omega)]
 rw[b_ h,d_ (by omega)];unfold bK;rw[d_ (by omega)]
theorem V4{o p:Nat}{a:Nat->Nat}:dD (GD a) o (pt p)=GD (aI a o p):=by
 funext j; unfold dD GD aI
 by_cases h:j=o
 ·rw[d_ h,d_ h]
 rw[b_ h,b_ h]
theorem aes{n:Nat}{e:Nat->EvM}{v:EvM}{z:Nat->Value} : ∀ j,j<(n+1)*14->iF (evX e) (n*14) (bK z (0*14) 14 (bM v)) j=evX (aI e n v) j:=fun j a =>
 (Fx.xR j a).trans (bJ (fun i _ q _=>by unfold Fx.qR aI; split <;> rfl) j a)
structure WM where
 n:Nat
 la:Option Addr
 lc:Nat
 pl:Nat->Nat
 ml:Nat->kR
 an:Nat
 aa:Option Addr
 ac:Nat
 ev:Nat->EvM
end Rt
structure oo(w:World)(B p:Nat)(M:WM)(T:Nat):Prop where
 c:aR w p 2 (Ms (.slice M.la M.n M.lc) (.slice M.aa M.an M.ac)) 78
 l:Fx.Own w B 29 1 (.slice M.la M.n M.lc) M.n (GD M.pl)
 a:Fx.Own w B 37 14 (.slice M.aa M.an M.ac) M.an (evX M.ev)
 g:Iq w B M.n M.pl M.ml
 inv : ∀ i,i<M.n->Inv (M.ml i).core T
 wf : ∀ k,k<M.an->gu (M.ev k)
 may : ∀ k,k<M.an->bQ (M.ev k)=true
 sm : ∀ k,k<M.an->ow (M.ev k)
 cz:Cz M.n M.an M.ev fun o=>(M.ml o).s.known
 pB:B<=p
 n1:1<=M.n
 n6:M.n<=6
def aeu:List Nat := [78,29,37]++KQ
theorem oo.up{w w':World}{B p T:Nat}{M:WM}(h:oo w B p M T)(b:Below w.heap.size w w'):oo w' B p M T := { h with c:=h.c.cO (Sb b) (u_ h.c.lt),l:=h.l.up b,a:=h.a.up b,g:=h.g.up b }
instance {w w':World} {B p T:Nat} {M:WM}:Rt.Tr w w' (oo w B p M T) (oo w' B p M T):=⟨fun b h=>h.up b⟩
theorem oo.kN{w w':World}{B p T:Nat}{M:WM}{e:List TypeId}(h:oo w B p M T)(b:iP e w w')(j:(aeu.all fun T => !e.contains T)=true):oo w' B p M T:=by
 have i : ∀ d∈aeu,e.contains d=false:=fun d f=>by
  have:=List.all_eq_true.1 j d f
  simpa using this
 exact { h with c:=h.c.kN b (i _ (by decide)),l:=h.l.kN b (i _ (by decide)),a:=h.a.kN b (i _ (by decide)),g:=h.g.kN b (List.all_eq_true.2 fun T f=>List.all_eq_true.1 j T (List.mem_append_right _ f)) }
instance {w w':World} {B p T:Nat} {M:WM} {a:List TypeId}:Rt.Tc a w w' (oo w B p M T) (oo w' B p M T) (aeu.all fun T => !a.contains T):=⟨fun b h e=>h.kN b (by simpa using e)⟩
theorem Y9{w:World}{B p k a:Nat}(d:aR w p 27 (lZ (kH k a)) 56)(f:aR w a 1 (fun _ => .slice none 0 0) 156)(h1:B<=p)(b:B<=a):um w B p (kH k a) where
 c:=d
 n:=wX _ _ _ _ _
 g:=wX _ _ _ _ _
 tc:=f
 t:=wX _ _ _ _ _
 r:=⟨fun _ _=>wX _ _ _ _ _,fun _ _ _ _ _ _ e=>by cases e⟩
 pB:=h1
 tB:=b
 bn:=K_ _
 bg:=K_ _
 bt:=K_ _
 br:=fun _ _=>K_ _
theorem Rt.Bv(k a:Nat):Inv (kH k a).core 0 where
 BH:=rfl
 nn:=K_ _
 tid:=fun _ h=>M_ h (z_ _)
 rise:=fun _ _ _ h=>M_ h (z_ _)
 pos:=fun _ h=>M_ h (z_ _)
 top:=fun _ h=>M_ h (z_ _)
 up:=fun _ h=>M_ h (z_ _)
 dep:=fun _=>⟨0,K_ _,by show(-1:Int)<0; decide⟩
 gn:=A_ _
 rn:=fun _ _=>A_ _
 may:=fun _ h=>M_ h (z_ _)
 g47:=fun _ h=>M_ h (z_ _)
 kn:=fun _ _=>⟨N_ _,by show(0:Int)<_; decide⟩
 s:=⟨fun _ h=>M_ h (z_ _),fun _ h=>M_ h (z_ _)⟩
 b:=⟨fun _ _=>N_ _,fun _ h=>M_ h (z_ _),fun _ _ _ h=>M_ h (z_ _)⟩
set_option maxRecDepth 20000 in
theorem NT(n:Nat)(w:World)(V:1<=n)(W:n<=6) :
 Calls Tryz.prog 27 #[au (n:Int)] w fun e w' => ∃ p M,e = .returned (pt p)/\M.n=n/\M.an=0/\(∀ i,(M.ml i).core=(kH n 0).core)/\oo w' w.heap.size p M 0/\Below w.heap.size w w':=by
 refine Kent Tryz.func27 30 ?_;refine ay<|av (.pointer none)<|aD<|ay<|av (.agg (aA 2 (fun _ => .slice none 0 0)))<|pR fun b P mo X s1 z1 => ?_;have b1:=bE s1.old (Below.refl w.heap.size w);have sM:=gT mo;have ug:=X.lt;refine av (pt b)<|aD<|Ws<|ay<|av (au 0)<|aD<|Wb ?_;have m2:aR P b 2 (Ms (.slice none 0 0) (.slice none 0 0)) 78:=X.congr (fun j _=>by unfold Ms; split <;> rfl)
 have m3:Fx.Own P w.heap.size 29 1 (.slice none 0 0) 0 (GD (fun _=>0)):=wX _ _ _ _ _;have m4:Iq P w.heap.size 0 (fun _=>0) (fun _=>kH n 0):=fun _ h=>M_ h (z_ _);refine Wo (fun f G => ∃ k:Nat,∃ a:Option Addr,∃ u:Nat,∃ t:Nat->Nat,∃ r:Nat->kR,k<=n/\(∀ i,∃ z,r i=kH n z)/\f 0=au (n:Int)/\f 3=(pt b)/\f 4=au (k:Int)/\aR G b 2 (Ms (.slice a k u) (.slice none 0 0)) 78/\Fx.Own G w.heap.size 29 1 (.slice a (k) (u)) k (GD t)/\Iq G w.heap.size k t r/\Below w.heap.size w G) (fun f _=>(n-(intOf (f 4)).toNat)) ⟨0,none,0,(fun _=>0),(fun _=>kH n 0),by omega,(fun _=>⟨0,rfl⟩),Fx.ic,(by rfl),Fx.ic,m2,m3,m4,b1⟩ ?_;rintro f1 w2 ⟨k,a,u,t,r,hk,F,J,E,K,m5,m6,m7,A⟩;refine Ws<|ay<|bf K<|bf J ?_;by_cases S:(k:Int)<(n:Int)
 ·refine Lv aG (iq S)<|aD<|aO<|Wk<|sN<|Ws<|Wb<|ay<|bf J<|mh (agv n _ V W) ?_;rintro e9 w3 ⟨d,O,T,hp3,_,hb3,hc3,ht3,aqc⟩;refine⟨.tuple #[(pt d),au 0],T,?_⟩;clear T;have⟨N,m9,m10,Q⟩:=kV hb3 m5 m6 m7 A;have hL1:um w3 w.heap.size d (kH n O):=Y9 hc3 ht3 (m_ A.size hp3) (m_ A.size aqc);refine av (.tuple #[(pt d),au 0])<|av (pt d)<|av (au 0)<|av (pt d)<|av (au 0)<|aD<|Wl<|bf E<|bf E<|av (pt b)<|av (pt b)<|Lv (.slice a (k) (u)) (aM N.aH 0)<|av (pt d)<|yK (vs := [(0,(pt d))]) (s:=1) (zc:=fun _ => .pointer none) (y:=bK (fun j => .pointer none) (0*1) 1 (fun _=>(pt d))) (by rfl) rfl rfl Tryz.underlying75 (by kernel_rfl) (by rfl) (by rfl) (by kernel_rfl) (by rw[bG (off:=0*1) (s:=1) (y:=fun _=>(pt d)) rfl (cells_one (by rfl)) (by rfl)]; rfl) rfl fun g2 w4 I Y s3 z2 => ?_;have⟨m12,L,m14,m15,H⟩:=qU s3.old N m9 m10 hL1 Q;have ru:=iQ I Q.size;have FK:=cK I N.lt;have Am:(.slice a (k) (u):Value).ownBlock≠some g2:=by rw[I]; exact m9.ko (A_ _)
  have zK:=Y.lt;refine zk (B:=w.heap.size) (s:=1) (bytes:=8) (k:=k) (m:=1) (v := .slice a (k) (u)) (x:=GD t) (by rfl) rfl rfl rfl Tryz.underlying75 (by kernel_rfl) (by kernel_rfl) rfl rfl L Y.aH (yS (fun _=>rfl)) (by omega) (by omega) (by omega) H.size fun D C w5 ho1 U wB hlt1 => ?_;have gV:=zl U L;have⟨Z,m18,m19⟩:=DF gV m12 m14 m15;have m16:Fx.Own w5 w.heap.size 29 1 (bO D (k+1) C) (k+1) (GD (aI t k d)):=(ho1.congr (fun j hj=>aer j hj));have R:Below w.heap.size w w5:=zi H U H.size (fun q hq=>(L.ge hq).1);refine av (pt b)<|av (pt b)<|jg Z 0 (bO D (k+1) C) fun w6 m20 s4 z3 => ?_;have m21:aR w6 b 2 (Ms (bO D (k+1) C) (.slice none 0 0)) 78:=m20.to (ahQ _ _ _);have ku:=gP s4 Z.ty;have⟨m22,m23,m24⟩:=DF ku m18 m19 m16;have b6:=s4.below R R.size (by omega);refine Ln<|bR<|sN<|Wl<|bf K<|Lv (au ((k:Int)+1)) fC<|av (au ((k:Int)+1))<|Ln ?_;have mQ:Iq w6 w.heap.size (k+1) (aI t k d) (aI r k (kH n O)):=m22.snoc m23
  skip
  refine ig ⟨k+1,(some ⟨D,0,none⟩),C,(aI t k d),(aI r k (kH n O)),by omega,(fun i=>by unfold aI; split <;> first|exact⟨_,rfl⟩|exact F i),(J.trans Fx.ic),E,Fx.ic,m21,m24,mQ,b6⟩ ?_
  show(n-(intOf (au ((k:Int)+1))).toNat)<_;simp only[K,intOf]; omega
 refine Lv aF (iw S)<|aD<|aK<|Wx<|bZ<|gL<|cu<|sN<|ay<|bf E<|av (pt b)<|aD<|Wr<|aJ (pt b) ?_;obtain rfl:k=n:=by omega
 exact⟨b,⟨k,a,u,t,r,0,none,0,fun _=>⟨0,0,fun _=>0,0,0,0,0,0,0⟩⟩,rfl,rfl,rfl,(fun i=>by obtain⟨z,e⟩:=F i; show(r i).core=_; rw[e]; rfl),{ c:=m5,l:=m6,a:=wX _ _ _ _ _,g:=m7,inv:=fun i _=>by obtain⟨z,e⟩:=F i; show Inv (r i).core 0; rw[e]; exact Bv k z,wf:=fun _ h=>M_ h (z_ _),may:=fun _ h=>M_ h (z_ _),sm:=fun _ h=>M_ h (z_ _),cz:=Cz.zero k (fun o _=>by obtain⟨z,e⟩:=F o; show(r o).s.known=_; rw[e]; rfl),pB:=sM,n1:=V,n6:=W },A⟩
end Go.Proofs.YtcbedgfikejkoaaGreatDoor
namespace Go.Proofs.YtcbedgfikejkoaaGreatDoor
open Go.RowKit Go Rt
namespace Rt
section
variable {L:eY} {N:Nat} {v:EvM}
theorem NU(b:Inv0 L N)(h:Al L):Al (bV L v):=by
 unfold bV;by_cases c:bA L v=0
 ·rw[d_ c];have a:=(Dj (iK c)).1;have d:dY L v=0:=by
   unfold bA at c;rw[b_ (by rw[a]; decide)]at c;split at c; · cases c
   split at c; · cases c
   split at c; · cases c
   exact c
  have:=H7 b h a d;exact⟨this.us,this.gb⟩
 rw[b_ c]; exact h
def eF(L:eY)(x i:Int):Int:=if L.node x<0 then 0 else fJ (L.R (L.node x).toNat) i
theorem NV(i:Int):fJ FU i=0:=by
 unfold fJ;by_cases c:(gW i&&may FU)=true
 ·rw[d_ c];rw[S_]at c;obtain⟨a,d,e,b⟩:=pI c.1;have:=uW (lV c.2) a d;rw[b,this]; rfl
 rw[b_ c]
theorem fP.local{m:dO}(h:fP m L)(a:Inv0 L N)(x i:Int):fJ (aZ m x) i=eF L x i:=by
 unfold aZ eF;by_cases c:L.node x<0
 ·rw[b_ (by rw[(h.LH a x).2 c]; decide),d_ c]; exact NV i
 rw[d_ ((h.node a x).2 (by omega)),b_ c,h.rk a (by omega)]
structure Ir(m m':dO):Prop where
 et:m'.tp=m.tp
 em:m'.mb=m.mb
 ep:m'.pb=m.pb
 er:m'.rb=m.rb
 eg:m'.gb=m.gb
 ea:m'.ab=m.ab
theorem Ir.refl(m:dO):Ir m m:=⟨rfl,rfl,rfl,rfl,rfl,rfl⟩
theorem Ir.trans{a b c:dO}(h:Ir a b)(k:Ir b c):Ir a c:=⟨k.et.trans h.et,k.em.trans h.em,k.ep.trans h.ep,k.er.trans h.er,k.eg.trans h.eg,k.ea.trans h.ea⟩
end
end Rt
structure xK(w:World)(B lp:Nat)(m:dO)(L:eY)(N:Nat):Prop where
 q:lN w B lp m
 s:fP m L
 i:Inv0 L N
 u:Al L
 g:xJ L
section
variable {w w':World} {B lp:Nat} {m:dO} {L:eY} {N:Nat} {v:EvM}
theorem xK.up(h:xK w B lp m L N)(a:Below w.heap.size w w'):xK w' B lp m L N := { h with q:=h.q.up a }
instance:Rt.Tr w w' (xK w B lp m L N) (xK w' B lp m L N):=⟨fun b h=>h.up b⟩
theorem xK.kN{a:List TypeId}(h:xK w B lp m L N)(b:Fx.iP a w w')(c:(a.contains 114 || a.contains 165)=false):xK w' B lp m L N := { h with q:=h.q.kN b c }
instance {a:List TypeId}:Rt.Tc a w w' (xK w B lp m L N) (xK w' B lp m L N) (!(a.contains 114 || a.contains 165)):=⟨fun b h e=>h.kN b (by simpa using e)⟩
theorem xK.weak{a:Nat}(h:xK w B lp m L N)(b:a<=B):xK w a lp m L N := { h with q:=h.q.weak b }
theorem xK.mono{N':Nat}(h:xK w B lp m L N)(a:N<=N'):xK w B lp m L N' := { h with i:=h.i.mono a }
theorem xK.wf(h:xK w B lp m L N)(a:N<=900000):LWf L:=LWf.of h.i h.u h.g a
theorem lN.CQ(h:lN w B lp m)(a:Fx.jV (U1 m lp w.heap.size) w w')(c:B<=w.heap.size):Below B w w':=⟨a.os,a.tape,a.output,a.size,fun k d=>a.block k (by omega) fun b=>by
 rcases b with b|b
 ·have:=(h.ltS b).1; omega
 ·omega⟩
theorem lN.typed(h:lN w B lp m)(d:Fx.jV (U1 m lp w.heap.size) w w'):Fx.xD [114] w w':=⟨d.os,d.tape,d.output,d.size,fun k T b e=>d.block k b.ltw fun f=>by
 rcases f with (rfl|rfl|rfl|rfl|rfl|rfl)|f
 ·have:=Fx.Ty.only h.c.ty b;rw[this]at e; simp at e
 ·exact h.t.map.rU b
 ·exact h.p.rU b
 ·exact h.r.rU b
 ·exact h.g.rU b
 ·exact h.a.rU b
 ·have:=b.ltw; omega⟩
theorem Za{B:Nat}{a b c:World}(h:Below a.heap.size a b)(e:Below B b c)(d:a.heap.size<=B):Below a.heap.size a c:=h.trans (e.mono d)
theorem yZ{P:Program}{g:Nat}{a b:Array Value}{w:World}{R:Ending->World->Prop}(h:Calls P g b w R)(e:a=b):Calls P g a w R:=e ▸ h
theorem Pz{x:Value}{y:Nat->Value}(hy : ∀ j,j<14->y j=bM v j):(#[x,.agg (Fx.aA 14 y)]:Array Value) = #[x,.agg (Fx.aA 14 (bM v))]:=L_ (fun z=>(#[x,.agg z]:Array Value)) (Fx.dW hy)
theorem aaB(k:Nat)(d:1<=k/\k<=6)(w:World):Calls Tryz.prog 29 #[au (k:Int)] w fun e w' => ∃ lp m,e = .returned (.tuple #[(pt lp),au 0])/\xK w' w.heap.size lp m (kH k 0).core 0/\Below w.heap.size w w' :=
 (ahK k d w).mono fun e w' ⟨lp,m,c,⟨n,i,j,l,h,g,a⟩,f,b⟩=>⟨lp,m,c,⟨f,by rw[a]; exact fP.new ..,(Bv k 0).toInv0,(Bv k 0).s,LK k 0⟩,b⟩
theorem Es(h:xK w B lp m L N)(b:gu v)(c:1<=B)(d:Fx.iN w 0 0 8 Bu){y:Nat->Value}(hy : ∀ j,j<14->y j=bM v j) :
 Calls Tryz.prog 20 #[(pt lp),.agg (Fx.aA 14 y)] w fun e w'=>e = .returned (au (bA L v))/\xK w' B lp (jB m v) (bV L v) (N+1)/\Fx.jV (U1 m lp w.heap.size) w w':=by
 have a:=h.s.apply h.q.t.inv h.i v;refine yZ ((YQ m lp B w h.q v b (h.s.sound h.q.t.inv h.i) c d).mono fun e w' ⟨k,l,f⟩=>⟨by rw[k,a.1],⟨l,a.2,Ak h.i,NU h.i h.u,FX h.g b⟩,f⟩) (Pz hy)
theorem PD(h:xK w B lp m L N)(g:gu v)(a:1<=B)(b:Fx.iN w 0 0 8 Bu){y:Nat->Value}(hy : ∀ j,j<14->y j=bM v j) :
 Calls Tryz.prog 19 #[(pt lp),.agg (Fx.aA 14 y)] w fun e w'=>e = .returned (au (bA L v))/\Below w.heap.size w w':=by
 have f:=h.s.apply h.q.t.inv h.i v;refine yZ ((apF m lp B w h.q v g (h.s.sound h.q.t.inv h.i) a b).mono fun e w' ⟨d,c⟩=>⟨by rw[d,f.1],c⟩) (Pz hy)
theorem JD(h:xK w B lp m L N):Calls Tryz.prog 21 #[(pt lp)] w fun e w'=>e = .returned (.agg (Fx.aA 6 (Fx.rv .u64 L.known)))/\Below w.heap.size w w':=by
 rw[<- h.s.known]; exact YR m lp B w h.q
theorem Zb(h:xK w B lp m L N)(i x:Int)(hi : -9223372036854775808<=i/\i<=9223372036854775807):Calls Tryz.prog 31 #[(pt lp),au i,aC x] w fun e w'=>e = .returned (au (eF L x i))/\Below w.heap.size w w':=by
 rw[<- h.s.local h.i]; exact YS m lp B w h.q i x hi
def lsP(L:eY)(x:Int):Nat->Value:=Fx.rv .u64 fun q=>aT L.t L.tn q x
theorem aev(h:xK w B lp m L N)(x:Int):Calls Tryz.prog 30 #[(pt lp),aC x] w fun e w' => ∃ a c,e = .returned (.slice a (dF L.t L.tn x) c)/\Fx.Own w' w.heap.size 23 1 (.slice a (dF L.t L.tn x) c) (dF L.t L.tn x) (lsP L x)/\Below w.heap.size w w':=by
 obtain⟨d,l⟩:=h.s.T.path h.q.t.inv h.i x;refine(aeb m lp B w h.q x).mono fun e w' ⟨a,c,g,b,f⟩=>⟨a,c,by rw[g,d],?_,f⟩;unfold Xb at b;rw[d]at b;exact b.congr fun j k=>by
  rw[Nat.mul_one]at k;show Value.int .u64 ((m.T.path x).getD j 0)=aC (aT L.t L.tn j x);rw[l j (by omega)]
structure Mt(w:World)(B:Nat)(s:DR)(L:eY):Prop where
 e:s=NS L s.na s.nc s.ga s.gc
 n:Fx.Own w B 84 56 (.slice s.na L.nn s.nc) L.nn (Fx.flat 56 (VX L))
 g:Fx.Own w B 106 5 (.slice s.ga L.gn s.gc) L.gn (Fx.flat 5 (VY L))
theorem Mt.r{s:DR}(h:Mt w B s L):JZ w s L:=⟨h.e,h.n.arr,h.g.arr⟩
theorem Mt.up{s:DR}(h:Mt w B s L)(a:Below w.heap.size w w'):Mt w' B s L:=⟨h.e,h.n.up a,h.g.up a⟩
instance {s:DR}:Rt.Tr w w' (Mt w B s L) (Mt w' B s L):=⟨fun b h=>h.up b⟩
theorem Mt.kN{s:DR}{a:List TypeId}(h:Mt w B s L)(c:Fx.iP a w w')(b:(a.contains 84 || a.contains 106)=false):Mt w' B s L:=by
 rw[Bool.or_eq_false_iff]at b;exact⟨h.e,h.n.kN c b.1,h.g.kN c b.2⟩
instance {s:DR} {a:List TypeId}:Rt.Tc a w w' (Mt w B s L) (Mt w' B s L) (!(a.contains 84 || a.contains 106)):=⟨fun b h e=>h.kN b (by simpa using e)⟩
theorem Mt.D8{s:DR}{a:List TypeId}(h:Mt w B s L)(c:Fx.xD a w w')(b:(a.contains 84 || a.contains 106)=false):Mt w' B s L:=by
 rw[Bool.or_eq_false_iff]at b;exact⟨h.e,h.n.D8 c b.1,h.g.D8 c b.2⟩
theorem Zc(h:xK w B lp m L N)(z:N<=900000):Calls Tryz.prog 18 #[(pt lp)] w fun e w' => ∃ s,e = .returned (.agg (Fx.aA 20 (nQ s)))/\Mt w' w.heap.size s L/\Below w.heap.size w w':=by
 refine(Y5 m lp B w h.q (by rw[h.s.gn]; have:=h.i.gn; omega)).mono fun e w' ⟨s,l,y,x,a,v⟩=>⟨s,x,?_,v⟩;have b:=StC.of h.s h.i h.g a.ls a.gs;have o:s.nn=L.nn:=by rw[a.nn,b.nn]
 have p:s.gn=L.gn:=by rw[a.gn,b.gn]
 have f:=a.n;have d:=a.g;rw[o]at f;rw[p]at d;refine⟨(JZ.of a h.s h.i h.g).e,f.congr (Fx.bJ fun k c j _ => ?_),d.congr (Fx.bJ fun k c j _ => ?_)⟩
 ·obtain⟨r,t,u⟩:=b.n k c;unfold VR VX;rw[t,u,r]
 unfold Xg VY;rw[b.g k c]
end
end Go.Proofs.YtcbedgfikejkoaaGreatDoor
namespace Go.Proofs.YtcbedgfikejkoaaGreatDoor
open Go.RowKit Rt
open Fx (bC dw gF eG fU Lv sN Ln Ws Qv Wl Rp Wc Wr Sb Wk rV sR Rs Rd Wb qQ Qn yK zk gP zl tZ uH vM C8 zC rv aA aR bK ev Stp aS dD aW bG jV iC bI cells_one iP bP wY jP bR)
namespace Rt
def J2:Int:=1099511627777
def ahS(n:Int)(i:Nat):Int:=if i=0 then n else 0
def vA:EvM:=⟨1,1,fun _=>0,1,0,0,10,0,0⟩
def vC:EvM:=⟨1,2,ahS 1,5,J2,2,4,0,0⟩
def vD:EvM:=⟨2,1,ahS 2,3,J2,0,4,1,0⟩
theorem V6{m:dO}(b:m.T.ok)(v:EvM):(jB m v).T.ok:=by
 unfold jB;by_cases c:bU m v=0
 ·rw[d_ c];have f:=qh c;have a:=(qj c).2.1;have g:=oh f;show(iU m v).T.ok;unfold dL at a;unfold iU;by_cases d:v.kind=1
  ·rw[d_ d]at a ⊢;have e:m.T.err (nR v) v.node=0:=by
    unfold jc at a;split at a
    ·cases a
    ·exact a
   exact BF.put b e (by unfold nR; omega)
  rw[b_ d]
  repeat' split
  all_goals exact b
 rw[b_ c]; exact b
structure Et(m:dO)(L:eY)(N:Nat):Prop where
 s:fP m L
 t:m.T.ok
 i:Inv0 L N
theorem Et.new(k:Nat):Et (yG k 0 0 0 0 0 0) (kH k 0).core 0:=⟨fP.new ..,BF.zero _ _,(Bv k 0).toInv0⟩
theorem Et.apply{m:dO}{L:eY}{N:Nat}(h:Et m L N)(v:EvM):Et (jB m v) (bV L v) (N+1):=⟨(h.s.apply h.t h.i v).2,V6 h.t v,Ak h.i⟩
theorem Et.err{m:dO}{L:eY}{N:Nat}(h:Et m L N)(v:EvM){c:Int}(e:bU m v=c):bA L v=c:=(h.s.apply h.t h.i v).1.symm.trans e
theorem Et.loc{m:dO}{L:eY}{N:Nat}(h:Et m L N)(x i:Int){c:Int}(e:fJ (aZ m x) i=c):eF L x i=c:=(h.s.local h.i x i).symm.trans e
noncomputable def wq0:dO:=yG 2 0 0 0 0 0 0
noncomputable def BZ:dO:=jB wq0 vA
noncomputable def wq2:dO:=jB BZ vC
noncomputable def Xd:dO:=jB wq2 vD
theorem tw0:Et wq0 (kH 2 0).core 0 := .new 2
end Rt
namespace Rt
structure DZ where
 who:Nat
 meet:Bool
 other:Nat
 kind:Nat
 node:Nat
 dst:Nat
 aQ:Nat
 req:Nat
 of:Nat
structure FZ(x:DZ):Prop where
 who:x.who<=255
 other:x.other<=255
 kind:x.kind<=255
 node:x.node<=255
 dst:x.dst<=255
 aQ:x.aQ<=65535
 req:x.req<=255
 of:x.of<=255
def F3(x:DZ):Nat->Value:=fun p=>if p=0 then .int .u8 (x.who:Int)else if p=1 then .bool x.meet else if p=2 then .int .u8 (x.other:Int)else if p=3 then .int .u8 (x.kind:Int)else if p=4 then .int .u8 (x.node:Int)else if p=5 then .int .u8 (x.dst:Int)else if p=6 then .int .u16 (x.aQ:Int)else if p=7 then .int .u8 (x.req:Int)else .int .u8 (x.of:Int)
theorem D5{k n r:Nat}(e:r=k % n):Int.tmod (k:Int) (n:Int)=(r:Int):=by
 rw[Int.tmod_eq_emod_of_nonneg (by omega),e];exact(Int.natCast_emod k n).symm
theorem Eu(V:EvM)(x:Int) : ∀ j,j<14->dD (bM V) 9 (aC x) j=bM { V with node:=x } j:=fun j a=>by
 rcases j with _|_|_|_|_|_|_|_|_|_|_|_|_|_|j <;> first|rfl|omega
theorem V7(V:EvM)(x:Int) : ∀ j,j<14->dD (bM V) 10 (au x) j=bM ⟨V.o,V.seq,V.deps,V.kind,V.node,x,V.aQ,V.req,V.of⟩ j:=fun j a=>by
 rcases j with _|_|_|_|_|_|_|_|_|_|_|_|_|_|j <;> first|rfl|omega
theorem F4(V:EvM)(x:Int) : ∀ j,j<14->dD (bM V) 11 (au x) j=bM { V with aQ:=x } j:=fun j a=>by
 rcases j with _|_|_|_|_|_|_|_|_|_|_|_|_|_|j <;> first|rfl|omega
theorem V9(V:EvM)(x:Int) : ∀ j,j<14->dD (bM V) 12 (aC x) j=bM { V with req:=x } j:=fun j a=>by
 rcases j with _|_|_|_|_|_|_|_|_|_|_|_|_|_|j <;> first|rfl|omega
theorem ahT(V:EvM)(x:Int) : ∀ j,j<14->dD (bM V) 13 (aC x) j=bM { V with of:=x } j:=fun j a=>by
 rcases j with _|_|_|_|_|_|_|_|_|_|_|_|_|_|j <;> first|rfl|omega
end Rt
set_option maxRecDepth 20000 in
set_option maxHeartbeats 2000000 in
theorem Zd(M:WM)(B p T:Nat)(x:DZ)(w:World)(Z:oo w B p M T)(hx:FZ x) :
 Calls Tryz.prog 57 #[(pt p),.agg (aA 9 (F3 x))] w fun e w' => ∃ V,gu V/\ow V/\(V.o=((x.who % M.n:Nat):Int)+1/\V.seq=(M.ml (x.who % M.n)).s.known (x.who % M.n)+1/\V.deps=(M.ml (x.who % M.n)).s.known)/\e = .returned (.agg (aA 14 (bM V)))/\Below w.heap.size w w':=by
 have hWc:=Z.c;have hWl:=Z.l;have hWa:=Z.a;have hWg:=Z.g;have hn1:=Z.n1;have hn6:=Z.n6;have hpB:=Z.pB;have lpp:p<w.heap.size:=hWc.lt;have hxw:=hx.who;have hxo:=hx.other;have hxk:=hx.kind;have hxn:=hx.node;have hxt:=hx.dst;have hxa:=hx.aQ;have hxr:=hx.req;have hxf:=hx.of;refine Kent Tryz.func57 143 ?_;refine ay<|pR fun G w1 mo m1 s1 z1 => ?_;have⟨m2,m3,m4,m5,b1⟩:=qU s1.old hWc hWl hWa hWg (Below.refl w.heap.size w);have sM:=gT mo;have nG:=cK mo hWc.lt;have ug:=m1.lt;refine rR 14 (fun h=>if h<1 then au 0 else if h<8 then aC 0 else if h<9 then .int .u8 (0)else if h<10 then aC 0 else if h<12 then au 0 else aC 0) fun U w2 AA m6 s2 z2 => ?_;have⟨m7,m8,m9,m10,m11,b2⟩:=rT s2.old m2 m3 m4 m5 m1 b1;have ru:=iQ AA b1.size;have OO:=cK AA m2.lt;have Lg:(.slice M.aa (M.an) (M.ac):Value).ownBlock≠some U:=by rw[AA]; exact m4.ko (A_ _)
 have Cw:=cK AA m1.lt;have zK:=m6.lt;refine aD<|Ws ?_;obtain⟨o,eo⟩ : ∃ r,r=x.who % M.n:=⟨_,rfl⟩;have ho:o<M.n:=by rw[eo]; exact J_ _ (by omega)
 refine uO<|aX (pt G)<|Qv (.int .u8 (x.who:Int)) (fun E D=>aM (m11.aH.dr D) 0)<|Qv (au x.who) (fun E D=>dw rfl rfl (by kernel_rfl) Tryz.underlying3 (iC (by omega) rfl))<|aX (pt p)<|aX (pt p)<|aX (pt p)<|Qv (.slice M.la (M.n) (M.lc)) (fun E D=>aM (m7.aH.dr D) 0)<|aX (au M.n)<|Qv (au o) (fun E D=>Fx.uL rfl rfl rfl (by omega) (D5 eo))<|aX (au o)<|Qn ?_;rintro _ ⟨qd,rfl⟩;obtain⟨BZ,oU⟩ : ∃ E,E=World.drewN w2 qd:=⟨_,rfl⟩;rw[<- oU];have s3:Stp w2.heap.size w2 BZ:=by rw[oU]; exact Sb (je w2 qd)
 have⟨m12,m13,m14,m15,m16,m17,b3⟩:=jR s3.old m7 m8 m9 m10 m11 m6 b2;clear oU;refine sN<|ay<|av (pt p)<|av (pt p)<|av (pt p)<|Lv (.slice M.la (M.n) (M.lc)) (aM m12.aH 0)<|av (au o) ?_;obtain⟨Gm,eq1⟩:=m13.addr (by omega);have m18:Fx.Own BZ B 29 1 (bO Gm M.n M.lc) M.n (GD M.pl):=m13.fH (L_ (fun q=>Value.slice q M.n M.lc) eq1);refine Lv (pf Gm o) (dh 1 (hx:=(rfl.trans (L_ (fun q=>Value.slice q (M.n) (M.lc)) eq1))))<|Lv (pt (M.pl o)) (aM m18.aH o)<|av (pt (M.pl o))<|aD<|Ws ?_;obtain⟨H,ahU⟩ : ∃ r,r=x.kind % 7:=⟨_,rfl⟩;have awE:H<7:=by rw[ahU]; exact J_ _ (by omega)
 have Ze:=m15 o (by omega);have F5:=Ze.c;have ahV:=Ze.n;have hkn:=(Z.inv o (by omega)).kn;have hko:=hkn o (by omega);have hko:0<=(M.ml o).s.known o/\(M.ml o).s.known o<1099511627776:=hko;have hU : ∀ k,k<(M.ml o).s.nn->iA ((M.ml o).id k):=fun k hk=>by have Y:=(Z.inv o (by omega)).pos k hk; have I:=(Z.inv o (by omega)).top k hk; exact⟨by show(0:Int)<=(M.ml o).core.id k; omega,by show(M.ml o).core.id k<=_; omega⟩
 have hbn:=(Z.g o (by omega)).bn;refine qQ (T:=37) (T':=37) (a := .tmp 7) (v := .tmp 44) (m:=14) (z:=fun h=>if h<1 then au 0 else if h<8 then aC 0 else if h<9 then .int .u8 (0)else if h<10 then aC 0 else if h<12 then au 0 else aC 0) (y:=bK (bK (bK (bK (fun h=>if h<1 then au 0 else if h<8 then aC 0 else if h<9 then .int .u8 (0)else if h<10 then aC 0 else if h<12 then au 0 else aC 0) 0 1 (fun _=>au ((o:Int)+1))) 1 1 (fun _=>aC ((M.ml o).s.known o+1))) 2 6 (rv .u64 ((M.ml o).s.known))) 8 1 (fun _ => .int .u8 ((H:Int)+1))) (u := .agg (aA 14 (bK (bK (bK (bK (fun h=>if h<1 then au 0 else if h<8 then aC 0 else if h<9 then .int .u8 (0)else if h<10 then aC 0 else if h<12 then au 0 else aC 0) 0 1 (fun _=>au ((o:Int)+1))) 1 1 (fun _=>aC ((M.ml o).s.known o+1))) 2 6 (rv .u64 ((M.ml o).s.known))) 8 1 (fun _ => .int .u8 ((H:Int)+1))))) 20 21 (List.replicate 22 (0,2,[],[])) #[au (o:Int),au ((o:Int)+1),(pt (M.pl o)),au (o:Int),(pt (M.pl o)),(pt (M.pl o)),(pf (M.pl o) 12),(pf (M.pl o) (o+12)),aC ((M.ml o).s.known o),aC ((M.ml o).s.known o+1),(pt (M.pl o)),(pt (M.pl o)),(pt (M.pl o)),(pf (M.pl o) 12),.agg (aA 6 (rv .u64 ((M.ml o).s.known))),(pf G 3),.int .u8 (x.kind:Int),.int .u8 (H:Int),.int .u8 ((H:Int)+1),.agg (aA 14 (bK (bK (bK (bK (fun h=>if h<1 then au 0 else if h<8 then aC 0 else if h<9 then .int .u8 (0)else if h<10 then aC 0 else if h<12 then au 0 else aC 0) 0 1 (fun _=>au ((o:Int)+1))) 1 1 (fun _=>aC ((M.ml o).s.known o+1))) 2 6 (rv .u64 ((M.ml o).s.known))) 8 1 (fun _ => .int .u8 ((H:Int)+1)))),undef,undef] (by kernel_rfl) (by kernel_rfl) (by kernel_rfl) (by kernel_rfl) (by kernel_rfl) (by kernel_rfl) rfl (by kernel_rfl) rfl rfl (by kernel_rfl) (fun A=>(show ev _ (.tmp 7)=(pt A)from by kernel_rfl)) (fun A=>(show ev _ (.tmp 44) = .agg (aA 14 (bK (bK (bK (bK (fun h=>if h<1 then au 0 else if h<8 then aC 0 else if h<9 then .int .u8 (0)else if h<10 then aC 0 else if h<12 then au 0 else aC 0) 0 1 (fun _=>au ((o:Int)+1))) 1 1 (fun _=>aC ((M.ml o).s.known o+1))) 2 6 (rv .u64 ((M.ml o).s.known))) 8 1 (fun _ => .int .u8 ((H:Int)+1))))from by kernel_rfl)) (bI _ _) (bP (bP (bP (bP (fun jq _=>by show((fun h=>if h<1 then au 0 else if h<8 then aC 0 else if h<9 then .int .u8 (0)else if h<10 then aC 0 else if h<12 then au 0 else aC 0:Nat->Value) jq).oneCell'=true; simp only[]; repeat (first|rfl|split)) (fun _ _=>rfl)) (fun _ _=>rfl)) (fun _ _=>rfl)) (fun _ _=>rfl)) (by kernel_rfl) (fun A => ?_) ?_
 ·refine⟨?_,?_,?_,?_,?_,?_,?_,?_,?_,?_,?_,?_,?_,?_,?_,?_,?_,?_,?_,?_,?_,?_,trivial⟩
  ·exact .inr (.inr qw)
  ·exact .inr (.inr (sS (au ((o:Int)+1)) fun E D=>Fx.J5 rfl (show ev _ (.tmp 25)=au (o:Int)from by kernel_rfl) (show ev _ (.const (au 1))=au 1 from by kernel_rfl) Fx.io))
  ·exact .inr (.inr qw)
  ·exact .inr (.inr qw)
  ·exact .inr (.inr qw)
  ·exact .inr (.inr qw)
  ·exact .inr (.inr qw)
  ·exact .inr (.inr (sS (pf (M.pl o) (o+12)) fun E D=>gF rfl (show ev _ (.tmp 31)=(pf (M.pl o) 12)from by kernel_rfl) (show ev _ (.tmp 28)=au (o:Int)from by kernel_rfl) Tryz.underlying35 (s:=1) (by kernel_rfl) (by omega) (by omega) (by omega)))
  ·exact .inr (.inr (sS (aC ((M.ml o).s.known o)) fun E D=>bC (x:=lZ (M.ml o)) rfl (show ev _ (.tmp 32)=(pf (M.pl o) (o+12))from by kernel_rfl) (by kernel_rfl) (F5.aH.below D (by have:=F5.lt; omega)) (i:=o+12) (by omega) (by omega) (kF _ (by omega) (jO _ (by omega) (by omega)))))
  ·exact .inr (.inr (sS (aC ((M.ml o).s.known o+1)) fun E D=>Fx.J5 rfl (show ev _ (.tmp 33)=aC ((M.ml o).s.known o)from by kernel_rfl) (show ev _ (.const (aC 1))=aC 1 from by kernel_rfl) (jP (by omega) (by omega))))
  ·exact .inr (.inr qw)
  ·exact .inr (.inr qw)
  ·exact .inr (.inr qw)
  ·exact .inr (.inr qw)
  ·exact .inr (.inr (sS (.agg (aA 6 (rv .u64 ((M.ml o).s.known)))) fun E D=>eG (x:=lZ (M.ml o)) (y:=rv .u64 ((M.ml o).s.known)) rfl (show ev _ (.tmp 38)=(pf (M.pl o) 12)from by kernel_rfl) (by kernel_rfl) (by kernel_rfl) (F5.aH.below D (by have:=F5.lt; omega)) (i:=12) (by omega) (by omega) (fun j C=>kF _ (by omega) (jO _ C (by omega)))))
  ·exact .inr (.inr qw)
  ·exact .inr (.inr (sS (.int .u8 (x.kind:Int)) fun E D=>bC (x:=F3 x) rfl (show ev _ (.tmp 40)=(pf G 3)from by kernel_rfl) (by kernel_rfl) (m16.aH.below D (by have:=m16.lt; omega)) (i:=3) (by omega) (by omega) rfl))
  ·exact .inr (.inr (sS (.int .u8 (H:Int)) fun E D=>Fx.uL rfl (show ev _ (.tmp 41) = .int .u8 (x.kind:Int)from by kernel_rfl) (show ev _ (.const (.int .u8 (7))) = .int .u8 (7)from by kernel_rfl) (by omega) (D5 ahU)))
  ·exact .inr (.inr (sS (.int .u8 ((H:Int)+1)) fun E D=>Fx.J5 rfl (show ev _ (.const (.int .u8 (1))) = .int .u8 (1)from by kernel_rfl) (show ev _ (.tmp 42) = .int .u8 (H:Int)from by kernel_rfl) (Fx.u8e (by omega) (by omega))))
  ·exact .inr (.inr (sS (.agg (aA 14 (bK (bK (bK (bK (fun h=>if h<1 then au 0 else if h<8 then aC 0 else if h<9 then .int .u8 (0)else if h<10 then aC 0 else if h<12 then au 0 else aC 0) 0 1 (fun _=>au ((o:Int)+1))) 1 1 (fun _=>aC ((M.ml o).s.known o+1))) 2 6 (rv .u64 ((M.ml o).s.known))) 8 1 (fun _ => .int .u8 ((H:Int)+1))))) fun E D=>fU (vs := [(0,au ((o:Int)+1)),(1,aC ((M.ml o).s.known o+1)),(2,.agg (aA 6 (rv .u64 ((M.ml o).s.known)))),(3,.int .u8 ((H:Int)+1))]) (places := #[(0,1),(1,1),(2,6),(8,1),(9,1),(10,1),(11,1),(12,1),(13,1)]) (m:=14) (x:=fun h=>if h<1 then au 0 else if h<8 then aC 0 else if h<9 then .int .u8 (0)else if h<10 then aC 0 else if h<12 then au 0 else aC 0) rfl (Fx.aaX (show ev _ (.tmp 26)=au ((o:Int)+1)from by kernel_rfl) (show ev _ (.tmp 34)=aC ((M.ml o).s.known o+1)from by kernel_rfl) (show ev _ (.tmp 39) = .agg (aA 6 (rv .u64 ((M.ml o).s.known)))from by kernel_rfl) (show ev _ (.tmp 43) = .int .u8 ((H:Int)+1)from by kernel_rfl)) Tryz.underlying37 (by kernel_rfl) (by kernel_rfl) (by rw[bG (off:=0) (s:=1) (y:=fun _=>au ((o:Int)+1)) (by kernel_rfl) (cells_one (by rfl)) (by rfl)]; rw[bG (off:=1) (s:=1) (y:=fun _=>aC ((M.ml o).s.known o+1)) (by kernel_rfl) (cells_one (by rfl)) (by rfl)]; rw[bG (off:=2) (s:=6) (y:=rv .u64 ((M.ml o).s.known)) (by kernel_rfl) (bI _ _) (by rfl)]; rw[bG (off:=8) (s:=1) (y:=fun _ => .int .u8 ((H:Int)+1)) (by kernel_rfl) (cells_one (by rfl)) (by rfl)]; rfl)))
  ·exact .inl rfl
  exact .inr (.inl rfl)
 rintro A w3 f1 hf1 C9 m19 hb1;have VL:p≠A:=u_ (n_ (m12.lt) C9);have aqh:G≠A:=u_ (n_ (m16.lt) C9);have adW:U≠A:=u_ (n_ (m17.lt) C9);have aqi:Gm≠A:=u_ (n_ (m18.lt) C9);have ahW:(M.pl o)≠A:=u_ (n_ (F5.lt) C9);have VN:(.slice M.aa (M.an) (M.ac):Value).ownBlock≠some A:=fun e=>by have:=(m14.ge e).2; omega
 have⟨m22,m23,m24,mQ,oq,b4⟩:=rT hb1 m15 m16 m17 m18 ahV b3;have C9:w.heap.size<=A:=m_ b3.size C9;have JR:=m19.lt;have q1:f1 3=(pt G):=by rw[hf1]; kernel_rfl
 have q2:f1 4=(pt U):=by rw[hf1]; kernel_rfl
 have q3:f1 6=(pt (M.pl o)):=by rw[hf1]; kernel_rfl
 have q4:f1 7=(pt A):=by rw[hf1]; kernel_rfl
 clear hf1;refine sN<|Ws ?_;obtain⟨d,eV0⟩ : ∃ V:EvM,V=(⟨(o:Int)+1,(M.ml o).s.known o+1,(M.ml o).s.known,(H:Int)+1,0,0,0,0,0⟩:EvM):=⟨_,rfl⟩;have hz1:iA 0:=⟨by decide,by decide⟩;have hz2:pV 0:=⟨by decide,by decide⟩;have t:gu d:=by rw[eV0]; exact⟨⟨by show(_:Int)<=(o:Int)+1; omega,by show(o:Int)+1<=_; omega⟩,⟨by show(0:Int)<=(M.ml o).s.known o+1; omega,by show(M.ml o).s.known o+1<=_; omega⟩,fun i hi=>⟨(hkn i hi).1,by have q:(M.ml o).s.known i<1099511627776:=(hkn i hi).2; show(M.ml o).s.known i<=_; omega⟩,⟨by show(0:Int)<=(H:Int)+1; omega,by show(H:Int)+1<=255; omega⟩,hz1,hz2,hz2,hz1,hz1⟩
 have oL:aR w3 A 14 (bM d) 37:=m19.congr (fun j C=>by rw[eV0]; rcases j with _|_|_|_|_|_|_|_|_|_|_|_|_|_|j <;> first|rfl|omega|exact L_ (Value.int .u8) (by omega))
 have X:ow d:=by rw[eV0]; exact⟨by show(0:Int)<=_; decide,by show(0:Int)<=_; decide⟩
 have hd0:d.o=(o:Int)+1/\d.seq=(M.ml o).s.known o+1/\d.deps=(M.ml o).s.known:=by rw[eV0]; exact⟨rfl,rfl,rfl⟩
 have ek0:d.kind=(H:Int)+1:=by rw[eV0]
 refine Wl<|av (aC 0)<|aD ?_;have oM:Fx.Own w3 B 29 1 (.slice M.la (M.n) (M.lc)) M.n (GD M.pl):=mQ.fH (L_ (fun q=>Value.slice q M.n M.lc) eq1.symm);refine C8 (fun f w_ => ∃ nd:Int,iA nd/\f 3=(pt G)/\f 4=(pt U)/\f 7=(pt A)/\f 8=aC nd/\aR w_ G 9 (F3 x) 72/\aR w_ U 14 (fun h=>if h<1 then au 0 else if h<8 then aC 0 else if h<9 then .int .u8 (0)else if h<10 then aC 0 else if h<12 then au 0 else aC 0) 37/\aR w_ A 14 (bM d) 37/\Below w.heap.size w w_) ?_ ?_
 ·refine Ws ?_;have Zf:=m22 o (by omega);have Wd:=Zf.c;have asS:=Zf.n;refine Wl<|bf q3<|av (pt (M.pl o))<|av (pt (M.pl o))<|av (pf (M.pl o) 18)<|Lv (.slice (M.ml o).s.na ((M.ml o).s.nn) ((M.ml o).s.nc)) (aM Wd.aH 18)<|av (au (((M.ml o).s.nn:Nat):Int))<|Lv (.bool (decide (0<(((M.ml o).s.nn:Nat):Int)))) (Fx.RI rfl rfl rfl)<|aD<|Wc (b:=decide (0<(((M.ml o).s.nn:Nat):Int))) rfl (fun c51 => ?_)<|fun c51 => ?_
  ·have c51:=h_ c51;obtain⟨Xh,ahY⟩ : ∃ r,r=x.node % (M.ml o).s.nn:=⟨_,rfl⟩;have aqj:Xh<(M.ml o).s.nn:=(by rw[ahY]; exact J_ _ (by omega));refine uO<|dZ q3<|aX (pt (M.pl o))<|aX (pt (M.pl o))<|aX (pf (M.pl o) 18)<|Qv (.slice (M.ml o).s.na ((M.ml o).s.nn) ((M.ml o).s.nc)) (fun E D=>aM (Wd.aH.dr D) 18)<|Qv (pf G 4) (fun E D=>jD q1 4)<|Qv (.int .u8 (x.node:Int)) (fun E D=>aM (m23.aH.dr D) 4)<|Qv (au x.node) (fun E D=>dw rfl rfl (by kernel_rfl) Tryz.underlying3 (iC (by omega) rfl))<|dZ q3<|aX (pt (M.pl o))<|aX (pt (M.pl o))<|aX (pf (M.pl o) 18)<|Qv (.slice (M.ml o).s.na ((M.ml o).s.nn) ((M.ml o).s.nc)) (fun E D=>aM (Wd.aH.dr D) 18)<|aX (au (((M.ml o).s.nn:Nat):Int))<|Qv (au Xh) (fun E D=>Fx.uL rfl rfl rfl (by omega) (D5 ahY)) ?_;obtain⟨UF,Gy⟩:=oq.addr (by omega);have oC:Fx.Own w3 B 84 56 (.slice (some ⟨UF,0,none⟩) ((M.ml o).s.nn) ((M.ml o).s.nc)) ((M.ml o).s.nn) (JV (M.ml o)):=oq.fH (L_ (fun q=>Value.slice q ((M.ml o).s.nn) ((M.ml o).s.nc)) Gy);refine Qv (pf UF (56*Xh)) (fun E D=>dh 56 (hx:=(rfl.trans (L_ (fun q=>Value.slice q ((M.ml o).s.nn) ((M.ml o).s.nc)) Gy))))<|aX (pf UF (56*Xh))<|Qv (aC ((M.ml o).id Xh)) (fun E D=>aM (oC.aH.dr D) (56*Xh) (Fx.gJ (k:=Xh) (j:=0) (by omega) (by omega) rfl))<|aX (aC ((M.ml o).id Xh))<|Qn ?_;rintro _ ⟨qd,rfl⟩;obtain⟨wq2,sG⟩ : ∃ E,E=World.drewN w3 qd:=⟨_,rfl⟩;rw[<- sG];have s5:Stp w3.heap.size w3 wq2:=(by rw[sG]; exact Sb (je w3 qd));have⟨nV,qC,sP,uI,b5⟩:=qU s5.old m23 m24 oL oC b4;clear sG;have nI:Fx.Own wq2 B 84 56 (.slice (M.ml o).s.na ((M.ml o).s.nn) ((M.ml o).s.nc)) ((M.ml o).s.nn) (JV (M.ml o)):=uI.fH (L_ (fun q=>Value.slice q ((M.ml o).s.nn) ((M.ml o).s.nc)) Gy.symm);exact wY ⟨((M.ml o).id Xh),(hU Xh aqj),q1,q2,q4,Fx.ic,nV,qC,sP,b5⟩
  have c51:=j_ c51;refine Wk ?_;exact wY ⟨0,⟨by decide,by decide⟩,q1,q2,q4,Fx.ic,m23,m24,oL,b4⟩
 rintro f2 w4 ⟨nd,PE,Y,I,F,h4,nJ,nK,K,J⟩;refine Ws<|ay<|Lv (pf A 8) (jD F 8)<|Lv (.int .u8 (d.kind)) (aM K.aH 8)<|aD<|Wb<|ay ?_;by_cases c73:d.kind=1
 ·refine Lv aG (eO c73)<|av aG<|aD<|aO<|Ws<|Ws ?_;obtain⟨r76,ahZ⟩ : ∃ r,r=x.node % 2:=⟨_,rfl⟩;have awF:r76<2:=by rw[ahZ]; exact J_ _ (by omega)
  refine Wl<|Lv (pf G 4) (jD Y 4)<|Lv (.int .u8 (x.node:Int)) (aM nJ.aH 4)<|Lv (.int .u8 (r76:Int)) (Fx.uL rfl rfl rfl (by omega) (D5 ahZ)) ?_;by_cases c77:(r76:Int)=1
  ·refine Lv aG (eO c77)<|aD<|aO<|Wl<|bf h4<|Lv (pf A 9) (jD F 9)<|jg K 9 (aC nd) fun w5 qK s6 z3 => ?_;obtain⟨L,eV1⟩ : ∃ V:EvM,V=⟨d.o,d.seq,d.deps,d.kind,nd,d.dst,d.aQ,d.req,d.of⟩:=⟨_,rfl⟩;have LP:gu L:=(by rw[eV1]; exact⟨t.o,t.seq,t.deps,t.kind,PE,t.dst,t.aQ,t.req,t.of⟩);have aql:L.o=(o:Int)+1/\L.seq=(M.ml o).s.known o+1/\L.deps=(M.ml o).s.known:=(by rw[eV1]; exact hd0);have aqm:ow L:=(by rw[eV1]; exact⟨X.aQ,X.req⟩);have oO:aR w5 A 14 (bM L) 37:=qK.congr (fun j C=>by rw[eV1]; exact Eu _ _ j C);have gV:=gP s6 K.ty;have sQ:=kQ gV nJ;have xE:=nK.cO s6 (by omega);have b7:=s6.below J J.size (by omega);refine aD<|Wl<|Lv (pf G 6) (jD Y 6)<|Lv (.int .u16 (x.aQ:Int)) (aM sQ.aH 6)<|Lv (au x.aQ) (dw rfl rfl (by kernel_rfl) Tryz.underlying2 (iC (by omega) rfl))<|Lv (pf A 11) (jD F 11)<|jg oO 11 (au x.aQ) fun w6 uh s7 z4 => ?_;obtain⟨V2,eV2⟩ : ∃ V:EvM,V=⟨L.o,L.seq,L.deps,L.kind,L.node,L.dst,(x.aQ:Int),L.req,L.of⟩:=⟨_,rfl⟩;have aqn:gu V2:=(by rw[eV2]; exact⟨LP.o,LP.seq,LP.deps,LP.kind,LP.node,LP.dst,(show pV (x.aQ:Int)from⟨by omega,by omega⟩),LP.req,LP.of⟩);have aqo:V2.o=(o:Int)+1/\V2.seq=(M.ml o).s.known o+1/\V2.deps=(M.ml o).s.known:=(by rw[eV2]; exact aql);have aqp:ow V2:=(by rw[eV2]; exact⟨by show(x.aQ:Int)<=65536; omega,aqm.req⟩);have tL:aR w6 A 14 (bM V2) 37:=uh.congr (fun j C=>by rw[eV2]; exact F4 _ _ j C);have wC:=xE.cO s7 (by omega);have b8:=s7.below b7 b7.size (by omega);refine Ln<|bR<|sN<|ay<|Lv (.agg (aA 14 (bM V2))) (fD tL.aH 0 (ha:=F))<|eP wC 0 (ha:=I) (h1:=(fV _)) fun w7 uJ s8 z5 => ?_;have wD:aR w7 U 14 (bM V2) 37:=aS uJ;have uK:=tL.cO s8 (by omega);have b9:=s8.below b8 b8.size (by omega);refine aD (Wr (⟨.agg (aA 14 (bM V2)),rV Tryz.results57 ⟨_,I,aW wD.aH (by kernel_rfl) (by kernel_rfl)⟩,?_⟩));exact⟨V2,aqn,aqp,by rw[<- eo]; exact aqo,rfl,b9⟩
  refine Lv aF (fO c77)<|aD<|aK<|Wk<|sN<|Wl<|Lv (pf G 6) (jD Y 6)<|Lv (.int .u16 (x.aQ:Int)) (aM nJ.aH 6)<|Lv (au x.aQ) (dw rfl rfl (by kernel_rfl) Tryz.underlying2 (iC (by omega) rfl))<|Lv (pf A 11) (jD F 11)<|jg K 11 (au x.aQ) fun w8 sU s9 z6 => ?_;obtain⟨V3,eV3⟩ : ∃ V:EvM,V=⟨d.o,d.seq,d.deps,d.kind,d.node,d.dst,(x.aQ:Int),d.req,d.of⟩:=⟨_,rfl⟩;have aqr:gu V3:=by rw[eV3]; exact⟨t.o,t.seq,t.deps,t.kind,t.node,t.dst,(show pV (x.aQ:Int)from⟨by omega,by omega⟩),t.req,t.of⟩
  have aqs:V3.o=(o:Int)+1/\V3.seq=(M.ml o).s.known o+1/\V3.deps=(M.ml o).s.known:=by rw[eV3]; exact hd0
  have aqt:ow V3:=by rw[eV3]; exact⟨by show(x.aQ:Int)<=65536; omega,X.req⟩
  have tN:aR w8 A 14 (bM V3) 37:=sU.congr (fun j C=>by rw[eV3]; exact F4 _ _ j C);have qZ:=nK.cO s9 (by omega);have b10:=s9.below J J.size (by omega);refine Ln<|bR<|sN<|ay<|Lv (.agg (aA 14 (bM V3))) (fD tN.aH 0 (ha:=F))<|eP qZ 0 (ha:=I) (h1:=(fV _)) fun w9 vN s10 z7 => ?_;have oD:aR w9 U 14 (bM V3) 37:=aS vN;have m64:=tN.cO s10 (by omega);have b11:=s10.below b10 b10.size (by omega);refine aD (Wr (⟨.agg (aA 14 (bM V3)),rV Tryz.results57 ⟨_,I,aW oD.aH (by kernel_rfl) (by kernel_rfl)⟩,?_⟩));exact⟨V3,aqr,aqt,by rw[<- eo]; exact aqs,rfl,b11⟩
 refine Lv aF (fO c73)<|av aF<|aD<|aK<|ay ?_;by_cases c85:d.kind=2
 ·refine Lv aG (eO c85)<|av aG<|aD<|aO<|ay<|bf h4<|Lv (pf A 9) (jD F 9)<|jg K 9 (aC nd) fun sO xG s11 z8 => ?_;obtain⟨P,eV4⟩ : ∃ V:EvM,V=⟨d.o,d.seq,d.deps,d.kind,nd,d.dst,d.aQ,d.req,d.of⟩:=⟨_,rfl⟩;have LQ:gu P:=by rw[eV4]; exact⟨t.o,t.seq,t.deps,t.kind,PE,t.dst,t.aQ,t.req,t.of⟩
  have aqu:P.o=(o:Int)+1/\P.seq=(M.ml o).s.known o+1/\P.deps=(M.ml o).s.known:=by rw[eV4]; exact hd0
  have aqv:ow P:=by rw[eV4]; exact⟨X.aQ,X.req⟩
  have xu:aR sO A 14 (bM P) 37:=xG.congr (fun j C=>by rw[eV4]; exact Eu _ _ j C);have zo:=gP s11 K.ty;have vO:=kQ zo nJ;have xH:=nK.cO s11 (by omega);have b12:=s11.below J J.size (by omega);refine aD<|Wl<|Lv (pf G 6) (jD Y 6)<|Lv (.int .u16 (x.aQ:Int)) (aM vO.aH 6)<|Lv (au x.aQ) (dw rfl rfl (by kernel_rfl) Tryz.underlying2 (iC (by omega) rfl))<|Lv (au ((x.aQ:Int)+1)) fC<|Lv (pf A 11) (jD F 11)<|jg xu 11 (au ((x.aQ:Int)+1)) fun Gi sV s12 z9 => ?_;obtain⟨V5,eV5⟩ : ∃ V:EvM,V=⟨P.o,P.seq,P.deps,P.kind,P.node,P.dst,(x.aQ:Int)+1,P.req,P.of⟩:=⟨_,rfl⟩;have aqw:gu V5:=by rw[eV5]; exact⟨LQ.o,LQ.seq,LQ.deps,LQ.kind,LQ.node,LQ.dst,(show pV ((x.aQ:Int)+1)from⟨by omega,by omega⟩),LQ.req,LQ.of⟩
  have aqx:V5.o=(o:Int)+1/\V5.seq=(M.ml o).s.known o+1/\V5.deps=(M.ml o).s.known:=by rw[eV5]; exact aqu
  have aqy:ow V5:=by rw[eV5]; exact⟨by show(x.aQ:Int)+1<=65536; omega,aqv.req⟩
  have vP:aR Gi A 14 (bM V5) 37:=sV.congr (fun j C=>by rw[eV5]; exact F4 _ _ j C);have vQ:=xH.cO s12 (by omega);have b13:=s12.below b12 b12.size (by omega);refine Ln<|bR<|sN<|ay<|Lv (.agg (aA 14 (bM V5))) (fD vP.aH 0 (ha:=F))<|eP vQ 0 (ha:=I) (h1:=(fV _)) fun BR vR s13 z10 => ?_;have zJ:aR BR U 14 (bM V5) 37:=aS vR;have zq:=vP.cO s13 (by omega);have b14:=s13.below b13 b13.size (by omega);refine aD (Wr (⟨.agg (aA 14 (bM V5)),rV Tryz.results57 ⟨_,I,aW zJ.aH (by kernel_rfl) (by kernel_rfl)⟩,?_⟩));exact⟨V5,aqw,aqy,by rw[<- eo]; exact aqx,rfl,b14⟩
 refine Lv aF (fO c85)<|av aF<|aD<|aK<|ay ?_;by_cases c94:d.kind=3
 ·refine Lv aG (eO c94)<|av aG<|aD<|aO<|ay<|bf h4<|Lv (pf A 9) (jD F 9)<|jg K 9 (aC nd) fun Gt zu BG z11 => ?_;obtain⟨Q,eV6⟩ : ∃ V:EvM,V=⟨d.o,d.seq,d.deps,d.kind,nd,d.dst,d.aQ,d.req,d.of⟩:=⟨_,rfl⟩;have LU:gu Q:=by rw[eV6]; exact⟨t.o,t.seq,t.deps,t.kind,PE,t.dst,t.aQ,t.req,t.of⟩
  have aqz:Q.o=(o:Int)+1/\Q.seq=(M.ml o).s.known o+1/\Q.deps=(M.ml o).s.known:=by rw[eV6]; exact hd0
  have aqA:ow Q:=by rw[eV6]; exact⟨X.aQ,X.req⟩
  have yP:aR Gt A 14 (bM Q) 37:=zu.congr (fun j C=>by rw[eV6]; exact Eu _ _ j C);have acP:=gP BG K.ty;have xA:=kQ acP nJ;have wE:=nK.cO BG (by omega);have b15:=BG.below J J.size (by omega);refine aD<|ay<|Lv (pf G 6) (jD Y 6)<|Lv (.int .u16 (x.aQ:Int)) (aM xA.aH 6)<|Lv (au x.aQ) (dw rfl rfl (by kernel_rfl) Tryz.underlying2 (iC (by omega) rfl))<|Lv (au ((x.aQ:Int)+1)) fC<|Lv (pf A 11) (jD F 11)<|jg yP 11 (au ((x.aQ:Int)+1)) fun Mi wF s15 z12 => ?_;obtain⟨R,eV7⟩ : ∃ V:EvM,V=⟨Q.o,Q.seq,Q.deps,Q.kind,Q.node,Q.dst,(x.aQ:Int)+1,Q.req,Q.of⟩:=⟨_,rfl⟩;have LV:gu R:=by rw[eV7]; exact⟨LU.o,LU.seq,LU.deps,LU.kind,LU.node,LU.dst,(show pV ((x.aQ:Int)+1)from⟨by omega,by omega⟩),LU.req,LU.of⟩
  have aqB:R.o=(o:Int)+1/\R.seq=(M.ml o).s.known o+1/\R.deps=(M.ml o).s.known:=by rw[eV7]; exact aqz
  have aqC:ow R:=by rw[eV7]; exact⟨by show(x.aQ:Int)+1<=65536; omega,aqA.req⟩
  have yc:aR Mi A 14 (bM R) 37:=wF.congr (fun j C=>by rw[eV7]; exact F4 _ _ j C);have aia:=gP s15 yP.ty;have zW:=kQ aia xA;have yg:=wE.cO s15 (by omega);have b16:=s15.below b15 b15.size (by omega);refine aD<|Wl<|Lv (pf G 7) (jD Y 7)<|Lv (.int .u8 (x.req:Int)) (aM zW.aH 7)<|Lv (aC x.req) (dw rfl rfl (by kernel_rfl) Tryz.underlying23 (jP (by omega) rfl))<|Lv (aC ((x.req:Int)+1)) fC<|Lv (pf A 12) (jD F 12)<|jg yc 12 (aC ((x.req:Int)+1)) fun Mj AZ s16 z13 => ?_;obtain⟨V8,eV8⟩ : ∃ V:EvM,V=⟨R.o,R.seq,R.deps,R.kind,R.node,R.dst,R.aQ,(x.req:Int)+1,R.of⟩:=⟨_,rfl⟩;have aqD:gu V8:=by rw[eV8]; exact⟨LV.o,LV.seq,LV.deps,LV.kind,LV.node,LV.dst,LV.aQ,(show iA ((x.req:Int)+1)from⟨by omega,by omega⟩),LV.of⟩
  have aqE:V8.o=(o:Int)+1/\V8.seq=(M.ml o).s.known o+1/\V8.deps=(M.ml o).s.known:=by rw[eV8]; exact aqB
  have aqF:ow V8:=by rw[eV8]; exact⟨aqC.aQ,by show(x.req:Int)+1<=256; omega⟩
  have Ay:aR Mj A 14 (bM V8) 37:=AZ.congr (fun j C=>by rw[eV8]; exact V9 _ _ j C);have zX:=yg.cO s16 (by omega);have b17:=s16.below b16 b16.size (by omega);refine Ln<|bR<|sN<|ay<|Lv (.agg (aA 14 (bM V8))) (fD Ay.aH 0 (ha:=F))<|eP zX 0 (ha:=I) (h1:=(fV _)) fun w16 zY JQ z14 => ?_;have A8:aR w16 U 14 (bM V8) 37:=aS zY;have DT:=Ay.cO JQ (by omega);have b18:=JQ.below b17 b17.size (by omega);refine aD (Wr (⟨.agg (aA 14 (bM V8)),rV Tryz.results57 ⟨_,I,aW A8.aH (by kernel_rfl) (by kernel_rfl)⟩,?_⟩));exact⟨V8,aqD,aqF,by rw[<- eo]; exact aqE,rfl,b18⟩
 refine Lv aF (fO c94)<|av aF<|aD<|aK<|ay ?_;by_cases aib:d.kind=4
 ·refine Lv aG (eO aib)<|av aG<|aD<|aO<|ay<|Lv (pf G 7) (jD Y 7)<|Lv (.int .u8 (x.req:Int)) (aM nJ.aH 7)<|Lv (aC x.req) (dw rfl rfl (by kernel_rfl) Tryz.underlying23 (jP (by omega) rfl))<|Lv (aC ((x.req:Int)+1)) fC<|Lv (pf A 12) (jD F 12)<|jg K 12 (aC ((x.req:Int)+1)) fun WZ Ce Mq z15 => ?_;obtain⟨S,eV9⟩ : ∃ V:EvM,V=⟨d.o,d.seq,d.deps,d.kind,d.node,d.dst,d.aQ,(x.req:Int)+1,d.of⟩:=⟨_,rfl⟩;have LW:gu S:=by rw[eV9]; exact⟨t.o,t.seq,t.deps,t.kind,t.node,t.dst,t.aQ,(show iA ((x.req:Int)+1)from⟨by omega,by omega⟩),t.of⟩
  have aqG:S.o=(o:Int)+1/\S.seq=(M.ml o).s.known o+1/\S.deps=(M.ml o).s.known:=by rw[eV9]; exact hd0
  have aic:ow S:=by rw[eV9]; exact⟨X.aQ,by show(x.req:Int)+1<=256; omega⟩
  have Dc:aR WZ A 14 (bM S) 37:=Ce.congr (fun j C=>by rw[eV9]; exact V9 _ _ j C);have aie:=gP Mq K.ty;have Ae:=kQ aie nJ;have Gj:=nK.cO Mq (by omega);have b19:=Mq.below J J.size (by omega);refine aD<|Wl<|Lv (pf G 8) (jD Y 8)<|Lv (.int .u8 (x.of:Int)) (aM Ae.aH 8)<|Lv (aC x.of) (dw rfl rfl (by kernel_rfl) Tryz.underlying23 (jP (by omega) rfl))<|Lv (aC ((x.of:Int)+1)) fC<|Lv (pf A 13) (jD F 13)<|jg Dc 13 (aC ((x.of:Int)+1)) fun W9 Ef s19 z16 => ?_;obtain⟨Xi,Zg⟩ : ∃ V:EvM,V=⟨S.o,S.seq,S.deps,S.kind,S.node,S.dst,S.aQ,S.req,(x.of:Int)+1⟩:=⟨_,rfl⟩;have aif:gu Xi:=by rw[Zg]; exact⟨LW.o,LW.seq,LW.deps,LW.kind,LW.node,LW.dst,LW.aQ,LW.req,(show iA ((x.of:Int)+1)from⟨by omega,by omega⟩)⟩
  have aii:Xi.o=(o:Int)+1/\Xi.seq=(M.ml o).s.known o+1/\Xi.deps=(M.ml o).s.known:=by rw[Zg]; exact aqG
  have aij:ow Xi:=by rw[Zg]; exact⟨aic.aQ,aic.req⟩
  have Gl:aR W9 A 14 (bM Xi) 37:=Ef.congr (fun j C=>by rw[Zg]; exact ahT _ _ j C);have wN:=Gj.cO s19 (by omega);have b20:=s19.below b19 b19.size (by omega);refine Ln<|bR<|sN<|ay<|Lv (.agg (aA 14 (bM Xi))) (fD Gl.aH 0 (ha:=F))<|eP wN 0 (ha:=I) (h1:=(fV _)) fun w19 yj s20 z17 => ?_;have wO:aR w19 U 14 (bM Xi) 37:=aS yj;have pX:=Gl.cO s20 (by omega);have Qb:=s20.below b20 b20.size (by omega);refine aD (Wr (⟨.agg (aA 14 (bM Xi)),rV Tryz.results57 ⟨_,I,aW wO.aH (by kernel_rfl) (by kernel_rfl)⟩,?_⟩));exact⟨Xi,aif,aij,by rw[<- eo]; exact aii,rfl,Qb⟩
 refine Lv aF (fO aib)<|av aF<|aD<|aK<|ay ?_;by_cases aik:d.kind=5
 ·refine Lv aG (eO aik)<|av aG<|aD<|aO<|ay<|bf h4<|Lv (pf A 9) (jD F 9)<|jg K 9 (aC nd) fun Xa oV s21 z18 => ?_;obtain⟨N,Zh⟩ : ∃ V:EvM,V=⟨d.o,d.seq,d.deps,d.kind,nd,d.dst,d.aQ,d.req,d.of⟩:=⟨_,rfl⟩;have Du:gu N:=by rw[Zh]; exact⟨t.o,t.seq,t.deps,t.kind,PE,t.dst,t.aQ,t.req,t.of⟩
  have ail:N.o=(o:Int)+1/\N.seq=(M.ml o).s.known o+1/\N.deps=(M.ml o).s.known:=by rw[Zh]; exact hd0
  have ain:ow N:=by rw[Zh]; exact⟨X.aQ,X.req⟩
  have qE:aR Xa A 14 (bM N) 37:=oV.congr (fun j C=>by rw[Zh]; exact Eu _ _ j C);have aio:=gP s21 K.ty;have pY:=kQ aio nJ;have rz:=nK.cO s21 (by omega);have OB:=s21.below J J.size (by omega);refine aD<|ay<|Lv (pf G 6) (jD Y 6)<|Lv (.int .u16 (x.aQ:Int)) (aM pY.aH 6)<|Lv (au x.aQ) (dw rfl rfl (by kernel_rfl) Tryz.underlying2 (iC (by omega) rfl))<|Lv (au ((x.aQ:Int)+1)) fC<|Lv (pf A 11) (jD F 11)<|jg qE 11 (au ((x.aQ:Int)+1)) fun w21 sH s22 z19 => ?_;obtain⟨O,Zi⟩ : ∃ V:EvM,V=⟨N.o,N.seq,N.deps,N.kind,N.node,N.dst,(x.aQ:Int)+1,N.req,N.of⟩:=⟨_,rfl⟩;have Dv:gu O:=by rw[Zi]; exact⟨Du.o,Du.seq,Du.deps,Du.kind,Du.node,Du.dst,(show pV ((x.aQ:Int)+1)from⟨by omega,by omega⟩),Du.req,Du.of⟩
  have aip:O.o=(o:Int)+1/\O.seq=(M.ml o).s.known o+1/\O.deps=(M.ml o).s.known:=by rw[Zi]; exact ail
  have aaC:ow O:=by rw[Zi]; exact⟨by show(x.aQ:Int)+1<=65536; omega,ain.req⟩
  have vg:aR w21 A 14 (bM O) 37:=sH.congr (fun j C=>by rw[Zi]; exact F4 _ _ j C);have aiq:=gP s22 qE.ty;have rA:=kQ aiq pY;have uq:=rz.cO s22 (by omega);have XD:=s22.below OB OB.size (by omega);refine aD ?_;obtain⟨W,er6⟩ : ∃ r,r=x.dst % 6:=⟨_,rfl⟩;have hr6:W<6:=by rw[er6]; exact J_ _ (by omega)
  refine Wl<|Lv (pf G 5) (jD Y 5)<|Lv (.int .u8 (x.dst:Int)) (aM rA.aH 5)<|Lv (au x.dst) (dw rfl rfl (by kernel_rfl) Tryz.underlying3 (iC (by omega) rfl))<|Lv (au W) (Fx.uL rfl rfl rfl (by omega) (D5 er6))<|Lv (au ((W:Int)+1)) fC<|Lv (pf A 10) (jD F 10)<|jg vg 10 (au ((W:Int)+1)) fun w22 zw s23 z20 => ?_;obtain⟨Xj,Zj⟩ : ∃ V:EvM,V=⟨O.o,O.seq,O.deps,O.kind,O.node,(W:Int)+1,O.aQ,O.req,O.of⟩:=⟨_,rfl⟩;have ais:gu Xj:=by rw[Zj]; exact⟨Dv.o,Dv.seq,Dv.deps,Dv.kind,Dv.node,(show pV ((W:Int)+1)from⟨by omega,by omega⟩),Dv.aQ,Dv.req,Dv.of⟩
  have ait:Xj.o=(o:Int)+1/\Xj.seq=(M.ml o).s.known o+1/\Xj.deps=(M.ml o).s.known:=by rw[Zj]; exact aip
  have aiu:ow Xj:=by rw[Zj]; exact⟨aaC.aQ,aaC.req⟩
  have vk:aR w22 A 14 (bM Xj) 37:=zw.congr (fun j C=>by rw[Zj]; exact V7 _ _ j C);have Cg:=uq.cO s23 (by omega);have XE:=s23.below XD XD.size (by omega);refine Ln<|bR<|sN<|ay<|Lv (.agg (aA 14 (bM Xj))) (fD vk.aH 0 (ha:=F))<|eP Cg 0 (ha:=I) (h1:=(fV _)) fun w23 xI s24 z21 => ?_;have uw:aR w23 U 14 (bM Xj) 37:=aS xI;have yt:=vk.cO s24 (by omega);have b25:=s24.below XE XE.size (by omega);refine aD (Wr (⟨.agg (aA 14 (bM Xj)),rV Tryz.results57 ⟨_,I,aW uw.aH (by kernel_rfl) (by kernel_rfl)⟩,?_⟩));exact⟨Xj,ais,aiu,by rw[<- eo]; exact ait,rfl,b25⟩
 refine Lv aF (fO aik)<|av aF<|aD<|aK<|ay ?_;by_cases aiv:d.kind=6
 ·refine Lv aG (eO aiv)<|av aG<|aD<|aO ?_;obtain⟨W,er6⟩ : ∃ r,r=x.dst % 6:=⟨_,rfl⟩;have hr6:W<6:=by rw[er6]; exact J_ _ (by omega)
  refine Wl<|Lv (pf G 5) (jD Y 5)<|Lv (.int .u8 (x.dst:Int)) (aM nJ.aH 5)<|Lv (au x.dst) (dw rfl rfl (by kernel_rfl) Tryz.underlying3 (iC (by omega) rfl))<|Lv (au W) (Fx.uL rfl rfl rfl (by omega) (D5 er6))<|Lv (au ((W:Int)+1)) fC<|Lv (pf A 10) (jD F 10)<|jg K 10 (au ((W:Int)+1)) fun w24 yu Z8 z22 => ?_;obtain⟨Xk,Zk⟩ : ∃ V:EvM,V=⟨d.o,d.seq,d.deps,d.kind,d.node,(W:Int)+1,d.aQ,d.req,d.of⟩:=⟨_,rfl⟩;have aiw:gu Xk:=by rw[Zk]; exact⟨t.o,t.seq,t.deps,t.kind,t.node,(show pV ((W:Int)+1)from⟨by omega,by omega⟩),t.aQ,t.req,t.of⟩
  have aix:Xk.o=(o:Int)+1/\Xk.seq=(M.ml o).s.known o+1/\Xk.deps=(M.ml o).s.known:=by rw[Zk]; exact hd0
  have aiy:ow Xk:=by rw[Zk]; exact⟨X.aQ,X.req⟩
  have uy:aR w24 A 14 (bM Xk) 37:=yu.congr (fun j C=>by rw[Zk]; exact V7 _ _ j C);have Jh:=nK.cO Z8 (by omega);have b26:=Z8.below J J.size (by omega);refine Ln<|bR<|sN<|ay<|Lv (.agg (aA 14 (bM Xk))) (fD uy.aH 0 (ha:=F))<|eP Jh 0 (ha:=I) (h1:=(fV _)) fun w25 E8 s26 z23 => ?_;have Bc:aR w25 U 14 (bM Xk) 37:=aS E8;have Gv:=uy.cO s26 (by omega);have b27:=s26.below b26 b26.size (by omega);refine aD (Wr (⟨.agg (aA 14 (bM Xk)),rV Tryz.results57 ⟨_,I,aW Bc.aH (by kernel_rfl) (by kernel_rfl)⟩,?_⟩));exact⟨Xk,aiw,aiy,by rw[<- eo]; exact aix,rfl,b27⟩
 refine Lv aF (fO aiv)<|av aF<|aD<|aK<|Wk<|bR<|sN<|ay<|Lv (.agg (aA 14 (bM d))) (fD K.aH 0 (ha:=F))<|eP nK 0 (ha:=I) (h1:=(fV _)) fun w26 Ci s27 z24 => ?_;have Af:aR w26 U 14 (bM d) 37:=aS Ci;have KT:=K.cO s27 (by omega);have b28:=s27.below J J.size (by omega);refine aD (Wr (⟨.agg (aA 14 (bM d)),rV Tryz.results57 ⟨_,I,aW Af.aH (by kernel_rfl) (by kernel_rfl)⟩,?_⟩));exact⟨d,t,X,by rw[<- eo]; exact hd0,rfl,b28⟩
theorem Rt.Q8{L:eY}{v:EvM}(h:bA L v=0):bQ v=true:=by
 unfold bA at h;split at h; · cases h
 rename_i h1; simpa using h1
structure Rt.DoR(o:Nat)(x:DZ)(M M':WM)(v:EvM):Prop where
 n:M'.n=M.n
 oth : ∀ q,q≠o->M'.ml q=M.ml q
 c:(v=zeroE/\M'.an=M.an/\M'.ev=M.ev/\((M'.ml o).core=(M.ml o).core\/x.meet=true/\(M'.ml o).core=FH M.ev M.an (M.ml (x.other % M.n)).s.known (M.ml o).core))\/(x.meet=false/\M'.an=M.an+1/\M'.ev=aI M.ev M.an v/\bA (M.ml o).core v=0/\(M'.ml o).core=bV (M.ml o).core v/\v.o=(o:Int)+1/\v.seq=(M.ml o).s.known o+1/\v.deps=(M.ml o).s.known)
theorem Rt.za{L:eY}{v:EvM}(h:bA L v=0):(bV L v).known=aI L.known (aL v) (L.known (aL v)+1):=by
 rcases lW L v with ⟨_,a⟩|⟨h1,_⟩
 ·exact a
 exact M_ h h1
theorem Rt.ql:gu zeroE:=by
 have z:iA 0:=⟨by decide,by decide⟩;have y:pV 0:=⟨by decide,by decide⟩;exact⟨y,z,fun _ _=>z,⟨by decide,by decide⟩,z,y,y,z,z⟩
def Xl(p:Nat)(M:WM)(k:Nat):Prop:=k=p\/(Value.slice M.la M.n M.lc).ownBlock=some k\/(Value.slice M.aa M.an M.ac).ownBlock=some k
def Zl(w:World)(p:Nat)(M a:WM):Prop := ∀ k,Xl p a k->Xl p M k\/w.heap.size<=k
theorem oo.ge{w:World}{B p T:Nat}{M:WM}(h:oo w B p M T) : ∀ k,Xl p M k->B<=k/\k<w.heap.size:=fun k b=>by
 rcases b with rfl|e|e
 ·exact⟨h.pB,h.c.lt⟩
 ·exact h.l.ge e
 ·exact h.a.ge e
theorem oo.CQ{w w':World}{B p T:Nat}{M:WM}(h:oo w B p M T)(a:B<=w.heap.size)(c:jV (Xl p M) w w'):Below B w w':=Fx.jV.below (Below.refl B w) c (fun k b=>(h.ge k b).1) a
theorem oo.BN{w w':World}{B p T:Nat}{M:WM}(h:oo w B p M T)(d:jV (Xl p M) w w'):iP [78,29,37] w w':=Fx.iP.R3 d fun k b=>by
 rcases b with rfl|e|e
 ·exact⟨_,h.c.ty,by decide⟩
 ·exact⟨_,h.l.ty e,by decide⟩
 ·exact⟨_,h.a.ty e,by decide⟩
theorem Zl.app{w b:World}{p g:Nat}{M a:WM}(i:(Value.slice M.aa M.an M.ac).ownBlock=some g\/g=b.heap.size)(l:w.heap.size<=b.heap.size)(h1:a.la=M.la:=by rfl)(c:a.n=M.n:=by rfl)(d:a.lc=M.lc:=by rfl)(f:(Value.slice a.aa a.an a.ac).ownBlock=some g:=by rfl):Zl w p M a:=fun k j=>by
 rcases j with h|h|h
 ·exact .inl (.inl h)
 ·rw[h1,c,d]at h; exact .inl (.inr (.inl h))
 ·have e:g=k:=C_ (f.symm.trans h)
  rcases i with h5|h5
  ·exact .inl (.inr (.inr (e ▸ h5)))
  ·exact .inr (by omega)
theorem oo.mono{w:World}{B p T T':Nat}{M:WM}(h:oo w B p M T)(a:T<=T'):oo w B p M T' := { h with inv:=fun i b=>(h.inv i b).mono a }
set_option maxRecDepth 20000 in
set_option maxHeartbeats 2000000 in
theorem aiz(M:WM)(B p T:Nat)(x:DZ)(w:World)(d:oo w B p M T)(hB:B<=w.heap.size)(hx:FZ x)(han:M.an<=60)(hT:T<=890000) :
 Calls Tryz.prog 28 #[(pt p),.agg (aA 9 (F3 x))] w fun e w' => ∃ v,e = .returned (.agg (aA 14 (bM v)))/\gu v /\ ∃ O,oo w' B p O (T+3660)/\DoR (x.who % M.n) x M O v/\O.an<=M.an+1/\(x.meet=true->O.an=M.an)/\jV (Xl p M) w w'/\Zl w p M O:=by
 have hWc:=d.c;have hWl:=d.l;have hWa:=d.a;have hWg:=d.g;have hn1:=d.n1;have hn6:=d.n6;have hpB:=d.pB;have lpp:p<w.heap.size:=hWc.lt;have hxw:=hx.who;have hxo:=hx.other;have hxk:=hx.kind;have hxn:=hx.node;have hxt:=hx.dst;have hxa:=hx.aQ;have hxr:=hx.req;have hxf:=hx.of;refine Kent Tryz.func28 94 ?_;refine ay<|pR fun g1 w1 mo m1 s1 z1 => ?_;have⟨m2,f,m4,m5,m6⟩:=qU s1.old hWc hWl hWa hWg d;have b1:=(uH (Xl p M) w).then s1 (.inr (uH (Xl p M) w).size);have sM:w.heap.size<=g1:=by rw[mo]; exact(uH (Xl p M) w).size
 have nG:=cK mo hWc.lt;have ug:=m1.lt;refine rR 14 (fun b=>if b<1 then au 0 else if b<8 then aC 0 else if b<9 then .int .u8 (0)else if b<10 then aC 0 else if b<12 then au 0 else aC 0) fun R w2 ad m7 s2 z2 => ?_;have⟨m8,m9,m10,m11,m12,m13⟩:=rT s2.old m2 f m4 m5 m6 m1;have b2:=b1.then s2 (.inr b1.size);have ru:=iQ ad b1.size;have aao:=cK ad m2.lt;have FT:(.slice M.aa (M.an) (M.ac):Value).ownBlock≠some R:=by rw[ad]; exact m4.ko (A_ _)
 have Am:=cK ad m1.lt;have zK:=m7.lt;refine aD<|Ws ?_;obtain⟨o,Q⟩ : ∃ r,r=x.who % M.n:=⟨_,rfl⟩;have ho:o<M.n:=by rw[Q]; exact J_ _ (by omega)
 refine uO<|aX (pt g1)<|Qv (.int .u8 (x.who:Int)) (fun D C=>aM (m13.aH.dr C) 0)<|Qv (au x.who) (fun D C=>dw rfl rfl (by kernel_rfl) Tryz.underlying3 (iC (by omega) rfl))<|aX (pt p)<|aX (pt p)<|aX (pt p)<|Qv (.slice M.la (M.n) (M.lc)) (fun D C=>aM (m8.aH.dr C) 0)<|aX (au M.n)<|Qv (au o) (fun D C=>Fx.uL rfl rfl rfl (by omega) (D5 Q))<|aX (au o)<|Qn ?_;rintro _ ⟨qd,rfl⟩;obtain⟨BZ,oU⟩ : ∃ D,D=World.drewN w2 qd:=⟨_,rfl⟩;rw[<- oU];have s3:Stp w2.heap.size w2 BZ:=by rw[oU]; exact Sb (je w2 qd)
 have⟨m14,m15,m16,m17,m18,Y,m20⟩:=jR s3.old m8 m9 m10 m11 m12 m13 m7;have Z:=b2.then s3 (.inr b2.size);clear oU;refine sN<|Ws<|ay<|av (pf g1 1) ?_;by_cases H:x.meet=true
 ·refine Lv aG (aM Y.aH 1 ((show _=Value.bool x.meet from rfl).trans (L_ Value.bool H)))<|aD<|aO<|Ws ?_;obtain⟨A,aew⟩ : ∃ r,r=x.other % M.n:=⟨_,rfl⟩;have awH:A<M.n:=by rw[aew]; exact J_ _ (by omega)
  have Ze:=m17 A (by omega);have F5:=Ze.c;have Zf:=m17 o (by omega);refine jW [0,1,2,4,5,6,7,9,12,13,14,16,17,18,20,23,24,25,3,8,10,11,15,19,21,22,26,27,28,29,30,31,32,33,34,35,36,37] [0,0,0,1,0,0,0,0,4,0,0,4,0,0,0,4,0,0,0,4,0,4,0,0,0,0,4,0,0,0,4,0,0,0,4,2,0,3] [(37,3,[3]),(35,8,[11,10,8]),(37,8,[8]),(35,11,[11]),(37,11,[11]),(35,15,[15]),(37,15,[15]),(35,19,[34,33,32,31,30,29,19]),(37,19,[19]),(35,21,[34,33,32,31,30,29,28,22,21]),(37,21,[21]),(35,26,[34,33,32,31,30,29,28,27,26]),(37,26,[26]),(35,30,[34,33,32,31,30]),(37,30,[30]),(35,34,[34]),(37,34,[34]),(36,35,[35]),(37,35,[35])] fun qA dP iE => ?_;have s4:Stp BZ.heap.size BZ qA:=Sb dP;have⟨G,m22,m23,m24,mQ,nH,oq,oL⟩:=ny dP m14 m15 m16 m17 Y m20 F5 Zf;have b4:=Z.then s4 (.inr Z.size);refine aY (pt p)<|aY (pt p)<|aY (pt p)<|aY (au o)<|aY (pt p)<|aY (pt p)<|aY (pt p)<|aY (au o)<|aY (pt p)<|aY (pt p)<|aY (pf p 1)<|aY (pt p)<|aY (pt p)<|aY (pt p)<|aY (pf g1 2)<|aY (pt p)<|aY (pt p)<|aY (pt p)<|Rd (v := .slice M.la (M.n) (M.lc)) (by rfl) (by rfl) (tZ _) (fun D C=>bC (x:=Ms (.slice M.la (M.n) (M.lc)) (.slice M.aa (M.an) (M.ac))) rfl rfl (by kernel_rfl) (G.aH.below C (by have:=G.lt; omega)) (i:=0) (by omega) (by omega) rfl) ?_;refine Rs (.slice M.la (M.n) (M.lc)) (aM G.aH 0) ?_;obtain⟨S,J⟩:=m22.addr (by omega);have oM:Fx.Own qA B 29 1 (bO S M.n M.lc) M.n (GD M.pl):=m22.fH (L_ (fun q=>Value.slice q M.n M.lc) J);refine Rp (pf S o) (fun _=>dh 1 (hx:=(rfl.trans (L_ (fun q=>Value.slice q (M.n) (M.lc)) J))))<|Rs (pt (M.pl o)) (aM oM.aH o) ?_;refine Rs (.slice M.aa (M.an) (M.ac)) (aM G.aH 1) ?_;refine Rs (.slice M.la (M.n) (M.lc)) (aM G.aH 0) ?_;refine Rs (.int .u8 (x.other:Int)) (aM mQ.aH 2) ?_;refine Rp (au x.other) (fun D=>dw rfl rfl (by kernel_rfl) Tryz.underlying3 (iC (by omega) rfl))<|Rs (.slice M.la (M.n) (M.lc)) (aM G.aH 0) ?_;refine aY (au M.n)<|Rp (au A) (fun D=>Fx.uL rfl rfl rfl (by omega) (D5 aew))<|Rp (pf S A) (fun _=>dh 1 (hx:=(rfl.trans (L_ (fun q=>Value.slice q (M.n) (M.lc)) J))))<|Rs (pt (M.pl A)) (aM oM.aH A) ?_;refine aY (pt (M.pl A))<|aY (pt (M.pl A))<|aY (pf (M.pl A) 12)<|Rs (.agg (aA 6 (rv .u64 ((M.ml A).s.known)))) (fD oq.aH 12 (fun j W=>kF _ (by omega) (jO _ W (by omega)))) ?_;refine xM<|mh (Yv (M.ml o) B (M.pl o) T M.aa M.an M.ac M.ev ((M.ml A).s.known) _ oL (d.inv o (by omega)) m23.arr d.wf d.may d.sm han hT) ?_;rintro e9 w3 ⟨t,f,E,hlc,hI3,hL1,hb1⟩;refine⟨(pt t),E,?_⟩;clear E;have s5:=Sb hb1;have⟨oC,mI,m32,nV,oN⟩:=qU hb1 G m23 m24 nH oM;have b5:=b4.then s5 (.inr b4.size);refine Ln ⟨s5.old,?_⟩;refine Rp (pf S o) (fun _=>dh 1 (hx:=(rfl.trans (L_ (fun q=>Value.slice q (M.n) (M.lc)) J))))<|gQ<|qp oN o (pt t) fun w4 sP s6 z3 => ?_;have gV:=gP s6 oN.Kc;have⟨qX,qY,uI,nJ,rY⟩:=qV gV oC mI m32 nV hL1;have b6:=b5.then s6 (.inl (.inr (.inl (by rw[J]; rfl))));have qK:Fx.Own w4 B 29 1 (bO S M.n M.lc) M.n (GD (aI M.pl o t)):=sP.congr (fun F _=>congrFun V4 F);refine Ln<|bS<|ay<|av (.agg (aA 14 (fun b=>if b<1 then au 0 else if b<8 then aC 0 else if b<9 then .int .u8 (0)else if b<10 then aC 0 else if b<12 then au 0 else aC 0)))<|eP nJ 0 (h1:=(fun F _=>by show((fun b=>if b<1 then au 0 else if b<8 then aC 0 else if b<9 then .int .u8 (0)else if b<10 then aC 0 else if b<12 then au 0 else aC 0:Nat->Value) F).oneCell'=true; simp only[]; repeat (first|rfl|split))) fun w5 oO s7 z4 => ?_
  have sQ:aR w5 R 14 (fun b=>if b<1 then au 0 else if b<8 then aC 0 else if b<9 then .int .u8 (0)else if b<10 then aC 0 else if b<12 then au 0 else aC 0) 37:=aS oO;have ku:=gP s7 nJ.ty;have xE:=kQ ku qX;have uh:=qY.cO s7 FT;have⟨tL,uJ,wD⟩:=DF ku uI rY qK;have b7:=b6.then s7 (.inr ru);refine aD (Wr (sR (⟨.agg (aA 14 (fun b=>if b<1 then au 0 else if b<8 then aC 0 else if b<9 then .int .u8 (0)else if b<10 then aC 0 else if b<12 then au 0 else aC 0)),rV Tryz.results28 ⟨_,rfl,aW sQ.aH (by kernel_rfl) (by kernel_rfl)⟩,?_⟩)));have xY:Fx.Own w5 B 29 1 (.slice M.la (M.n) (M.lc)) M.n (GD (aI M.pl o t)):=wD.fH (L_ (fun q=>Value.slice q M.n M.lc) J.symm);exact⟨zeroE,L_ (fun z=>Ending.returned (Value.agg z)) (Fx.dW (y:=bM zeroE) fun j W=>by rcases j with _|_|_|_|_|_|_|_|_|_|_|_|_|_|j <;> first|rfl|omega),ql,{ M with pl:=aI M.pl o t,ml:=aI M.ml o f },{ c:=xE,l:=xY,a:=uh,g:=tL.put uJ,inv:=(fun i U=>by show Inv (aI M.ml o f i).core _; unfold aI; split; exact hI3; exact(d.inv i U).mono (by omega)),wf:=d.wf,may:=d.may,sm:=d.sm,cz:=d.cz.learn (o:=o) (by omega) (L:=(M.ml o).core) rfl (fun q u=>by show(aI M.ml o f q).s.known=_; unfold aI; rw[b_ u]) (by show(aI M.ml o f o).s.known=_; unfold aI; rw[d_ rfl]; exact L_ eY.known hlc),pB:=hpB,n1:=hn1,n6:=hn6 },(by rw[<- Q]; exact⟨rfl,fun q u=>by show aI M.ml o f q=_; unfold aI; rw[b_ u],.inl ⟨rfl,rfl,rfl,.inr ⟨H,by rw[<- aew]; show(aI M.ml o f o).core=_; unfold aI; rw[d_ rfl]; exact hlc⟩⟩⟩),(by show M.an<=M.an+1; omega),(fun _=>rfl),b7,fun _ h => .inl h⟩
 rw[T_]at H;refine Lv aF (aM Y.aH 1 ((show _=Value.bool x.meet from rfl).trans (L_ Value.bool H)))<|aD<|aK<|Wk<|sN<|ay<|av (pt p)<|Lv (.agg (aA 9 (F3 x))) (fD Y.aH 0)<|mh (Zd M B p T x _ m18 hx) ?_;rintro e9 w6 ⟨V,hV,hVs,hVd,E,hb2⟩;refine⟨_,E,?_⟩;clear E;rw[<- Q]at hVd;have s8:=Sb hb2;have⟨uK,sU,tN,xZ,vN,oD⟩:=rT hb2 m14 m15 m16 m17 Y m20;have b8:=Z.then s8 (.inr Z.size);refine rR 14 (fun b=>if b<1 then au 0 else if b<8 then aC 0 else if b<9 then .int .u8 (0)else if b<10 then aC 0 else if b<12 then au 0 else aC 0) fun g3 w7 ae uj s9 z5 => ?_;have⟨m64,xG,xu,vO,xH,sV⟩:=rT s9.old uK sU tN xZ vN oD;have b9:=b8.then s9 (.inr b8.size);have C9:=iQ ae b8.size;have aqI:=cK ae uK.lt;have NW:(.slice M.aa (M.an) (M.ac):Value).ownBlock≠some g3:=by rw[ae]; exact tN.ko (A_ _)
 have⟨aqJ,aqK⟩:=wh ae vN.lt oD.lt;have JR:=uj.lt;refine eP uj 0 (h1:=(fV _)) fun w8 vP s10 z6 => ?_;have uT:aR w8 g3 14 (bM V) 37:=aS vP;have rX:=gP s10 uj.ty;have⟨vQ,vR⟩:=BM rX m64 xG;have zJ:=xu.cO s10 NW;have⟨xw,zq⟩:=BM rX vO xH;have zu:=sV.cO s10 (by omega);have b10:=b9.then s10 (.inr C9);refine aD<|Ws ?_;have aqL:=xw o (by omega);refine jW [0,1,2,4,3,5,6,7,8,9,10,11,12,13] [0,0,0,4,0,0,4,4,3,0,0,0,0,0] [(8,3,[6,5,3]),(8,6,[6]),(8,7,[7]),(9,8,[8]),(10,8,[9,8]),(11,8,[9,8]),(12,8,[8]),(13,8,[8])] fun Da gG nU => ?_;have s11:Stp w8.heap.size w8 Da:=Sb gG;have⟨yP,xA,wE,wF,yc,zW,yg,AZ⟩:=ny gG vQ vR zJ xw zq zu uT aqL;have b11:=b10.then s11 (.inr b10.size);refine aY (pt p)<|aY (pt p)<|aY (pt p)<|aY (au o)<|Rs (.slice M.la (M.n) (M.lc)) (aM yP.aH 0) ?_;obtain⟨UF,K⟩:=xA.addr (by omega);have Ay:Fx.Own Da B 29 1 (bO UF M.n M.lc) M.n (GD M.pl):=xA.fH (L_ (fun q=>Value.slice q M.n M.lc) K);refine Rp (pf UF o) (fun _=>dh 1 (hx:=(rfl.trans (L_ (fun q=>Value.slice q (M.n) (M.lc)) K))))<|Rs (pt (M.pl o)) (aM Ay.aH o) ?_;refine Rs (.agg (aA 14 (bM V))) (fD yg.aH 0) ?_;refine gQ<|mh (OY (M.ml o) B (M.pl o) T V _ AZ hV (d.inv o (by omega)).w (by omega)) ?_;rintro e9 w9 ⟨t,f,E,hc3,hL2,hb3⟩;refine⟨.tuple #[(pt t),au (bA (M.ml o).core V)],E,?_⟩;clear E;have s12:=Sb hb3;have⟨Az,zX,zY,A8,ET,DT,Ce⟩:=jR hb3 yP wE wF yc zW yg Ay;have b12:=b11.then s12 (.inr b11.size);refine Ln<|aY (.tuple #[(pt t),au (bA (M.ml o).core V)])<|aY (pt t)<|aY (au (bA (M.ml o).core V))<|aY (pt t)<|aY (au (bA (M.ml o).core V))<|bS<|Ws<|ay<|av (au (bA (M.ml o).core V)) ?_;by_cases I:(bA (M.ml o).core V)=0
 ·refine Lv aF (jQ I)<|aD<|aK<|Wk<|sN<|ay<|av (pt p)<|av (pt p)<|av (pt p)<|Lv (.slice M.la (M.n) (M.lc)) (aM Az.aH 0)<|av (au o)<|av (pt t)<|Lv (pf UF o) (dh 1 (hx:=(rfl.trans (L_ (fun q=>Value.slice q (M.n) (M.lc)) K))))<|qp Ce o (pt t) fun sO Dc s13 z7 => ?_;have zV:=gP s13 Ce.Kc;have⟨Ae,Gj,Ef,Gl,Gu,wN,yj⟩:=R8 zV Az zX zY A8 ET DT hL2;have b13:=b12.then s13 (.inl (.inr (.inl (by rw[K]; rfl))));have wO:Fx.Own sO B 29 1 (bO UF M.n M.lc) M.n (GD (aI M.pl o t)):=Dc.congr (fun F _=>congrFun V4 F);refine aD<|Ws ?_;have uo:Fx.Own sO B 29 1 (.slice M.la (M.n) (M.lc)) M.n (GD (aI M.pl o t)):=wO.fH (L_ (fun q=>Value.slice q M.n M.lc) K.symm);refine zC [0,1,2,3,4,5,6,7,8,9,10] [0,0,0,0,1,4,2,2,0,0,3] (iP [37]) vM Fx.iP.trans (fG := [(10,4,[4]),(6,5,[5]),(7,5,[6,5]),(10,5,[5]),(7,6,[6]),(8,6,[6]),(9,6,[6]),(10,6,[6]),(8,7,[7]),(9,7,[7]),(10,7,[7])]) (by kernel_rfl) (by kernel_rfl) (by kernel_rfl) (by kernel_rfl) (by kernel_rfl) fun Rv lY AX => ?_;have BG:Stp sO.heap.size sO Rv:=Sb lY;have⟨pX,oV,qE,pY,rz,sH,vg,rA⟩:=ny lY Ae Gj Ef Gl Gu wN yj uo;have b14:=b13.then BG (.inr b13.size);refine aY (pt p)<|aY (pt p)<|aY (pt p)<|aY (pf p 1)<|Rd (v := .slice M.aa (M.an) (M.ac)) (by rfl) (by rfl) (vM _) (fun D C=>bC (x:=Ms (.slice M.la (M.n) (M.lc)) (.slice M.aa (M.an) (M.ac))) rfl rfl (by kernel_rfl) (pX.kN C (by decide)).aH (i:=1) (by omega) (by omega) rfl) ?_;refine Rs (.agg (aA 14 (bM V))) (fD sH.aH 0) ?_;refine xM<|yK (vs := [(0,.agg (aA 14 (bM V)))]) (s:=14) (zc:=fun b=>if b<1 then au 0 else if b<8 then aC 0 else if b<9 then .int .u8 (0)else if b<10 then aC 0 else if b<12 then au 0 else aC 0) (y:=bK (fun j=>(fun b=>if b<1 then au 0 else if b<8 then aC 0 else if b<9 then .int .u8 (0)else if b<10 then aC 0 else if b<12 then au 0 else aC 0) (j % 14)) (0*14) 14 (bM V)) (by rfl) rfl rfl Tryz.underlying76 (by kernel_rfl) (by rfl) (by rfl) (by kernel_rfl) (by rw[bG (off:=0*14) (s:=14) (y:=bM V) rfl (bI _ _) (by rfl)]; rfl) rfl fun g4 Gi af uq s15 z8 => ?_;have⟨zw,vk,zx,xI,uw,qF,yt⟩:=jR s15.old pX oV qE rz sH vg rA;have b15:=b14.then s15 (.inr b14.size);have Rw:=iQ af b14.size;have Yd:=cK af pX.lt;have Ye:(.slice M.aa (M.an) (M.ac):Value).ownBlock≠some g4:=by rw[af]; exact oV.ko (A_ _)
  have⟨aku,akv,Yf⟩:=EK af pY.lt rz.lt sH.lt;have QF:=uq.lt;refine Ln ⟨Fx.iP.of_below s15.old,?_⟩;refine xM<|zk (B:=B) (s:=14) (bytes:=112) (k:=M.an) (m:=1) (v := .slice M.aa (M.an) (M.ac)) (x:=evX M.ev) (by rfl) rfl rfl rfl Tryz.underlying76 (by kernel_rfl) (by kernel_rfl) rfl rfl vk uq.aH (yS (fun j=>(show(bM V j).oneCell'=true by unfold bM; repeat (first|rfl|split)))) (by omega) (by omega) (by omega) (m_ hB b15.size) fun N ab BR ho1 hg1 wB hlt1 => ?_
  have zn:=zl hg1 vk;have⟨uy,Ch⟩:=BM zn zw zx;have E8:=xI.grown hg1 FT;have akw:R≠N:=fun e=>wB.elim (fun P=>FT (by rw[e]; exact P)) (fun P=>by have:=xI.lt; omega);have Bc:=uw.grown hg1 NW;have akx:g3≠N:=fun e=>wB.elim (fun P=>NW (by rw[e]; exact P)) (fun P=>by have:=uw.lt; omega);have⟨E9,Gv⟩:=BM zn qF yt;have yu:Fx.Own BR B 37 14 (bO N (M.an+1) ab) (M.an+1) (evX (aI M.ev M.an V)):=(ho1.congr (fun j W=>aes j W));have b16:jV (Xl p M) w BR:=Fx.jV.grow b15 hg1 (fun q u => .inl (.inr (.inr u)));refine Ln ⟨zn,?_⟩;refine aY (pt p)<|aY (pf p 1)<|gQ<|jg uy 1 (bO N (M.an+1) ab) fun Gt Ci s16 z9 => ?_;have Af:aR Gt p 2 (Ms (.slice M.la (M.n) (M.lc)) (bO N (M.an+1) ab)) 78:=Ci.congr (ahR _ _ _);have zo:=gP s16 uy.ty;have⟨Jo,Fa,Fb,Gw,Gx,Cj⟩:=R7 zo Ch E8 Bc E9 Gv yu;have b17:=b16.then s16 (.inl (.inl rfl));refine Ln<|bS<|ay<|Lv (.agg (aA 14 (bM V))) (fD Fb.aH 0)<|eP Fa 0 (h1:=(fV _)) fun Mi Fe JQ z10 => ?_;have Ck:aR Mi R 14 (bM V) 37:=aS Fe;have Bb:=gP JQ Fa.ty;have Fw:=kQ Bb Jo;have Ag:=Fb.cO JQ (by omega);have⟨Cm,Bd⟩:=BM Bb Gw Gx;have Ji:=Cj.abb JQ (by omega);have Um:=kQ Bb Af;have b18:=b17.then JQ (.inr ru);refine aD (Wr (⟨.agg (aA 14 (bM V)),rV Tryz.results28 ⟨_,rfl,aW Ck.aH (by kernel_rfl) (by kernel_rfl)⟩,?_⟩));have hinv:Inv f.core (T+3660):=by rw[hc3]; exact(H8 hVs (d.inv o (by omega))).mono (by omega)
  have eRo:aL V=o:=by unfold aL; omega
  have hk3:f.s.known=aI (M.ml o).s.known o ((M.ml o).s.known o+1):=(L_ eY.known hc3).trans (by rw[za I,eRo]; rfl);exact⟨V,rfl,hV,{ M with pl:=aI M.pl o t,ml:=aI M.ml o f,an:=M.an+1,aa:=some ⟨N,0,none⟩,ac:=ab,ev:=aI M.ev M.an V },{ c:=Um,l:=Bd,a:=Ji,g:=Fw.put Cm,inv:=(fun i U=>by show Inv (aI M.ml o f i).core _; unfold aI; split; exact hinv; exact(d.inv i U).mono (by omega)),wf:=(fun k X=>by have hk2:k<M.an+1:=X; show gu (aI M.ev M.an V k); unfold aI; split; exact hV; exact d.wf k (by omega)),may:=(fun k X=>by have hk2:k<M.an+1:=X; show bQ (aI M.ev M.an V k)=true; unfold aI; split; exact Q8 I; exact d.may k (by omega)),sm:=(fun k X=>by have hk2:k<M.an+1:=X; show ow (aI M.ev M.an V k); unfold aI; split; exact hVs; exact d.sm k (by omega)),cz:=d.cz.event (o:=o) (by omega) (iK I) eRo hVd.2.2 (fun q u=>by show(aI M.ml o f q).s.known=_; unfold aI; rw[b_ u]) (by show(aI M.ml o f o).s.known=_; unfold aI; rw[d_ rfl]; exact hk3),pB:=hpB,n1:=hn1,n6:=hn6 },(by rw[<- Q]; exact⟨rfl,fun q u=>by show aI M.ml o f q=_; unfold aI; rw[b_ u],.inr ⟨H,rfl,rfl,I,by show(aI M.ml o f o).core=_; unfold aI; rw[d_ rfl]; exact hc3,hVd⟩⟩),A_ _,(fun u=>by rw[H]at u; cases u),b18,Zl.app wB b15.size⟩
 refine Lv aG (nk I)<|aD<|aO<|ay<|av (.agg (aA 14 (fun b=>if b<1 then au 0 else if b<8 then aC 0 else if b<9 then .int .u8 (0)else if b<10 then aC 0 else if b<12 then au 0 else aC 0)))<|eP ET 0 (h1:=(fun F _=>by show((fun b=>if b<1 then au 0 else if b<8 then aC 0 else if b<9 then .int .u8 (0)else if b<10 then aC 0 else if b<12 then au 0 else aC 0:Nat->Value) F).oneCell'=true; simp only[]; repeat (first|rfl|split))) fun Mj UD Mq z11 => ?_
 have Un:aR Mj R 14 (fun b=>if b<1 then au 0 else if b<8 then aC 0 else if b<9 then .int .u8 (0)else if b<10 then aC 0 else if b<12 then au 0 else aC 0) 37:=aS UD;have EZ:=gP Mq ET.ty;have Uo:=kQ EZ Az;have acI:=zX.cO Mq FT;have Uq:=kQ EZ zY;have Ur:=DT.cO Mq (by omega);have Qu:=kQ EZ Ce;have b19:=b12.then Mq (.inr ru);refine aD (Wr (sR (⟨.agg (aA 14 (fun b=>if b<1 then au 0 else if b<8 then aC 0 else if b<9 then .int .u8 (0)else if b<10 then aC 0 else if b<12 then au 0 else aC 0)),rV Tryz.results28 ⟨_,rfl,aW Un.aH (by kernel_rfl) (by kernel_rfl)⟩,?_⟩)));have Uu:Fx.Own Mj B 29 1 (.slice M.la (M.n) (M.lc)) M.n (GD M.pl):=Qu.fH (L_ (fun q=>Value.slice q M.n M.lc) K.symm);exact⟨zeroE,L_ (fun z=>Ending.returned (Value.agg z)) (Fx.dW (y:=bM zeroE) fun j W=>by rcases j with _|_|_|_|_|_|_|_|_|_|_|_|_|_|j <;> first|rfl|omega),ql,M,{ c:=Uo,l:=Uu,a:=acI,g:=Uq,inv:=fun i U=>(d.inv i U).mono (by omega),wf:=d.wf,may:=d.may,sm:=d.sm,cz:=d.cz,pB:=hpB,n1:=hn1,n6:=hn6 },⟨rfl,fun _ _=>rfl,.inl ⟨rfl,rfl,rfl,.inl rfl⟩⟩,by omega,(fun _=>rfl),b19,fun _ h => .inl h⟩
theorem aiA(M:WM)(B p T:Nat)(x:DZ)(w:World)(c:oo w B p M T)(b:B<=w.heap.size)(hx:FZ x)(m:M.an<=60)(l:T<=890000) :
 Calls Tryz.prog 28 #[(pt p),.agg (aA 9 (F3 x))] w fun e w' => ∃ v,e = .returned (.agg (aA 14 (bM v)))/\gu v /\ ∃ a,oo w' B p a (T+3660)/\DoR (x.who % M.n) x M a v/\a.an<=M.an+1/\(x.meet=true->a.an=M.an)/\Below B w w' :=
 (aiz M B p T x w c b hx m l).mono fun _ _ ⟨v,d,f,a,g,h,i,j,k,_⟩=>⟨v,d,f,a,g,h,i,j,c.CQ b k⟩
end Go.Proofs.YtcbedgfikejkoaaGreatDoor
namespace Go.Proofs.YtcbedgfikejkoaaGreatDoor
open Go.RowKit Go.WideShapes Go.ChangeShapes Go.Deep Rt
def Wh:Value->Bool | .bool b=>b|_=>false
theorem RA.int{k:IntKind}{v:Value}(h:RA (some k) v):v = .int k (intOf v)/\(Lit.int k (intOf v)).wf=true:=by
 obtain⟨n,rfl,a⟩:=h; exact⟨rfl,a⟩
theorem RA.bool{v:Value}(h:RA none v):v = .bool (Wh v):=by
 obtain⟨b,rfl⟩:=h; rfl
theorem wf_u8{n:Int}(h:(Lit.int .u8 n).wf=true):0<=n/\n<=255:=by simp[Lit.wf,IntKind.min,IntKind.max,IntKind.bits,IntKind.signed]at h; omega
theorem wf_u16{n:Int}(h:(Lit.int .u16 n).wf=true):0<=n/\n<=65535:=by simp[Lit.wf,IntKind.min,IntKind.max,IntKind.bits,IntKind.signed]at h; omega
theorem wf_u64{n:Int}(h:(Lit.int .u64 n).wf=true):iA n:=by simp[Lit.wf,IntKind.min,IntKind.max,IntKind.bits,IntKind.signed]at h; unfold iA; omega
theorem NY{n:Int}(h:(Lit.int .u8 n).wf=true) : ∃ m:Nat,n=(m:Int)/\m<=255:=by
 have:=wf_u8 h; exact⟨n.toNat,by omega,by omega⟩
theorem Zm{n:Int}(h:(Lit.int .u16 n).wf=true) : ∃ m:Nat,n=(m:Int)/\m<=65535:=by
 have:=wf_u16 h; exact⟨n.toNat,by omega,by omega⟩
theorem Fx.mY.congr{w:World}{a:Option Addr}{n s:Nat}{x y:Nat->Value}(h:Fx.mY w a n s x)(e : ∀ p,p<n*s->x p=y p):Fx.mY w a n s y:=fun f=>by
 obtain⟨b,j,d,g⟩:=h f;exact⟨b,j,d,fun i c=>by rw[<- e i c]; exact g i c⟩
def Wi:List (Option IntKind) := [some .u8,none,some .u8,some .u8,some .u8,some .u8,some .u16,some .u8,some .u8]
def Wj(X:Nat->Value):DZ:=⟨(intOf (X 0)).toNat,Wh (X 1),(intOf (X 2)).toNat,(intOf (X 3)).toNat,(intOf (X 4)).toNat,(intOf (X 5)).toNat,(intOf (X 6)).toNat,(intOf (X 7)).toNat,(intOf (X 8)).toNat⟩
theorem LX{X:Nat->Value}(h : ∀(j:Nat) (k:Option IntKind),Wi[j]? = some k->RA k (X j)):FZ (Wj X) /\ ∀ j,j<9->X j=F3 (Wj X) j:=by
 have a : ∀ j,Wi[j]? = some (some .u8)->X j = .int .u8 ((intOf (X j)).toNat:Int)/\(intOf (X j)).toNat<=255:=fun j d=>by
  obtain⟨e,b⟩:=(h j _ d).int;have:=wf_u8 b;exact⟨by rw[Int.toNat_of_nonneg this.1]; exact e,by omega⟩
 have c:X 6 = .int .u16 ((intOf (X 6)).toNat:Int)/\(intOf (X 6)).toNat<=65535:=by
  obtain⟨e,b⟩:=(h 6 (some .u16) rfl).int;have:=wf_u16 b;exact⟨by rw[Int.toNat_of_nonneg this.1]; exact e,by omega⟩
 refine⟨⟨(a 0 rfl).2,(a 2 rfl).2,(a 3 rfl).2,(a 4 rfl).2,(a 5 rfl).2,c.2,(a 7 rfl).2,(a 8 rfl).2⟩,fun j d => ?_⟩
 rcases j with _|_|_|_|_|_|_|_|_|j
 ·exact(a 0 rfl).1
 ·exact(h 1 none rfl).bool
 ·exact(a 2 rfl).1
 ·exact(a 3 rfl).1
 ·exact(a 4 rfl).1
 ·exact(a 5 rfl).1
 ·exact c.1
 ·exact(a 7 rfl).1
 ·exact(a 8 rfl).1
 omega
section
variable {H:Type} {enc:TypeId × Value->H} {P:Program} {w:World}
theorem Q9{t e:TypeId}{a:Option Addr}{len cap D:Nat}{d:DataW H}{r:List MemPlace}(q:P.underlying t=some (.slice e))(b:yH P D e=some Wi)(l:P.cellsOf e=9)
 (h:DataW.Trod enc P w 0 (fun _=>true) true t (.slice a len cap) d r) : ∃ g:Nat->DZ,(∀ i,i<len->FZ (g i))/\Fx.mY w a len 9 (Fx.flat 9 fun k=>F3 (g k)):=by
 obtain⟨v,n⟩:=h;obtain⟨s,x,u,f,_,_,X,c,m⟩:=Q7 q b l (by decide) n;simp[Value.cells]at f;obtain⟨rfl,rfl,rfl⟩:=f;exact⟨fun i=>Wj (X i),fun i o=>(LX (c i o)).1,m.congr (Fx.bJ fun k b j p=>(LX (c k b)).2 j p)⟩
end
end Go.Proofs.YtcbedgfikejkoaaGreatDoor
namespace Go.Proofs.YtcbedgfikejkoaaGreatDoor
open Go.RowKit Rt
open Fx (bC eG iX Lv sN Ln Ws Wl Wr Sb Wk rV sR Rs Rn Rd Wb Wx Wo Au gP mW zC rv aA aR bK aN ev Stp aS flat aW iN iO bP dG bL bR bZ cu gL ig pO gy)
theorem aiB{B:Nat}{a b c:World}(h:Below a.heap.size a b)(e:Below B b c)(d:a.heap.size<=B):Below a.heap.size a c:=h.trans (e.mono d)
theorem um.D8{w w':World}{B p:Nat}{m:kR}{e:List TypeId}(h:um w B p m)(b:Fx.xD e w w')(k:(KQ.all fun T => !e.contains T)=true):um w' B p m:=by
 have a : ∀ d∈KQ,e.contains d=false:=fun d f=>by
  have:=List.all_eq_true.1 k d f
  simpa using this
 exact { h with
  c:=h.c.D8 b (a _ (by decide)),n:=h.n.D8 b (a _ (by decide)),g:=h.g.D8 b (a _ (by decide)),tc:=h.tc.D8 b (a _ (by decide)),t:=h.t.D8 b (a _ (by decide)),r:=⟨fun i j=>(h.r.1 i j).D8 b (a _ (by decide)),h.r.2⟩ }
section
namespace Rt
structure Ab where
 inn:Nat->Bool
 left:Nat->Bool
 own:Nat->Int
 has:Int->Bool
 par:Int->Int
 R:Int->Nat->Int
 gh:Int->Int->Bool
 g:Int->Int->Nat->Int
 ask:Int->Int->Bool
def Ab.up(A:Ab)(x:Int):Nat->Int
 | 0=>x
 | i+1=>A.par (A.up x i)
def Ab.on(A:Ab)(x y:Int):Bool:=A.has y&&(List.range 6).any fun i=>decide (A.up x i=y)
def qO(v:EvM):Int:=jo v.o v.seq
def aV(v:EvM):Nat:=(v.o-1).toNat
def dV(v:EvM):Nat:=(v.dst-1).toNat
def Ab.dl(A:Ab)(v:EvM)(y:Int)(p:Nat):Int :=
 if v.kind=1 then(if y=qO v/\p=aV v then v.aQ else 0)
 else if v.kind=2 then(if y=v.node/\p=aV v then v.aQ else 0)
 else if v.kind=3 then(if A.on v.node y=true/\p=6+aV v then v.aQ else 0)
 else if v.kind=4 then(if A.on (A.g v.o v.of 2) y=true/\p=12+aV v then A.g v.o v.of 3 else 0)
 else if v.kind=5 then(if y=v.node/\p=18+(6*aV v+dV v)then v.aQ else 0)
 else 0
def Ab.qI(A:Ab)(v:EvM):Ab where
 inn:=fun j=>A.inn j || (decide (v.kind=6)&&decide (j=dV v))
 left:=fun j=>A.left j || (decide (v.kind=7)&&decide (j=aV v))
 own:=fun j=>A.own j+if v.kind=1/\j=aV v then 1 else 0
 has:=fun y=>A.has y || (decide (v.kind=1)&&decide (y=qO v))
 par:=fun y=>if v.kind=1/\y=qO v then v.node else A.par y
 R:=fun y p=>A.R y p+A.dl v y p
 gh:=fun o r=>A.gh o r || (decide (v.kind=3)&&(decide (o=v.o)&&decide (r=v.req)))
 g:=fun o r j=>if v.kind=3/\o=v.o/\r=v.req then(if j=2 then v.node else if j=3 then v.aQ else 0)else if v.kind=4/\o=v.o/\r=v.of/\j=4 then v.req else A.g o r j
 ask:=fun o r=>A.ask o r || ((decide (v.kind=3) || decide (v.kind=4))&&(decide (o=v.o)&&decide (r=v.req)))
structure Ab.Ok(A:Ab):Prop where
 z:A.has 0=false
 p : ∀ y,A.has y=true->A.par y=0\/A.has (A.par y)=true
 p0 : ∀ y,A.has y=false->A.par y=0
 g : ∀ o r,A.gh o r=true->A.has (A.g o r 2)=true
 r0 : ∀ y p,A.has y=false->A.R y p=0
structure Ab.Pre(A:Ab)(v:EvM):Prop where
 n1:v.kind=1->A.has (qO v)=false/\qO v≠0/\(v.node=0\/A.has v.node=true)
 n2:v.kind=2->A.has v.node=true
 n3:v.kind=3->A.has v.node=true/\A.gh v.o v.req=false
 n4:v.kind=4->A.gh v.o v.of=true
 n5:v.kind=5->A.has v.node=true
section
variable {A B:Ab} {u v:EvM} {y:Int}
theorem Ab.Iu(h:A.Ok){x:Int}(hx:A.has x=true) : ∀ i,A.up x i=0\/A.has (A.up x i)=true
 | 0 => .inr hx
 | i+1=>by
   show A.par (A.up x i)=0\/A.has (A.par (A.up x i))=true
   rcases Ab.Iu h hx i with e|e
   ·left; rw[e]; exact h.p0 0 h.z
   ·exact h.p _ e
theorem Ab.Bz(hy:A.has y=true):(A.qI v).has y=true:=by show(A.has y || _)=true; rw[hy]; rfl
theorem Ab.PG(c:A.Pre v)(hy:A.has y=true):(A.qI v).par y=A.par y:=by
 show(if v.kind=1/\y=qO v then v.node else A.par y)=A.par y;rw[b_];rintro ⟨a,b⟩;have:=(c.n1 a).1;rw[<- b,hy]at this; cases this
theorem Ab.Wm(c:A.Pre v):(A.qI v).par 0=A.par 0:=by
 show(if v.kind=1/\(0:Int)=qO v then v.node else A.par 0)=A.par 0;rw[b_];rintro ⟨a,b⟩;exact(c.n1 a).2.1 b.symm
theorem Ab.Wn(h:A.Ok)(a:A.Pre v){x:Int}(hx:A.has x=true) : ∀ i,(A.qI v).up x i=A.up x i
 | 0=>rfl
 | i+1=>by
   show(A.qI v).par ((A.qI v).up x i)=A.par (A.up x i);rw[Ab.Wn h a hx i]
   rcases Ab.Iu h hx i with e|e
   ·rw[e]; exact Ab.Wm a
   ·exact Ab.PG a e
theorem Ab.Wp(h:A.Ok)(b:A.Pre v){x:Int}(hx:A.has x=true)(y:Int):(A.qI v).on x y=A.on x y:=by
 unfold Ab.on;have e:((List.range 6).any fun i=>decide ((A.qI v).up x i=y))=((List.range 6).any fun i=>decide (A.up x i=y)):=by
  congr 1; funext i; rw[Ab.Wn h b hx i]
 rw[e]
 cases hc:(List.range 6).any fun i=>decide (A.up x i=y)
 ·rw[I_,I_]
 rw[Bool.and_true,Bool.and_true];obtain⟨i,_,a⟩:=List.any_eq_true.1 hc;have a:=h_ a;show(A.has y || (decide (v.kind=1)&&decide (y=qO v)))=A.has y
 cases hy:A.has y
 ·rcases Ab.Iu h hx i with e0|e0
  ·rw[a]at e0
   cases c1:decide (v.kind=1)
   ·rfl
   have:=(b.n1 (h_ c1)).2.1;rw[g_ (show ¬ y=qO v by rw[e0]; exact fun q=>this q.symm)]; rfl
  rw[a,hy]at e0; cases e0
 rfl
theorem Ab.LY(f:A.Pre v){o r:Int}(d:A.gh o r=true)(j:Nat)(e:j≠4):(A.qI v).g o r j=A.g o r j:=by
 show(if v.kind=3/\o=v.o/\r=v.req then(if j=2 then v.node else if j=3 then v.aQ else 0)else if v.kind=4/\o=v.o/\r=v.of/\j=4 then v.req else A.g o r j)=A.g o r j;rw[b_,b_]
 ·exact fun q=>e q.2.2.2
 rintro ⟨a,b,c⟩;have:=(f.n3 a).2;rw[<- b,<- c,d]at this; cases this
theorem Ab.aex{o r:Int}(a:A.gh o r=true):(A.qI v).gh o r=true:=by show(A.gh o r || _)=true; rw[a]; rfl
theorem Ab.aey(h:A.Ok)(b:A.Pre v):(A.qI v).Ok where
 z:=by
  show(A.has 0 || (decide (v.kind=1)&&decide ((0:Int)=qO v)))=false;rw[h.z,Bool.false_or]
  cases c1:decide (v.kind=1)
  ·rfl
  ·rw[g_ (fun q=>(b.n1 (h_ c1)).2.1 q.symm)]; rfl
 p:=fun y a=>by
  have a:(A.has y || (decide (v.kind=1)&&decide (y=qO v)))=true:=a;show(if v.kind=1/\y=qO v then v.node else A.par y)=0\/(A.qI v).has (if v.kind=1/\y=qO v then v.node else A.par y)=true;by_cases c:v.kind=1/\y=qO v
  ·rw[d_ c];exact(b.n1 c.1).2.2.imp id Ab.Bz
  ·rw[b_ c];have u:A.has y=true:=by
    rcases Bool.or_eq_true_iff.1 a with q|q
    ·exact q
    ·rw[S_]at q; exact M_ ⟨h_ q.1,h_ q.2⟩ c
   exact(h.p y u).imp id Ab.Bz
 p0:=fun y a=>by
  have a:(A.has y || (decide (v.kind=1)&&decide (y=qO v)))=false:=a;rw[Bool.or_eq_false_iff]at a;show(if v.kind=1/\y=qO v then v.node else A.par y)=0;rw[b_]
  ·exact h.p0 y a.1
  ·rintro ⟨s,t⟩;rw[f_ s,f_ t]at a; cases a.2
 g:=fun o r d=>by
  have d:(A.gh o r || (decide (v.kind=3)&&(decide (o=v.o)&&decide (r=v.req))))=true:=d;by_cases c:v.kind=3/\o=v.o/\r=v.req
  ·have:(A.qI v).g o r 2=v.node:=(by show(if v.kind=3/\o=v.o/\r=v.req then _ else _)=v.node; rw[d_ c]; rfl);rw[this]; exact Ab.Bz (b.n3 c.1).1
  ·have k:A.gh o r=true:=by
    rcases Bool.or_eq_true_iff.1 d with q|q
    ·exact q
    ·rw[S_,S_]at q; exact M_ ⟨h_ q.1,h_ q.2.1,h_ q.2.2⟩ c
   rw[Ab.LY b k 2 (by decide)];exact Ab.Bz (h.g o r k)
 r0:=fun y p a=>by
  have a:(A.has y || (decide (v.kind=1)&&decide (y=qO v)))=false:=a;rw[Bool.or_eq_false_iff]at a;show A.R y p+A.dl v y p=0;rw[h.r0 y p a.1,Int.zero_add];have l : ∀ x,A.on x y=false:=fun x=>by unfold Ab.on; rw[a.1]; rfl
  unfold Ab.dl;by_cases f:v.kind=1
  ·rw[d_ f,b_];rintro ⟨e,_⟩; rw[f_ f,f_ e]at a; cases a.2
  rw[b_ f];by_cases i:v.kind=2
  ·rw[d_ i,b_];rintro ⟨e,_⟩; rw[e,b.n2 i]at a; cases a.1
  rw[b_ i];by_cases m:v.kind=3
  ·rw[d_ m,b_]; rw[l]; exact fun q=>by cases q.1
  rw[b_ m];by_cases n:v.kind=4
  ·rw[d_ n,b_]; rw[l]; exact fun q=>by cases q.1
  rw[b_ n];by_cases j:v.kind=5
  ·rw[d_ j,b_];rintro ⟨e,_⟩; rw[e,b.n5 j]at a; cases a.1
  rw[b_ j]
theorem Ab.Wq(h:A.Ok)(c:A.Pre u)(i:A.Pre v)(y:Int)(p:Nat):(A.qI u).dl v y p=A.dl v y p:=by
 unfold Ab.dl;by_cases d:v.kind=1
 ·rw[d_ d,d_ d]
 rw[b_ d,b_ d];by_cases e:v.kind=2
 ·rw[d_ e,d_ e]
 rw[b_ e,b_ e];by_cases a:v.kind=3
 ·rw[d_ a,d_ a,Ab.Wp h c (i.n3 a).1]
 rw[b_ a,b_ a];by_cases b:v.kind=4
 ·have f:=i.n4 b;rw[d_ b,d_ b,Ab.LY c f 2 (by decide),Ab.LY c f 3 (by decide),Ab.Wp h c (h.g _ _ f)]
 rw[b_ b,b_ b]
theorem Ab.Ra(h1:A.inn=B.inn)(a:A.left=B.left)(b:A.own=B.own)(c:A.has=B.has)(d:A.par=B.par)(e:A.R=B.R)(f:A.gh=B.gh)(h:A.g=B.g)(i:A.ask=B.ask):A=B:=by
 cases A; cases B; simp only at h1 a b c d e f h i; subst h1 a b c d e f h i; rfl
theorem Ab.Wu(h:A.Ok)(b:A.Pre u)(d:A.Pre v)(k:u.o≠v.o)(i:u.kind=1->v.kind=1->qO u≠qO v):(A.qI u).qI v=(A.qI v).qI u:=by
 apply Ab.Ra
 ·funext j; exact Bool.or_right_comm _ _ _
 ·funext j; exact Bool.or_right_comm _ _ _
 ·funext j; exact Int.add_right_comm _ _ _
 ·funext y; exact Bool.or_right_comm _ _ _
 ·funext y
  show(if v.kind=1/\y=qO v then v.node else if u.kind=1/\y=qO u then u.node else A.par y)=(if u.kind=1/\y=qO u then u.node else if v.kind=1/\y=qO v then v.node else A.par y);by_cases c:v.kind=1/\y=qO v
  ·rw[d_ c,d_ c,b_];rintro ⟨e,f⟩;exact i e c.1 (f.symm.trans c.2)
  rw[b_ c,b_ c]
 ·funext y p
  show A.R y p+A.dl u y p+(A.qI u).dl v y p=A.R y p+A.dl v y p+(A.qI v).dl u y p;rw[Ab.Wq h b d,Ab.Wq h d b,Int.add_right_comm]
 ·funext o r; exact Bool.or_right_comm _ _ _
 ·funext o r j
  show(if v.kind=3/\o=v.o/\r=v.req then _ else if v.kind=4/\o=v.o/\r=v.of/\j=4 then v.req else if u.kind=3/\o=u.o/\r=u.req then _ else if u.kind=4/\o=u.o/\r=u.of/\j=4 then u.req else A.g o r j) =
   (if u.kind=3/\o=u.o/\r=u.req then _ else if u.kind=4/\o=u.o/\r=u.of/\j=4 then u.req else if v.kind=3/\o=v.o/\r=v.req then _ else if v.kind=4/\o=v.o/\r=v.of/\j=4 then v.req else A.g o r j)
  by_cases c:o=v.o
  ·have a : ¬ o=u.o:=fun q=>k (q.symm.trans c);rw[b_ (show ¬ (u.kind=3/\o=u.o/\r=u.req)from fun q=>a q.2.1),b_ (show ¬ (u.kind=4/\o=u.o/\r=u.of/\j=4)from fun q=>a q.2.1),b_ (show ¬ (u.kind=3/\o=u.o/\r=u.req)from fun q=>a q.2.1),b_ (show ¬ (u.kind=4/\o=u.o/\r=u.of/\j=4)from fun q=>a q.2.1)]
  rw[b_ (show ¬ (v.kind=3/\o=v.o/\r=v.req)from fun q=>c q.2.1),b_ (show ¬ (v.kind=4/\o=v.o/\r=v.of/\j=4)from fun q=>c q.2.1),b_ (show ¬ (v.kind=3/\o=v.o/\r=v.req)from fun q=>c q.2.1),b_ (show ¬ (v.kind=4/\o=v.o/\r=v.of/\j=4)from fun q=>c q.2.1)]
 funext o r; exact Bool.or_right_comm _ _ _
end
end Rt
end
section
namespace Rt
def Aq(x:Nat->Int)(a:Nat):Int:=x a-x (6+a)+x (12+a)+(x (18+(6*0+a))+x (18+(6*1+a))+x (18+(6*2+a))+x (18+(6*3+a))+x (18+(6*4+a))+x (18+(6*5+a)))-(x (18+(6*a+0))+x (18+(6*a+1))+x (18+(6*a+2))+x (18+(6*a+3))+x (18+(6*a+4))+x (18+(6*a+5)))
structure Ab.Rb(A:Ab)(v:EvM):Prop where
 inn:A.inn (aV v)=true
 left:A.left (aV v)=false
 pre:A.Pre v
 k1:v.kind=1->A.own (aV v)<5/\v.aQ<=140737488355328 /\ ¬ ∀ i,i<4->A.has (A.up v.node i)=true
 k2:v.kind=2->A.R v.node (aV v)+v.aQ<=140737488355328
 k3:v.kind=3->A.ask v.o v.req=false /\ ∀ y,A.on v.node y=true->v.aQ<=Aq (A.R y) (aV v)
 k4:v.kind=4->A.ask v.o v.req=false/\A.g v.o v.of 4=0 /\ ∀ y,A.on (A.g v.o v.of 2) y=true->A.g v.o v.of 3<=A.R y (6+aV v)-A.R y (12+aV v)
 k5:v.kind=5->A.inn (dV v)=true/\v.aQ<=Aq (A.R v.node) (aV v)
def aiC(a p:Nat):Prop:=p=a\/p=6+a\/p=12+a \/ ∃ k,k<6/\p=18+(6*a+k)
structure Ab.Le(A B:Ab)(a:Nat):Prop where
 inn : ∀ j,A.inn j=true->B.inn j=true
 left:B.left a=A.left a
 own:B.own a=A.own a
 has : ∀ y,A.has y=true->B.has y=true
 hid : ∀ s,1<=s/\s<1099511627776->B.has (jo ((a:Int)+1) s)=A.has (jo ((a:Int)+1) s)
 par : ∀ y,A.has y=true->B.par y=A.par y
 R1 : ∀ y p,A.has y=true->aiC a p->B.R y p=A.R y p
 R2 : ∀ y k,A.has y=true->k<6->A.R y (18+(6*k+a))<=B.R y (18+(6*k+a))
 gh : ∀ o r,A.gh o r=true->B.gh o r=true /\ ∀ j,j≠4->B.g o r j=A.g o r j
 gho : ∀ r,B.gh ((a:Int)+1) r=A.gh ((a:Int)+1) r
 go : ∀ r,B.g ((a:Int)+1) r 4=A.g ((a:Int)+1) r 4
 ask : ∀ r,B.ask ((a:Int)+1) r=A.ask ((a:Int)+1) r
structure Mv(v:EvM):Prop where
 o:1<=v.o/\v.o<=6
 seq:1<=v.seq/\v.seq<1099511627776
 aQ:0<=v.aQ
 dst:v.kind=5->1<=v.dst/\v.dst<=6
section
variable {A B:Ab} {u v:EvM} {a:Nat} {x y:Int}
theorem Mv.reg(h:Mv v):v.o=(aV v:Int)+1/\aV v<6:=by have:=h.o; unfold aV; omega
theorem Mv.id(h:Mv v):qO v=1099511627776*v.o+v.seq:=by
 unfold qO jo; rw[d_ ⟨h.o.1,h.o.2,h.seq.1,h.seq.2⟩]
theorem Mv.ne(a:Mv u)(b:Mv v)(h:u.o≠v.o):qO u≠qO v:=by
 rw[a.id,b.id]; have:=a.seq; have:=b.seq; have:=a.o; have:=b.o; omega
theorem Ab.Le.refl(A:Ab)(a:Nat):A.Le A a:=⟨fun _ h=>h,rfl,rfl,fun _ h=>h,fun _ _=>rfl,fun _ _=>rfl,fun _ _ _ _=>rfl,fun _ _ _ _=>N_ _,fun _ _ h=>⟨h,fun _ _=>rfl⟩,fun _=>rfl,fun _=>rfl,fun _=>rfl⟩
theorem Ab.Le.up(h:A.Le B a)(b:A.Ok)(c:B.Ok)(hx:A.has x=true) : ∀ i,B.up x i=A.up x i
 | 0=>rfl
 | i+1=>by
   show B.par (B.up x i)=A.par (A.up x i);rw[h.up b c hx i]
   rcases Ab.Iu b hx i with e|e
   ·rw[e,b.p0 0 b.z,c.p0 0 c.z]
   ·exact h.par _ e
theorem Ab.Le.on(h:A.Le B a)(c:A.Ok)(d:B.Ok)(hx:A.has x=true)(y:Int):B.on x y=A.on x y:=by
 unfold Ab.on;have e:((List.range 6).any fun i=>decide (B.up x i=y))=((List.range 6).any fun i=>decide (A.up x i=y)):=by
  congr 1; funext i; rw[h.up c d hx i]
 rw[e]
 cases hc:(List.range 6).any fun i=>decide (A.up x i=y)
 ·rw[I_,I_]
 rw[Bool.and_true,Bool.and_true];obtain⟨i,_,b⟩:=List.any_eq_true.1 hc;have b:=h_ b
 rcases Ab.Iu c hx i with e0|e0
 ·rw[b]at e0; rw[e0,c.z,d.z]
 rw[b]at e0; rw[e0,h.has _ e0]
theorem Ab.NZ(h:A.on x y=true):A.has y=true:=by unfold Ab.on at h; rw[S_]at h; exact h.1
theorem Ab.Le.loc(h:A.Le B a)(ha:a<6)(hy:A.has y=true):Aq (A.R y) a<=Aq (B.R y) a:=by
 have o : ∀ k,k<6->B.R y (18+(6*a+k))=A.R y (18+(6*a+k)):=fun k b=>h.R1 y _ hy (.inr (.inr (.inr ⟨k,b,rfl⟩)));unfold Aq;rw[h.R1 y a hy (.inl rfl),h.R1 y (6+a) hy (.inr (.inl rfl)),h.R1 y (12+a) hy (.inr (.inr (.inl rfl))),o 0 (by omega),o 1 (by omega),o 2 (by omega),o 3 (by omega),o 4 (by omega),o 5 (by omega)];have:=h.R2 y 0 hy (by omega); have:=h.R2 y 1 hy (by omega); have:=h.R2 y 2 hy (by omega); have:=h.R2 y 3 hy (by omega); have:=h.R2 y 4 hy (by omega); have:=h.R2 y 5 hy (by omega);omega
theorem Ab.Le.okE(h:A.Le B (aV v))(l:A.Ok)(m:B.Ok)(t:Mv v)(a:A.Rb v):B.Rb v:=by
 obtain⟨c,p⟩:=t.reg;have P:=a.pre;have w : ∀ r,B.gh v.o r=A.gh v.o r:=fun r=>by rw[c]; exact h.gho r
 have s : ∀ r,B.ask v.o r=A.ask v.o r:=fun r=>by rw[c]; exact h.ask r
 refine⟨h.inn _ a.inn,h.left.trans a.left,⟨fun k => ?_,fun k=>h.has _ (P.n2 k),fun k=>⟨h.has _ (P.n3 k).1,(w _).trans (P.n3 k).2⟩,fun k=>(w _).trans (P.n4 k),fun k=>h.has _ (P.n5 k)⟩,fun k => ?_,fun k => ?_,fun k => ?_,fun k => ?_,fun k=>⟨h.inn _ (a.k5 k).1,R_ (a.k5 k).2 (h.loc p (P.n5 k))⟩⟩
 ·obtain⟨d,f,j⟩:=P.n1 k;refine⟨?_,f,j.imp (fun q=>q) (h.has _)⟩;have:=h.hid v.seq t.seq;rw[<- c]at this;exact this.trans d
 ·obtain⟨d,f,j⟩:=a.k1 k;refine⟨by rw[h.own]; exact d,f,fun q=>j fun i x => ?_⟩;have n:=q i x
  rcases(P.n1 k).2.2 with e|e
  ·exfalso;have:B.up v.node 0=0:=e;have:=q 0 (by omega);rw[‹B.up v.node 0=0›,m.z]at this; cases this
  rw[h.up l m e i]at n
  rcases Ab.Iu l e i with e0|e0
  ·rw[e0,m.z]at n; cases n
  exact e0
 ·rw[h.R1 _ _ (P.n2 k) (.inl rfl)]; exact a.k2 k
 ·refine⟨(s _).trans (a.k3 k).1,fun y b => ?_⟩;rw[h.on l m (P.n3 k).1]at b;exact R_ ((a.k3 k).2 y b) (h.loc p (Ab.NZ b))
 obtain⟨d,f,j⟩:=a.k4 k;have u:=(h.gh _ _ (P.n4 k)).2;refine⟨(s _).trans d,by rw[c,h.go,<- c]; exact f,fun y b => ?_⟩;rw[u 2 (by decide),h.on l m (l.g _ _ (P.n4 k))]at b;rw[u 3 (by decide),h.R1 _ _ (Ab.NZ b) (.inr (.inl rfl)),h.R1 _ _ (Ab.NZ b) (.inr (.inr (.inl rfl)))];exact j y b
end
end Rt
end
section
namespace Rt
section
variable {A B:Ab} {u v:EvM} {a:Nat} {x y:Int}
theorem Ab.Le.dl(h:A.Le B a)(f:A.Ok)(j:B.Ok)(i:A.Pre u)(y:Int)(p:Nat):B.dl u y p=A.dl u y p:=by
 unfold Ab.dl;by_cases d:u.kind=1
 ·rw[d_ d,d_ d]
 rw[b_ d,b_ d];by_cases e:u.kind=2
 ·rw[d_ e,d_ e]
 rw[b_ e,b_ e];by_cases c:u.kind=3
 ·rw[d_ c,d_ c,h.on f j (i.n3 c).1]
 rw[b_ c,b_ c];by_cases b:u.kind=4
 ·have k:=h.gh _ _ (i.n4 b);rw[d_ b,d_ b,k.2 2 (by decide),k.2 3 (by decide),h.on f j (f.g _ _ (i.n4 b))]
 rw[b_ b,b_ b]
theorem or_mono{p q c:Bool}(h:p=true->q=true)(a:(p || c)=true):(q || c)=true:=by
 cases c
 ·rw[H_]at a ⊢; exact h a
 rw[Bool.or_true]
theorem Ab.Le.both(h:A.Le B a)(f:A.Ok)(i:B.Ok)(n:A.Pre u)(w:B.Pre u):(A.qI u).Le (B.qI u) a:=by
 have m : ∀ y,(A.qI u).has y=true->A.has y=true\/(A.has y=false/\B.has y=false/\u.kind=1/\y=qO u):=fun y b=>by
  have b:(A.has y || (decide (u.kind=1)&&decide (y=qO u)))=true:=b
  cases hc:A.has y
  ·right;rw[hc,Bool.false_or,S_]at b;have k:=h_ b.1; have e:=h_ b.2;exact⟨rfl,e ▸ (w.n1 k).1,k,e⟩
  ·exact .inl rfl
 refine⟨fun j d=>or_mono (h.inn j) d,?_,?_,fun y b=>or_mono (h.has y) b,fun s x => ?_,fun y b => ?_,fun y p b v => ?_,fun y k b t => ?_,fun o r l=>⟨or_mono (fun q=>(h.gh o r q).1) l,fun j d => ?_⟩,fun r => ?_,fun r => ?_,fun r => ?_⟩
 ·show(B.left a || _)=(A.left a || _); rw[h.left]
 ·show B.own a+_=A.own a+_; rw[h.own]
 ·show(B.has _ || _)=(A.has _ || _); rw[h.hid s x]
 ·show(if u.kind=1/\y=qO u then u.node else B.par y)=(if u.kind=1/\y=qO u then u.node else A.par y)
  rcases m y b with q|⟨_,_,k,e⟩
  ·rw[h.par y q]
  rw[d_ ⟨k,e⟩,d_ ⟨k,e⟩]
 ·show B.R y p+B.dl u y p=A.R y p+A.dl u y p;rw[h.dl f i n]
  rcases m y b with q|⟨q1,q2,_,_⟩
  ·rw[h.R1 y p q v]
  rw[f.r0 y p q1,i.r0 y p q2]
 ·show A.R y _+A.dl u y _<=B.R y _+B.dl u y _;rw[h.dl f i n]
  rcases m y b with q|⟨q1,q2,_,_⟩
  ·have:=h.R2 y k q t; omega
  rw[f.r0 y _ q1,i.r0 y _ q2]; exact N_ _
 ·show(if u.kind=3/\o=u.o/\r=u.req then(if j=2 then u.node else if j=3 then u.aQ else 0)else if u.kind=4/\o=u.o/\r=u.of/\j=4 then u.req else B.g o r j)=(if u.kind=3/\o=u.o/\r=u.req then(if j=2 then u.node else if j=3 then u.aQ else 0)else if u.kind=4/\o=u.o/\r=u.of/\j=4 then u.req else A.g o r j);by_cases c:u.kind=3/\o=u.o/\r=u.req
  ·rw[d_ c,d_ c]
  rw[b_ c,b_ c,b_ (show ¬ (u.kind=4/\o=u.o/\r=u.of/\j=4)from fun q=>d q.2.2.2),b_ (show ¬ (u.kind=4/\o=u.o/\r=u.of/\j=4)from fun q=>d q.2.2.2)];have l:(A.gh o r || (decide (u.kind=3)&&(decide (o=u.o)&&decide (r=u.req))))=true:=l
  rcases Bool.or_eq_true_iff.1 l with q|q
  ·exact(h.gh o r q).2 j d
  rw[S_,S_]at q; exact M_ ⟨h_ q.1,h_ q.2.1,h_ q.2.2⟩ c
 ·show(B.gh _ r || _)=(A.gh _ r || _); rw[h.gho r]
 ·show(if u.kind=3/\(a:Int)+1=u.o/\r=u.req then(if 4=2 then u.node else if 4=3 then u.aQ else 0)else if u.kind=4/\(a:Int)+1=u.o/\r=u.of/\4=4 then u.req else B.g _ r 4)=(if u.kind=3/\(a:Int)+1=u.o/\r=u.req then(if 4=2 then u.node else if 4=3 then u.aQ else 0)else if u.kind=4/\(a:Int)+1=u.o/\r=u.of/\4=4 then u.req else A.g _ r 4);rw[h.go r]
 show(B.ask _ r || _)=(A.ask _ r || _); rw[h.ask r]
theorem Ab.aez(d:Mv u)(r:aV u≠a)(ha:a<6){p:Nat}(b:aiC a p)(y:Int):A.dl u y p=0:=by
 obtain⟨n,s⟩:=d.reg;have j:p≠aV u:=by rcases b with e|e|e|⟨k,hk,e⟩ <;> omega
 have l:p≠6+aV u:=by rcases b with e|e|e|⟨k,hk,e⟩ <;> omega
 have m:p≠12+aV u:=by rcases b with e|e|e|⟨k,hk,e⟩ <;> omega
 unfold Ab.dl;by_cases f:u.kind=1
 ·rw[d_ f,b_ fun q=>j q.2]
 rw[b_ f];by_cases g:u.kind=2
 ·rw[d_ g,b_ fun q=>j q.2]
 rw[b_ g];by_cases h:u.kind=3
 ·rw[d_ h,b_ fun q=>l q.2]
 rw[b_ h];by_cases i:u.kind=4
 ·rw[d_ i,b_ fun q=>m q.2]
 rw[b_ i];by_cases c:u.kind=5
 ·have o:=d.dst c;rw[d_ c,b_];rintro ⟨_,q⟩;unfold dV at q
  rcases b with e|e|e|⟨k,hk,e⟩ <;> omega
 rw[b_ c]
theorem Ab.aiD(a:Mv u){p:Nat}(d:18<=p)(y:Int):0<=A.dl u y p:=by
 obtain⟨b,e⟩:=a.reg;have c:=a.aQ;unfold Ab.dl;split
 ·split <;> omega
 split
 ·split <;> omega
 split
 ·split <;> omega
 split
 ·rw[b_ fun q=>by omega]; omega
 split
 ·split <;> omega
 omega
theorem Ab.Le.step(h:A.Le B a)(x:B.Ok)(c:Mv u)(m:B.Pre u)(e:aV u≠a)(ha:a<6):A.Le (B.qI u) a:=by
 obtain⟨w,z⟩:=c.reg;have no : ¬ (a:Int)+1=u.o:=by omega
 refine⟨fun j d => ?_,?_,?_,fun y b=>Ab.Bz (h.has y b),fun s f => ?_,fun y b=>(Ab.PG m (h.has y b)).trans (h.par y b),fun y p b l => ?_,fun y k b v => ?_,fun o r t => ?_,fun r => ?_,fun r => ?_,fun r => ?_⟩
 ·show(B.inn j || _)=true; rw[h.inn j d]; rfl
 ·show(B.left a || (decide (u.kind=7)&&decide (a=aV u)))=A.left a;rw[g_ (show ¬ a=aV u from fun q=>e q.symm),I_,H_]; exact h.left
 ·show B.own a+(if u.kind=1/\a=aV u then 1 else 0)=A.own a;rw[b_ fun q=>e q.2.symm,D_]; exact h.own
 ·show(B.has _ || (decide (u.kind=1)&&decide (jo ((a:Int)+1) s=qO u)))=_;rw[g_ (show ¬ jo ((a:Int)+1) s=qO u from fun q=>by
   rw[c.id]at q; unfold jo at q; rw[d_ ⟨by omega,by omega,f.1,f.2⟩]at q; have:=c.seq; omega),I_,H_]
  exact h.hid s f
 ·show B.R y p+B.dl u y p=A.R y p;rw[Ab.aez c e ha l,D_]; exact h.R1 y p b l
 ·show A.R y _<=B.R y _+B.dl u y _;have:=h.R2 y k b v;have:=Ab.aiD (A:=B) c (p:=18+(6*k+a)) (by omega) y;omega
 ·obtain⟨i,n⟩:=h.gh o r t;exact⟨Ab.aex i,fun j d=>(Ab.LY m i j d).trans (n j d)⟩
 ·show(B.gh _ r || (decide (u.kind=3)&&(decide ((a:Int)+1=u.o)&&decide (r=u.req))))=_;rw[g_ no,Bool.false_and,I_,H_]; exact h.gho r
 ·show(if u.kind=3/\(a:Int)+1=u.o/\r=u.req then(if 4=2 then u.node else if 4=3 then u.aQ else 0)else if u.kind=4/\(a:Int)+1=u.o/\r=u.of/\4=4 then u.req else B.g _ r 4)=_;rw[b_ fun q=>no q.2.1,b_ fun q=>no q.2.1]; exact h.go r
 show(B.ask _ r || ((decide (u.kind=3) || decide (u.kind=4))&&(decide ((a:Int)+1=u.o)&&decide (r=u.req))))=_;rw[g_ no,Bool.false_and,I_,H_]; exact h.ask r
end
end Rt
end
section
namespace Rt
def vS(K:Nat->Int)(v:EvM):Bool:=decide (v.seq<=K (aL v))
def fQ(ev:Nat->EvM)(K:Nat->Int)(A0:Ab):Nat->Ab
 | 0=>A0
 | n+1=>if vS K (ev n)=true then(fQ ev K A0 n).qI (ev n)else fQ ev K A0 n
structure Evs(A0:Ab)(ev:Nat->EvM)(an:Nat):Prop where
 ok0:A0.Ok
 rd : ∀ k,k<an->dz (fI ev k) (ev k)=true
 g : ∀ k,k<an->Mv (ev k)
 dc : ∀ k,k<an->JX ev an (ev k).deps
 tk : ∀ k,k<an->(fQ ev (ev k).deps A0 k).Rb (ev k)
section
variable {A0:Ab} {ev:Nat->EvM} {an n m i j k:Nat} {K K1 K2:Nat->Int}
theorem mU{v:EvM}:vS K v=true<->v.seq<=K (aL v):=by unfold vS; exact P_
theorem Evs.seq(h:Evs A0 ev an)(a:k<an):(ev k).seq=fI ev k (aL (ev k))+1:=(Dj (h.rd k a)).2.1
theorem Evs.mono(h:Evs A0 ev an)(a:j<an)(c:k<an)(e:aL (ev j)=aL (ev k))(b:j<k):(ev j).seq<(ev k).seq:=by
 rw[h.seq a,h.seq c];have:=Em (ev:=ev) b;rw[e]at this ⊢; omega
theorem Evs.uniq(h:Evs A0 ev an)(b:j<an)(c:k<an)(a:aL (ev j)=aL (ev k))(d:(ev j).seq=(ev k).seq):j=k:=by
 rcases Nat.lt_trichotomy j k with q|q|q
 ·have:=h.mono b c a q; omega
 ·exact q
 have:=h.mono c b a.symm q; omega
theorem Evs.ahead(h:Evs A0 ev an)(a:j<an)(b:k<an)(e:vS (ev k).deps (ev j)=true):j<k:=by
 have e:=mU.1 e;have d:=(Dj (h.rd k b)).2.2 (aL (ev j)) (h.g j a).reg.2;rw[h.seq a]at e;by_cases c:j<k
 ·exact c
 have:=cnt_mono (ev:=ev) (i:=aL (ev j)) (show k<=j by omega); omega
theorem mO(e:vS K (ev n)=true):fQ ev K A0 (n+1)=(fQ ev K A0 n).qI (ev n):=by show(if _ then _ else _)=_; rw[d_ e]
theorem mV(e:vS K (ev n)=false):fQ ev K A0 (n+1)=fQ ev K A0 n:=by show(if _ then _ else _)=_; rw[b_ (by rw[e]; decide)]
theorem JE(h:Evs A0 ev an)(a:Nat)(ha:a<6)(f : ∀ i,i<6->K1 i<=K2 i) : ∀ m,m<=an->(∀ i,i<=m->(fQ ev K1 A0 i).Ok)->(∀ i,i<=m->(fQ ev K2 A0 i).Ok)->(∀ i,i<m->vS K1 (ev i)=true->(fQ ev K1 A0 i).Rb (ev i))->(∀ i,i<m->vS K2 (ev i)=true->(fQ ev K2 A0 i).Rb (ev i)) ->
 (∀ i,i<m->aL (ev i)=a->vS K2 (ev i)=true->vS K1 (ev i)=true)->(fQ ev K1 A0 m).Le (fQ ev K2 A0 m) a
 | 0,_,_,_,_,_,_=>Ab.Le.refl _ _
 | m+1,hm,o1,o2,v1,v2,ho=>by
   have d:=JE h a ha f m (by omega) (fun i c=>o1 i (by omega)) (fun i c=>o2 i (by omega)) (fun i c=>v1 i (by omega)) (fun i c=>v2 i (by omega)) (fun i c=>ho i (by omega))
   cases c1:vS K1 (ev m)with
   | true =>
     have b:vS K2 (ev m)=true:=mU.2 (R_ (mU.1 c1) (f _ (h.g m (by omega)).reg.2));rw[mO c1,mO b];exact d.both (o1 m (by omega)) (o2 m (by omega)) (v1 m (by omega) c1).pre (v2 m (by omega) b).pre
   | false =>
     rw[mV c1]
     cases b:vS K2 (ev m)with
     | true =>
       rw[mO b];exact d.step (o2 m (by omega)) (h.g m (by omega)) (v2 m (by omega) b).pre (fun e=>by have:=ho m (by omega) e b; rw[c1]at this; cases this) ha
     | false=>rw[mV b]; exact d
theorem vH(h:Evs A0 ev an) : ∀ n,n<=an -> ∀ K,JX ev an K->(∀ i,i<=n->(fQ ev K A0 i).Ok) /\ ∀ i,i<n->vS K (ev i)=true->(fQ ev K A0 i).Rb (ev i)
 | 0,_,K,_=>⟨fun i a=>(show i=0 by omega) ▸ h.ok0,fun i a=>M_ a (z_ _)⟩
 | n+1,hn,K,hc=>by
   obtain⟨o,v⟩:=vH h n (by omega) K hc;have f:vS K (ev n)=true->(fQ ev K A0 n).Rb (ev n):=fun c=>by
    obtain⟨l,r⟩:=vH h n (by omega) (ev n).deps (h.dc n (by omega));have d:=h.g n (by omega);have p:=JE h (aV (ev n)) d.reg.2 (hc.cl n (by omega) (mU.1 c)) n (by omega) l o r v (fun i a e t=>by
     have u:=h.mono (j:=i) (k:=n) (by omega) (by omega) e a;have b:=(Dj (h.rd n (by omega))).1;refine mU.2 ?_;have m:(ev n).deps (aL (ev n))=(ev n).seq-1:=by
      unfold bQ at b; simp only[S_,decide_eq_true_eq]at b; exact b.1.1.1.2
     rw[show aL (ev i)=aL (ev n)from e,m]; omega)
    exact p.okE (l n (A_ _)) (o n (A_ _)) d (h.tk n (by omega))
   have s : ∀ i,i<n+1->vS K (ev i)=true->(fQ ev K A0 i).Rb (ev i):=fun i a e=>by
    by_cases q:i=n
    ·subst q; exact f e
    ·exact v i (by omega) e
   refine⟨fun i a => ?_,s⟩;by_cases q:i=n+1
   ·subst q
    cases c:vS K (ev n)with
    | true=>rw[mO c]; exact Ab.aey (o n (A_ _)) (f c).pre
    | false=>rw[mV c]; exact o n (A_ _)
   ·exact o i (by omega)
end
end Rt
end
section
namespace Rt
section
variable {A0:Ab} {ev:Nat->EvM} {an n m i j k:Nat} {K:Nat->Int}
theorem CS(h:Evs A0 ev an)(a:j<an) : ∀ m,j<=m->m<=an->fQ ev (ev j).deps A0 m=fQ ev (ev j).deps A0 j
 | 0,h1,_=>by obtain rfl:j=0:=(by omega); rfl
 | m+1,h1,h2=>by
   by_cases e:j=m+1
   ·rw[e]
   ·have c:vS (ev j).deps (ev m)=false:=by
     cases q:vS (ev j).deps (ev m)with
     | true=>have:=h.ahead (show m<an by omega) a q; omega
     | false=>rfl
    rw[mV c];exact CS h a m (by omega) (by omega)
theorem Wv{v:EvM}(h:bQ v=true):v.deps (aL v)=v.seq-1:=by
 unfold bQ at h; simp only[S_,decide_eq_true_eq]at h; exact h.1.1.1.2
theorem Iw(h:Evs A0 ev an)(l:JX ev an K)(b:j<an)(hr:dz K (ev j)=true)(h1:j<=m)(a:m<=an):(fQ ev K A0 m).Rb (ev j):=by
 obtain⟨f,q⟩:=vH h m a (ev j).deps (h.dc j b);obtain⟨o,v⟩:=vH h m a K l;obtain⟨n,s,p⟩:=Dj hr;have c:=h.g j b;have d:=JE h (aV (ev j)) c.reg.2 p m a f o q v (fun i r e k=>by
  refine mU.2 ?_;have:=mU.1 k;rw[show aL (ev i)=aL (ev j)from e]at this ⊢;rw[Wv n]; omega)
 rw[CS h b m h1 a]at d;exact d.okE (by rw[<- CS h b m h1 a]; exact f m (A_ _)) (o m (A_ _)) c (h.tk j b)
def JG(K:Nat->Int)(v:EvM):Nat->Int:=aI K (aL v) (K (aL v)+1)
theorem Ww(h:Evs A0 ev an)(a:j<an)(hr:dz K (ev j)=true)(hi:i<an)(b:i≠j):vS (JG K (ev j)) (ev i)=vS K (ev i):=by
 have d:=(Dj hr).2.1;have:vS (JG K (ev j)) (ev i)=true<->vS K (ev i)=true:=by
  rw[mU,mU];unfold JG aI;split
  ·rename_i e;rw[e];constructor
   ·intro q;by_cases c:(ev i).seq<=K (aL (ev j))
    ·exact c
    ·exact M_ (h.uniq hi a e (by omega)) b
   ·intro q; omega
  ·exact Iff.rfl
 cases c1:vS (JG K (ev j)) (ev i) <;> cases c2:vS K (ev i) <;> simp_all
theorem F6(h:Evs A0 ev an)(a:j<an)(hr:dz K (ev j)=true) : ∀ m,m<=j->fQ ev (JG K (ev j)) A0 m=fQ ev K A0 m
 | 0,_=>rfl
 | m+1,hm=>by
   have e:=Ww h a hr (show m<an by omega) (show m≠j by omega)
   cases c:vS K (ev m)with
   | true=>rw[mO (e.trans c),mO c,F6 h a hr m (by omega)]
   | false=>rw[mV (e.trans c),mV c,F6 h a hr m (by omega)]
theorem Iy(h:Evs A0 ev an)(b:JX ev an K)(a:j<an)(hr:dz K (ev j)=true) : ∀ m,j<m->m<=an->fQ ev (JG K (ev j)) A0 m=(fQ ev K A0 m).qI (ev j)
 | 0,h1,_=>M_ h1 (z_ _)
 | m+1,h1,h2=>by
   have r:=(Dj hr).2.1;by_cases e:m=j
   ·subst e;have l:vS (JG K (ev m)) (ev m)=true:=mU.2 (by unfold JG aI; rw[d_ rfl]; omega);have n:vS K (ev m)=false:=by
     cases q:vS K (ev m)with
     | true=>have:=mU.1 q; omega
     | false=>rfl
    rw[mO l,mV n,F6 h a hr m (A_ _)]
   ·have k:=Iy h b a hr m (by omega) (by omega);have f:=Ww h a hr (show m<an by omega) e
    cases c:vS K (ev m)with
    | true =>
      obtain⟨o,v⟩:=vH h (m+1) h2 K b;rw[mO (f.trans c),mO c,k];have i:(ev j).o≠(ev m).o:=fun q=>by
       have d:aL (ev j)=aL (ev m):=(by unfold aL; rw[q]);have s:=h.mono a (show m<an by omega) d (by omega);have p:=mU.1 c;rw[<- d]at p; omega
      exact Ab.Wu (o m (by omega)) (Iw h b a hr (by omega) (by omega)).pre (v m (by omega) c).pre i (fun _ _=>Mv.ne (h.g j a) (h.g m (by omega)) i)
    | false=>rw[mV (f.trans c),mV c,k]
theorem Zn(h:Evs A0 ev an)(b:JX ev an K)(a:j<an)(hr:dz K (ev j)=true):fQ ev (JG K (ev j)) A0 an=(fQ ev K A0 an).qI (ev j):=Iy h b a hr an a (A_ _)
end
end Rt
end
section
namespace Rt
def eH(m:dO):Ab where
 inn:=m.inn
 left:=m.left
 own:=m.own
 has:=m.T.has
 par:=m.T.par
 R:=aZ m
 gh:=iM m
 g:=fun o r j=>if iM m o r=true/\2<=j/\j<=4 then m.g (fA m o r) j else 0
 ask:=gH m
section
variable {m:dO} {T:dN} {x y:Int} {v:EvM}
theorem Iz{x p:Nat->Int} : ∀ {n:Nat} {k:Int},dS x n k=false->iH x p n k=0
 | 0,k,_=>rfl
 | n+1,k,h=>by
   have h:(dS x n k || decide (x n=k))=false:=h;rw[Bool.or_eq_false_iff]at h;show(if x n=k then p n else iH x p n k)=0;rw[b_ (j_ h.2)];exact Iz h.1
def LZ(T:dN)(x:Int):Nat->Int
 | 0=>x
 | i+1=>T.par (LZ T x i)
theorem F7(T:dN)(x:Int) : ∀ i,LZ T x (i+1)=LZ T (T.par x) i
 | 0=>rfl
 | i+1=>by show T.par (LZ T x (i+1))=T.par (LZ T (T.par x) i); rw[F7 T x i]
theorem Rc(h:T.has x=false):T.path x = []:=by
 have : ¬ T.has x=true:=by rw[h]; decide
 cases e:T.path x with
 | nil=>rfl
 | cons a l=>exact M_ (show jG T.x T.p T.n 4 x = []from kW h) (by rw[show jG T.x T.p T.n 4 x=T.path x from rfl,e]; exact fun q=>by cases q)
theorem Ev(g:T.ok) : ∀ n x,(T.path x).length<=n->(∀ i,i<(T.path x).length->(T.path x).getD i 0=LZ T x i/\T.has (LZ T x i)=true)/\T.has (LZ T x (T.path x).length)=false
 | 0,x,hn=>by
   have e:T.path x = []:=List.length_eq_zero_iff.1 (by omega);rw[e];refine⟨fun i d=>M_ d (z_ _),?_⟩
   cases c:T.has (LZ T x [].length)with
   | false=>rfl
   | true=>rw[dN.step g (show T.has x=true from c)]at e; cases e
 | n+1,x,hn=>by
   cases c:T.has x with
   | false =>
     rw[Rc c];exact⟨fun i d=>M_ d (z_ _),c⟩
   | true =>
     have f:=dN.step g c;have k:(T.path x).length=(T.path (T.par x)).length+1:=(by rw[f]; rfl);obtain⟨h,j⟩:=Ev g n (T.par x) (by omega);refine⟨fun i d => ?_,by rw[k,F7]; exact j⟩
     cases i with
     | zero=>rw[f]; exact⟨rfl,c⟩
     | succ i =>
       rw[F7];obtain⟨a,b⟩:=h i (by omega);refine⟨?_,b⟩;rw[f];exact a
theorem F8(m:dO)(x:Int) : ∀ i,(eH m).up x i=LZ m.T x i
 | 0=>rfl
 | i+1=>by show m.T.par ((eH m).up x i)=m.T.par (LZ m.T x i); rw[F8 m x i]
theorem L6(a:T.ok){k:Nat}(h:T.has (LZ T x k)=false) : ∀ i,k<=i->T.has (LZ T x i)=false
 | 0,hi=>by obtain rfl:k=0:=(by omega); exact h
 | i+1,hi=>by
   by_cases e:k=i+1
   ·rw[<- e]; exact h
   ·have:=L6 a h i (by omega);have b:T.par (LZ T x i)=0:=Iz this;show T.has (T.par (LZ T x i))=false;rw[b]; exact BF.Xx a
theorem CU(j:m.T.ok)(x y:Int):(eH m).on x y=true<->y∈m.T.path x:=by
 obtain⟨h,n⟩:=Ev j _ x (A_ _);have o:=dN.yX (T:=m.T) (k:=x);unfold Ab.on;rw[S_,List.any_eq_true,List.mem_iff_getElem];constructor
 ·rintro ⟨l,i,d,e⟩;have e:=h_ e;rw[F8]at e;have f:i<(m.T.path x).length:=by
   by_cases c:i<(m.T.path x).length
   ·exact c
   ·have:=L6 j n i (by omega);rw[e]at this;rw[show(eH m).has y=m.T.has y from rfl,this]at l; cases l
  refine⟨i,f,?_⟩;have:=(h i f).1;rw[r_,o_ f]at this;exact this.trans e
 rintro ⟨i,d,e⟩;obtain⟨a,b⟩:=h i d;rw[r_,o_ d]at a;have g:LZ m.T x i=y:=a.symm.trans e;refine⟨by rw[<- g]; exact b,i,O_.2 (by omega),f_ (by rw[F8]; exact g)⟩
end
end Rt
end
section
namespace Rt
theorem ze{x:Nat->Int}{n:Int}{b:Bool}{a:Int}{off:Nat}(h:(bT x n b a off).2=0):may x=true/\1<=n/\n<=1125899906842624/\b=true/\a=0/\x off+n<=1125899906842624/\(bT x n b a off).1=upd x off (x off+n):=by
 rcases og x n b a off with ⟨_,c,_⟩|⟨⟨hm,h1,c,hr,he,hx⟩,heq⟩
 ·exact M_ h c
 exact⟨hm,h1,c,hr,he,hx,by rw[heq]⟩
section
variable {m:dO} {x y:Int} {v:EvM}
theorem F9(b:m.T.ok){k:Int}(d:m.T.has k=true)(r:Nat->Int)(y:Int):aZ (Cu m k r) y=if y=k then r else aZ m y:=by
 unfold aZ;show(if m.T.has y=true then aN m.R (m.idx k) r (m.idx y)else FU)=_;by_cases e:y=k
 ·subst e; rw[d_ d,d_ rfl]; unfold aN; rw[d_ rfl]
 rw[b_ e];by_cases c:m.T.has y=true
 ·rw[d_ c,d_ c];unfold aN;rw[b_]
  ·rfl
  intro q;have a:=(dO.Dt b c).2;rw[q,(dO.Dt b d).2]at a;exact e a.symm
 rw[b_ c,b_ c]
open Classical in
theorem JH(a:m.T.ok)(f:(Nat->Int)->(Nat->Int) × Int)(x y:Int):aZ (qH m f (m.T.path x)) y=if y∈m.T.path x then(f (aZ m y)).1 else aZ m y:=by
 unfold aZ;show(if m.T.has y=true then(if m.T.x (m.idx y)∈m.T.path x then(f (m.R (m.idx y))).1 else m.R (m.idx y))else FU)=_;by_cases c:m.T.has y=true
 ·rw[d_ c,d_ c,(dO.Dt a c).2]; rfl
 rw[b_ c,b_ c,b_ fun q=>c (dN.lK a rfl y q)]
theorem vI(b:m.T.ok){f:(Nat->Int)->(Nat->Int) × Int}(h:dA m f (m.T.path x)=0)(hy:y∈m.T.path x):(f (aZ m y)).2=0:=by
 obtain⟨i,a,e⟩:=List.getElem_of_mem hy;have:=FQ h i a;rw[r_,o_ a]at this;rw[<- e];unfold aZ;rw[d_ (dN.lK b rfl _ (Q_ a))];exact this
theorem CV(h:bQ v=true):v.o=(aV v:Int)+1/\aV v<6/\v.o.toNat-1=aV v:=by
 have:=oh h; unfold aV; omega
theorem JI{x:Nat->Int}{off:Nat}{n:Int}(p:Nat):upd x off (x off+n) p=x p+if p=off then n else 0:=by
 unfold upd;by_cases e:p=off
 ·subst e; rw[d_ rfl,d_ rfl]
 rw[b_ e,b_ e,D_]
theorem aeA(f:m.T.ok)(k:bQ v=true)(j:v.kind=1)(a:jc m v=0)(y:Int)(p:Nat):aZ (Dp m v) y p=aZ m y p+(eH m).dl v y p:=by
 have d:m.T.has (nR v)=false:=by
  unfold jc at a;split at a
  ·cases a
  ·exact(EO a).2.1
 have h:qO v=nR v:=rD k;unfold Ab.dl;rw[d_ j,h];unfold aZ;show(if(m.T.put (nR v) v.node).has y=true then aN m.R m.T.n (upd (fun _=>0) (aL v) v.aQ) (zA (aN m.T.x m.T.n (nR v)) (m.T.n+1) y)else FU) p=_;rw[dN.jK];by_cases e:nR v=y
 ·subst e;rw[f_ rfl,Bool.or_true,d_ rfl,d,b_ (by decide),LC _ _ _ (fun i g e=>by have:=dN.zN g; rw[e,d]at this; cases this)]
  unfold aN;rw[d_ rfl];show upd (fun _=>0) (aL v) v.aQ p=0+_;unfold upd;rw[Int.zero_add];by_cases c:p=aL v
  ·rw[d_ c,d_ ⟨rfl,c⟩]
  rw[b_ c,b_ (fun q=>c q.2)]
 rw[g_ e,H_,b_ (show ¬ (y=nR v/\p=aV v)from fun q=>e q.1.symm),D_];by_cases c:m.T.has y=true
 ·rw[d_ c,d_ c,LD _ _ e];have b:=(dO.Dt f c).1;have b:zA m.T.x m.T.n y<m.T.n:=b;unfold aN;rw[b_ (by omega)];rfl
 rw[b_ c,b_ c]
theorem Zo(f:m.T.ok)(g:bQ v=true)(d:v.kind=2)(a:jL m v=0)(y:Int)(p:Nat):aZ (uF m v) y p=aZ m y p+(eH m).dl v y p:=by
 have b:m.T.has v.node=true:=by
  unfold jL at a
  cases c:m.T.has v.node with
  | true=>rfl
  | false=>rw[d_ c]at a; cases a
 unfold Ab.dl;rw[b_ (by rw[d]; decide),d_ d];unfold uF;rw[F9 f b];by_cases e:y=v.node
 ·subst e;rw[d_ rfl,JI];unfold aZ;rw[d_ b];show m.R (m.idx v.node) p+(if p=aL v then v.aQ else 0)=m.R (m.idx v.node) p+_;by_cases c:p=aL v
  ·rw[d_ c,d_ ⟨rfl,c⟩]
  rw[b_ c,b_ (fun q=>c q.2)]
 rw[b_ e,b_ (fun q=>e q.1),D_]
theorem aeB(j:m.T.ok)(z:bQ v=true)(f:v.kind=5)(d:kK m v=0)(y:Int)(p:Nat):aZ (Dl m v) y p=aZ m y p+(eH m).dl v y p:=by
 have g:m.T.has v.node=true/\(sI m v).2=0:=by
  unfold kK at d
  cases c:m.T.has v.node with
  | true =>
    rw[b_ (by rw[c]; decide)]at d;split at d
    ·cases d
    ·exact⟨rfl,d⟩
  | false=>rw[d_ c]at d; cases d
 obtain⟨a,b,s,t,w,x,u,l,n,o,r,k⟩:=Bf g.2;have h:aV v=a:=by unfold aV; omega
 have i:dV v=b:=by unfold dV; omega
 unfold Ab.dl;rw[b_ (by rw[f]; decide),b_ (by rw[f]; decide),b_ (by rw[f]; decide),b_ (by rw[f]; decide),d_ f,h,i];unfold Dl;rw[F9 j g.1];by_cases e:y=v.node
 ·subst e;rw[d_ rfl];unfold sI;rw[k,JI];unfold aZ;rw[d_ g.1];show m.R (m.idx v.node) p+(if p=18+a*6+b then v.aQ else 0)=m.R (m.idx v.node) p+_;by_cases c:p=18+a*6+b
  ·rw[d_ c,d_ ⟨rfl,by omega⟩]
  rw[b_ c,b_ (fun q=>c (by omega))]
 rw[b_ e,b_ (fun q=>e q.1),D_]
theorem Wy(a:m.T.ok){f:(Nat->Int)->(Nat->Int) × Int}{x:Int}{n:Int}{off:Nat}(b : ∀ y,y∈m.T.path x->(f (aZ m y)).1=upd (aZ m y) off (aZ m y off+n))(y:Int)(p:Nat):aZ (qH m f (m.T.path x)) y p=aZ m y p+if(eH m).on x y=true/\p=off then n else 0:=by
 rw[JH a];by_cases c:y∈m.T.path x
 ·rw[d_ c,b y c,JI];by_cases e:p=off
  ·rw[d_ e,d_ ⟨(CU a x y).2 c,e⟩]
  rw[b_ e,b_ (fun q=>e q.2)]
 rw[b_ c,b_ (fun q=>c ((CU a x y).1 q.1)),D_]
theorem aeC(d:m.T.ok)(g:bQ v=true)(b:v.kind=3)(a:jd m v=0)(y:Int)(p:Nat):aZ (kL m v) y p=aZ m y p+(eH m).dl v y p:=by
 have e:dA m (fun x=>bD x v.o v.aQ) (m.T.path v.node)=0:=by
  unfold jd at a;split at a
  ·cases a
  split at a
  ·cases a
  exact a
 unfold Ab.dl;rw[b_ (by rw[b]; decide),b_ (by rw[b]; decide),d_ b];refine Wy d (f:=fun x=>bD x v.o v.aQ) (x:=v.node) (fun y h => ?_) y p;have c:(bD (aZ m y) v.o v.aQ).2=0:=vI d e h;unfold bD at c;show(bD (aZ m y) v.o v.aQ).1=_;unfold bD;rw[(ze c).2.2.2.2.2.2,(CV g).2.2]
theorem aeD(i:m.T.ok)(l:bQ v=true)(b:v.kind=4)(a:jA m v=0)(y:Int)(p:Nat):aZ (iJ m v) y p=aZ m y p+(eH m).dl v y p:=by
 have d:iM m v.o v.of=true/\dA m (fun x=>bH x v.o (m.g (fA m v.o v.of) 3)) (m.T.path (m.g (fA m v.o v.of) 2))=0:=by
  unfold jA at a;split at a
  ·cases a
  split at a
  ·cases a
  rename_i c;refine⟨?_,a⟩
  cases e:iM m v.o v.of with
  | true=>rfl
  | false=>exact M_ (.inl e) c
 have j:(eH m).g v.o v.of 2=m.g (fA m v.o v.of) 2:=d_ ⟨d.1,by decide,by decide⟩;have k:(eH m).g v.o v.of 3=m.g (fA m v.o v.of) 3:=d_ ⟨d.1,by decide,by decide⟩;unfold Ab.dl;rw[b_ (by rw[b]; decide),b_ (by rw[b]; decide),b_ (by rw[b]; decide),d_ b,j,k];refine Wy i (f:=fun x=>bH x v.o (m.g (fA m v.o v.of) 3)) (x:=m.g (fA m v.o v.of) 2) (fun y n => ?_) y p;have h:(bH (aZ m y) v.o (m.g (fA m v.o v.of) 3)).2=0:=vI i d.2 n;unfold bH at h;show(bH (aZ m y) v.o (m.g (fA m v.o v.of) 3)).1=_;unfold bH;rw[(ze h).2.2.2.2.2.2,(CV l).2.2]
theorem L8{m':dO}(a:m'.an=m.an+1)(b:m'.ao=aN m.ao m.an v.o)(c:m'.ar=aN m.ar m.an v.req)(o r:Int):gH m' o r=(gH m o r || (decide (o=v.o)&&decide (r=v.req))):=by
 have:gH m' o r=true<->(gH m o r=true\/(v.o=o/\v.req=r)):=by unfold gH; rw[a,b,c]; exact FW
 rw[Bool.eq_iff_iff,this,Bool.or_eq_true,S_,P_,P_];exact⟨fun h=>h.imp id fun q=>⟨q.1.symm,q.2.symm⟩,fun h=>h.imp id fun q=>⟨q.1.symm,q.2.symm⟩⟩
theorem Wz{k1 k2:Nat->Int}{n:Nat}{a b o r:Int}(h : ¬ (a=o/\b=r)):wU (aN k1 n a) (aN k2 n b) (n+1) o r=wU k1 k2 n o r:=by
 have d : ∀ k,k<=n->wU (aN k1 n a) (aN k2 n b) k o r=wU k1 k2 k o r:=fun k=>by
  induction k with
  | zero=>intro _; rfl
  | succ k ih =>
    intro e;show(if aN k1 n a k=o/\aN k2 n b k=r then k else _)=(if k1 k=o/\k2 k=r then k else _);rw[ih (by omega)];have c : ¬ k=n:=(by omega);rw[show aN k1 n a k=k1 k from b_ c,show aN k2 n b k=k2 k from b_ c]
 show(if aN k1 n a n=o/\aN k2 n b n=r then n else wU (aN k1 n a) (aN k2 n b) n o r)=_;rw[d n (A_ _)];rw[show aN k1 n a n=a from d_ rfl,show aN k2 n b n=b from d_ rfl,b_ h]
theorem WA{k1 k2:Nat->Int}{n:Nat}{a b:Int}:wU (aN k1 n a) (aN k2 n b) (n+1) a b=n:=by
 show(if aN k1 n a n=a/\aN k2 n b n=b then n else _)=_;unfold aN;rw[d_ ⟨d_ rfl,d_ rfl⟩]
theorem zf(g:Nat->Nat->Int)(n:Nat)(r:Nat->Int)(j:Nat):(fun i=>aN g n r i j)=aN (fun i=>g i j) n (r j):=by
 funext i; unfold aN; split <;> rfl
end
end Rt
end
section
namespace Rt
section
variable {m:dO} {x y:Int} {v:EvM}
theorem jC{b c:Bool}(h:c=false):b=(b || c):=by rw[h,H_]
theorem J3{k:Int}(h:v.kind≠k){c:Bool}:(decide (v.kind=k)&&c)=false:=by rw[g_ h]; rfl
theorem WB(i:m.T.ok)(e:bQ v=true)(a:v.kind=1)(h:jc m v=0):eH (Dp m v)=(eH m).qI v:=by
 have d:qO v=nR v:=rD e;have b:v.kind≠3:=by rw[a]; decide
 have f:v.kind≠4:=by rw[a]; decide
 have k:v.kind≠6:=by rw[a]; decide
 have l:v.kind≠7:=by rw[a]; decide
 apply Ab.Ra
 ·funext j; exact jC (J3 k)
 ·funext j; exact jC (J3 l)
 ·funext j
  show aI m.own (aL v) (m.own (aL v)+1) j=m.own j+if v.kind=1/\j=aV v then 1 else 0;unfold aI;by_cases c:j=aL v
  ·rw[d_ c,d_ ⟨a,c⟩,c]
  rw[b_ c,b_ (fun q=>c q.2),D_]
 ·funext y
  show(m.T.put (nR v) v.node).has y=(m.T.has y || (decide (v.kind=1)&&decide (y=qO v)));rw[dN.jK,d,f_ a,Bool.true_and]
  congr 1
  exact decide_eq_decide.2 ⟨Eq.symm,Eq.symm⟩
 ·funext y
  show(m.T.put (nR v) v.node).par y=if v.kind=1/\y=qO v then v.node else m.T.par y;rw[dN.tH,d];by_cases c:nR v=y
  ·rw[d_ c,d_ ⟨a,c.symm⟩]
  rw[b_ c,b_ (fun q=>c q.2.symm)]
 ·funext y p; exact aeA i e a h y p
 ·funext o r; exact jC (J3 b)
 ·funext o r j
  show(eH m).g o r j=if v.kind=3/\_ then _ else if v.kind=4/\_ then _ else _;rw[b_ (fun q=>b q.1),b_ (fun q=>f q.1)]
 funext o r
 show gH m o r=(gH m o r || ((decide (v.kind=3) || decide (v.kind=4))&&_));rw[g_ b,g_ f];exact jC rfl
theorem L9{m':dO}(e:m'.inn=m.inn)(f:m'.left=m.left)(h:m'.own=m.own)(c:m'.T=m.T)(i : ∀ o r,iM m' o r=iM m o r)(k:(eH m').g=(eH m).g)(l : ∀ o r,gH m' o r=gH m o r)(a:v.kind≠1)(b:v.kind≠3)(d:v.kind≠4)(s:v.kind≠6)(t:v.kind≠7)
 (n : ∀ y p,aZ m' y p=aZ m y p+(eH m).dl v y p):eH m'=(eH m).qI v:=by
 apply Ab.Ra
 ·funext j; rw[show(eH m').inn j=m.inn j from congrFun e j]; exact jC (J3 s)
 ·funext j; rw[show(eH m').left j=m.left j from congrFun f j]; exact jC (J3 t)
 ·funext j
  rw[show(eH m').own j=m.own j from congrFun h j];show m.own j=m.own j+if v.kind=1/\j=aV v then 1 else 0;rw[b_ (fun q=>a q.1),D_]
 ·funext y; rw[show(eH m').has y=m.T.has y from by rw[<- c]; rfl]; exact jC (J3 a)
 ·funext y
  rw[show(eH m').par y=m.T.par y from by rw[<- c]; rfl];show _=if v.kind=1/\y=qO v then v.node else m.T.par y;rw[b_ (fun q=>a q.1)]
 ·funext y p; exact n y p
 ·funext o r; rw[show(eH m').gh o r=iM m o r from i o r]; exact jC (J3 b)
 ·funext o r j
  rw[k];show(eH m).g o r j=if v.kind=3/\_ then _ else if v.kind=4/\_ then _ else _;rw[b_ (fun q=>b q.1),b_ (fun q=>d q.1)]
 funext o r
 rw[show(eH m').ask o r=gH m o r from l o r];show gH m o r=(gH m o r || ((decide (v.kind=3) || decide (v.kind=4))&&_));rw[g_ b,g_ d];exact jC rfl
theorem Rf(c:m.T.ok)(d:bQ v=true)(a:v.kind=2)(b:jL m v=0):eH (uF m v)=(eH m).qI v :=
 L9 rfl rfl rfl rfl (fun _ _=>rfl) rfl (fun _ _=>rfl) (by rw[a]; decide) (by rw[a]; decide) (by rw[a]; decide) (by rw[a]; decide) (by rw[a]; decide) (Zo c d a b)
theorem WE(c:m.T.ok)(d:bQ v=true)(a:v.kind=5)(b:kK m v=0):eH (Dl m v)=(eH m).qI v :=
 L9 rfl rfl rfl rfl (fun _ _=>rfl) rfl (fun _ _=>rfl) (by rw[a]; decide) (by rw[a]; decide) (by rw[a]; decide) (by rw[a]; decide) (by rw[a]; decide) (aeB c d a b)
theorem JJ{k1 k2:Nat->Int}{a b:Int} : ∀ {n:Nat},Bt k1 k2 n a b=true->wU k1 k2 n a b<n
 | 0,h=>by cases h
 | n+1,h=>by
   unfold wU;by_cases c:k1 n=a/\k2 n=b
   ·rw[d_ c]; omega
   ·rw[b_ c];obtain⟨j,g,d,f⟩:=lM.1 h;by_cases e:j=n
    ·subst e; exact M_ ⟨d,f⟩ c
    ·have:=JJ (sK (show j<n by omega) d f); omega
theorem Zp(h1:v.kind≠1)(a:v.kind≠2)(b:v.kind≠3)(c:v.kind≠4)(d:v.kind≠5)(A:Ab)(y:Int)(p:Nat):A.dl v y p=0:=by
 unfold Ab.dl;rw[b_ h1,b_ a,b_ b,b_ c,b_ d]
theorem IB{A B:Ab}(h1:v.kind≠1)(n:v.kind≠2)(a:v.kind≠3)(b:v.kind≠4)(s:v.kind≠5)(c : ∀ j,B.inn j=(A.inn j || (decide (v.kind=6)&&decide (j=dV v))))(d : ∀ j,B.left j=(A.left j || (decide (v.kind=7)&&decide (j=aV v))))(e:B.own=A.own)(f:B.has=A.has)(h:B.par=A.par)(i:B.R=A.R)(k:B.gh=A.gh)(l:B.g=A.g)(m:B.ask=A.ask):B=A.qI v:=by
 apply Ab.Ra
 ·funext j; exact c j
 ·funext j; exact d j
 ·funext j; rw[e]; show A.own j=A.own j+if v.kind=1/\j=aV v then 1 else 0; rw[b_ (fun q=>h1 q.1),D_]
 ·funext y; rw[f]; exact jC (J3 h1)
 ·funext y; rw[h]; show _=if v.kind=1/\y=qO v then v.node else A.par y; rw[b_ (fun q=>h1 q.1)]
 ·funext y p; rw[i]; show _=A.R y p+A.dl v y p; rw[Zp h1 n a b s,D_]
 ·funext o r; rw[k]; exact jC (J3 a)
 ·funext o r j
  rw[l];show A.g o r j=if v.kind=3/\_ then _ else if v.kind=4/\_ then _ else _;rw[b_ (fun q=>a q.1),b_ (fun q=>b q.1)]
 funext o r
 rw[m];show A.ask o r=(A.ask o r || ((decide (v.kind=3) || decide (v.kind=4))&&_));rw[g_ a,g_ b];exact jC rfl
theorem Ma{f:Nat->Bool}{k j:Nat}{c:Bool}(a:c=true):aI f k true j=(f j || (c&&decide (j=k))):=by
 rw[a,Bool.true_and];unfold aI;by_cases e:j=k
 ·rw[d_ e,f_ e,Bool.or_true]
 rw[b_ e,g_ e,H_]
theorem WH(a:v.kind=6):eH (Ie m v)=(eH m).qI v :=
 IB (by rw[a]; decide) (by rw[a]; decide) (by rw[a]; decide) (by rw[a]; decide) (by rw[a]; decide) (fun j=>Ma (f_ a)) (fun j=>jC (J3 (by rw[a]; decide))) rfl rfl rfl rfl rfl rfl rfl
theorem Rh(a:v.kind=7):eH (Cv m v)=(eH m).qI v :=
 IB (by rw[a]; decide) (by rw[a]; decide) (by rw[a]; decide) (by rw[a]; decide) (by rw[a]; decide) (fun j=>jC (J3 (by rw[a]; decide))) (fun j=>Ma (k:=aL v) (f_ a)) rfl rfl rfl rfl rfl rfl rfl
theorem WI(z:m.T.ok)(A:QY m)(u:bQ v=true)(b:v.kind=3)(k:jd m v=0):eH (kL m v)=(eH m).qI v:=by
 have G:qO v=nR v:=rD u;have n:v.kind≠1:=by rw[b]; decide
 have C:v.kind≠4:=by rw[b]; decide
 have D:v.kind≠6:=by rw[b]; decide
 have E:v.kind≠7:=by rw[b]; decide
 have B:gH m v.o v.req=false:=by
  unfold jd at k
  cases c:gH m v.o v.req with
  | false=>rfl
  | true=>rw[d_ c]at k; cases k
 have F:iM m v.o v.req=false:=pK fun i t e=>by
  have:=A i t;rw[e.1,e.2,B]at this; cases this
 have s : ∀ o r,iM (kL m v) o r=(iM m o r || (decide (o=v.o)&&decide (r=v.req))):=fun o r=>by
  have d:=zf m.g m.gn (pJ v) 0;have f:=zf m.g m.gn (pJ v) 1;have:iM (kL m v) o r=true<->(iM m o r=true\/(v.o=o/\v.req=r)):=by
   show Bt (fun i=>aN m.g m.gn (pJ v) i 0) (fun i=>aN m.g m.gn (pJ v) i 1) (m.gn+1) o r=true<->_;rw[d,f]; exact FW
  rw[Bool.eq_iff_iff,this,Bool.or_eq_true,S_,P_,P_];exact⟨fun h=>h.imp id fun q=>⟨q.1.symm,q.2.symm⟩,fun h=>h.imp id fun q=>⟨q.1.symm,q.2.symm⟩⟩
 have x : ∀ o r,fA (kL m v) o r=wU (aN (fun i=>m.g i 0) m.gn v.o) (aN (fun i=>m.g i 1) m.gn v.req) (m.gn+1) o r:=fun o r=>by
  have d:=zf m.g m.gn (pJ v) 0;have f:=zf m.g m.gn (pJ v) 1;show wU (fun i=>aN m.g m.gn (pJ v) i 0) (fun i=>aN m.g m.gn (pJ v) i 1) (m.gn+1) o r=_;rw[d,f]; rfl
 apply Ab.Ra
 ·funext j; exact jC (J3 D)
 ·funext j; exact jC (J3 E)
 ·funext j
  show m.own j=m.own j+if v.kind=1/\j=aV v then 1 else 0;rw[b_ (fun q=>n q.1),D_]
 ·funext y; exact jC (J3 n)
 ·funext y
  show m.T.par y=if v.kind=1/\y=qO v then v.node else m.T.par y;rw[b_ (fun q=>n q.1)]
 ·funext y p; exact aeC z u b k y p
 ·funext o r
  show iM (kL m v) o r=(iM m o r || (decide (v.kind=3)&&(decide (o=v.o)&&decide (r=v.req))));rw[s,f_ b,Bool.true_and]
 ·funext o r j
  show(if iM (kL m v) o r=true/\2<=j/\j<=4 then(kL m v).g (fA (kL m v) o r) j else 0)=if v.kind=3/\o=v.o/\r=v.req then(if j=2 then v.node else if j=3 then v.aQ else 0)else if v.kind=4/\_ then _ else(if iM m o r=true/\2<=j/\j<=4 then m.g (fA m o r) j else 0);rw[s,x];by_cases c:o=v.o/\r=v.req
  ·rw[d_ (show v.kind=3/\o=v.o/\r=v.req from⟨b,c⟩),c.1,c.2,WA,f_ (rfl:v.o=v.o),f_ (rfl:v.req=v.req),Bool.and_self,Bool.or_true];show(if true=true/\2<=j/\j<=4 then aN m.g m.gn (pJ v) m.gn j else 0)=_;rw[show aN m.g m.gn (pJ v) m.gn=pJ v from d_ rfl];by_cases a:j=2
   ·rw[d_ a,a,d_ ⟨rfl,by decide,by decide⟩]; rfl
   rw[b_ a];by_cases l:j=3
   ·rw[d_ l,l,d_ ⟨rfl,by decide,by decide⟩]; rfl
   rw[b_ l];by_cases w:j=4
   ·rw[w,d_ ⟨rfl,by decide,by decide⟩]; rfl
   rw[b_ (by omega)]
  rw[b_ (show ¬ (v.kind=3/\o=v.o/\r=v.req)from fun q=>c q.2),b_ (show ¬ (v.kind=4/\o=v.o/\r=v.of/\j=4)from fun q=>C q.1),Wz (fun q=>c ⟨q.1.symm,q.2.symm⟩)];have:(decide (o=v.o)&&decide (r=v.req))=false:=by
   cases e:(decide (o=v.o)&&decide (r=v.req))with
   | false=>rfl
   | true=>rw[S_,P_,P_]at e; exact M_ e c
  rw[this,H_];by_cases a:iM m o r=true/\2<=j/\j<=4
  ·rw[d_ a,d_ a];obtain⟨i,t,d,f⟩:=lM.1 a.1;have:wU (fun i=>m.g i 0) (fun i=>m.g i 1) m.gn o r<m.gn:=JJ a.1;show aN m.g m.gn (pJ v) _ j=_;unfold aN;rw[b_ (by omega)];rfl
  rw[b_ a,b_ a]
 funext o r
 show gH (kL m v) o r=(gH m o r || ((decide (v.kind=3) || decide (v.kind=4))&&(decide (o=v.o)&&decide (r=v.req))));rw[f_ b,Bool.true_or,Bool.true_and];exact L8 rfl rfl rfl o r
theorem Ga{k1 k2:Nat->Int}{a b:Int} : ∀ {n:Nat},Bt k1 k2 n a b=true->k1 (wU k1 k2 n a b)=a/\k2 (wU k1 k2 n a b)=b
 | 0,h=>by cases h
 | n+1,h=>by
   unfold wU;by_cases c:k1 n=a/\k2 n=b
   ·rw[d_ c]; exact c
   ·rw[b_ c];obtain⟨j,g,d,f⟩:=lM.1 h;by_cases e:j=n
    ·subst e; exact M_ ⟨d,f⟩ c
    ·exact Ga (sK (show j<n by omega) d f)
theorem WJ(G:m.T.ok)(J:bQ v=true)(a:v.kind=4)(b:jA m v=0):eH (iJ m v)=(eH m).qI v:=by
 have k:v.kind≠1:=by rw[a]; decide
 have x:v.kind≠3:=by rw[a]; decide
 have K:v.kind≠6:=by rw[a]; decide
 have L:v.kind≠7:=by rw[a]; decide
 have f:iM m v.o v.of=true:=by
  unfold jA at b;split at b
  ·cases b
  split at b
  ·cases b
  rename_i c
  cases e:iM m v.o v.of with
  | true=>rfl
  | false=>exact M_ (.inl e) c
 have M:fA m v.o v.of<m.gn:=JJ f;have h : ∀ i j,j≠4->aN m.g (fA m v.o v.of) (upd (m.g (fA m v.o v.of)) 4 v.req) i j=m.g i j:=fun i j H=>by
  unfold aN;by_cases c:i=fA m v.o v.of
  ·rw[d_ c,c]; unfold upd; rw[b_ H]
  ·rw[b_ c]
 have n:(fun i=>(iJ m v).g i 0)=fun i=>m.g i 0:=by funext i; exact h i 0 (by decide)
 have s:(fun i=>(iJ m v).g i 1)=fun i=>m.g i 1:=by funext i; exact h i 1 (by decide)
 have w : ∀ o r,iM (iJ m v) o r=iM m o r:=fun o r=>by
  show Bt (fun i=>(iJ m v).g i 0) (fun i=>(iJ m v).g i 1) m.gn o r=_;rw[n,s]; rfl
 have F : ∀ o r,fA (iJ m v) o r=fA m o r:=fun o r=>by
  show wU (fun i=>(iJ m v).g i 0) (fun i=>(iJ m v).g i 1) m.gn o r=_;rw[n,s]; rfl
 apply Ab.Ra
 ·funext j; exact jC (J3 K)
 ·funext j; exact jC (J3 L)
 ·funext j
  show m.own j=m.own j+if v.kind=1/\j=aV v then 1 else 0;rw[b_ (fun q=>k q.1),D_]
 ·funext y; exact jC (J3 k)
 ·funext y
  show m.T.par y=if v.kind=1/\y=qO v then v.node else m.T.par y;rw[b_ (fun q=>k q.1)]
 ·funext y p; exact aeD G J a b y p
 ·funext o r
  show iM (iJ m v) o r=(iM m o r || (decide (v.kind=3)&&_));rw[w]; exact jC (J3 x)
 ·funext o r j
  show(if iM (iJ m v) o r=true/\2<=j/\j<=4 then(iJ m v).g (fA (iJ m v) o r) j else 0)=if v.kind=3/\o=v.o/\r=v.req then _ else if v.kind=4/\o=v.o/\r=v.of/\j=4 then v.req else(if iM m o r=true/\2<=j/\j<=4 then m.g (fA m o r) j else 0);rw[w,F,b_ (show ¬ (v.kind=3/\o=v.o/\r=v.req)from fun q=>x q.1)];show(if iM m o r=true/\2<=j/\j<=4 then aN m.g (fA m v.o v.of) (upd (m.g (fA m v.o v.of)) 4 v.req) (fA m o r) j else 0)=_;by_cases c:v.kind=4/\o=v.o/\r=v.of/\j=4
  ·rw[d_ c,c.2.1,c.2.2.1,c.2.2.2,d_ ⟨f,by decide,by decide⟩];unfold aN upd; rw[d_ rfl,d_ rfl]
  rw[b_ c];by_cases d:iM m o r=true/\2<=j/\j<=4
  ·rw[d_ d,d_ d];by_cases l:j=4
   ·have I:fA m o r≠fA m v.o v.of:=fun e=>c ⟨a,by
     obtain⟨z,A⟩:=Ga d.1;obtain⟨B,C⟩:=Ga f;have t:m.g (fA m o r) 0=o:=z;have D:m.g (fA m v.o v.of) 0=v.o:=B;have u:m.g (fA m o r) 1=r:=A;have E:m.g (fA m v.o v.of) 1=v.of:=C;rw[e]at t u;exact⟨t.symm.trans D,u.symm.trans E,l⟩⟩
    unfold aN; rw[b_ I]
   exact h _ j l
  rw[b_ d,b_ d]
 funext o r
 show gH (iJ m v) o r=(gH m o r || ((decide (v.kind=3) || decide (v.kind=4))&&(decide (o=v.o)&&decide (r=v.req))));rw[f_ a,Bool.or_true,Bool.true_and];exact L8 rfl rfl rfl o r
theorem WK(c:m.T.ok)(j:QY m)(b:bQ v=true)(a:dL m v=0):eH (iU m v)=(eH m).qI v:=by
 have k:=ji b;unfold dL at a;unfold iU;by_cases d:v.kind=1
 ·rw[d_ d]at a ⊢; exact WB c b d a
 rw[b_ d]at a ⊢;by_cases e:v.kind=2
 ·rw[d_ e]at a ⊢; exact Rf c b e a
 rw[b_ e]at a ⊢;by_cases f:v.kind=3
 ·rw[d_ f]at a ⊢; exact WI c j b f a
 rw[b_ f]at a ⊢;by_cases g:v.kind=4
 ·rw[d_ g]at a ⊢; exact WJ c b g a
 rw[b_ g]at a ⊢;by_cases h:v.kind=5
 ·rw[d_ h]at a ⊢; exact WE c b h a
 rw[b_ h]at a ⊢;by_cases i:v.kind=6
 ·rw[d_ i]; exact WH i
 rw[b_ i]; exact Rh (by omega)
theorem Ri(c:m.T.ok)(d:QY m)(a:bU m v=0):eH (jB m v)=(eH m).qI v:=by
 have b:=WK c d (qh a) (qj a).2.1;unfold jB;rw[d_ a];exact b
end
end Rt
end
section
namespace Rt
structure Ab.Sm(A:Ab)(N:Nat):Prop where
 r : ∀ y p,A.R y p<=65536*N
 g : ∀ o r,A.gh o r=true->1<=A.g o r 3/\A.g o r 3<=65536
structure RB(m:dO):Prop where
 n:(m.T.n:Int)=m.own 0+m.own 1+m.own 2+m.own 3+m.own 4+m.own 5
 o : ∀ a,a<6->m.own a<=5
section
variable {A:Ab} {m:dO} {L:eY} {N S:Nat} {x y:Int} {v:EvM}
theorem Ab.Sm.dl(m:A.Sm S)(l:A.Pre v)(k:ow v)(y:Int)(p:Nat):A.dl v y p<=65536:=by
 have b:=k.aQ;have a : ∀ {c:Prop} [Decidable c] {n:Int},n<=65536->(if c then n else 0)<=65536:=fun {c} _ {n} h=>by split <;> omega
 unfold Ab.dl;by_cases e:v.kind=1
 ·rw[d_ e]; exact a b
 rw[b_ e];by_cases f:v.kind=2
 ·rw[d_ f]; exact a b
 rw[b_ f];by_cases i:v.kind=3
 ·rw[d_ i]; exact a b
 rw[b_ i];by_cases d:v.kind=4
 ·rw[d_ d]; exact a (m.g _ _ (l.n4 d)).2
 rw[b_ d];by_cases j:v.kind=5
 ·rw[d_ j]; exact a b
 rw[b_ j]; decide
theorem Ab.Sm.qI(b:A.Sm S)(f:A.Pre v)(h:bQ v=true)(d:ow v):(A.qI v).Sm (S+1) where
 r:=fun y p=>by
  have i:=b.r y p;have j:=b.dl f d y p;show A.R y p+A.dl v y p<=_;omega
 g:=fun o r a=>by
  have a:(A.gh o r || (decide (v.kind=3)&&(decide (o=v.o)&&decide (r=v.req))))=true:=a;by_cases c:v.kind=3/\o=v.o/\r=v.req
  ·have:(A.qI v).g o r 3=v.aQ:=(by show(if v.kind=3/\o=v.o/\r=v.req then _ else _)=v.aQ; rw[d_ c]; rfl);rw[this]; exact⟨(lH h (.inr (.inl c.1))).1,d.aQ⟩
  ·have e:A.gh o r=true:=by
    rcases Bool.or_eq_true_iff.1 a with q|q
    ·exact q
    ·rw[S_,S_]at q; exact M_ ⟨h_ q.1,h_ q.2.1,h_ q.2.2⟩ c
   rw[Ab.LY f e 3 (by decide)];exact b.g o r e
theorem RB.row{m':dO}(h:RB m)(a:m'.T=m.T)(b:m'.own=m.own):RB m':=by
 cases m'; cases m; cases a; cases b; exact⟨h.n,h.o⟩
theorem RB.does(h:RB m)(l:bQ v=true)(b:dL m v=0):RB (iU m v):=by
 unfold dL at b;unfold iU;by_cases c:v.kind=1
 ·rw[d_ c]at b ⊢;have q:m.own (aL v)<5:=by
   unfold jc at b;split at b
   ·cases b
   ·omega
  have r:=jU l;have p:=h.n;refine⟨?_,fun a k => ?_⟩
  ·show((m.T.n+1:Nat):Int)=aI m.own (aL v) (m.own (aL v)+1) 0+aI m.own (aL v) (m.own (aL v)+1) 1+aI m.own (aL v) (m.own (aL v)+1) 2+aI m.own (aL v) (m.own (aL v)+1) 3+aI m.own (aL v) (m.own (aL v)+1) 4+aI m.own (aL v) (m.own (aL v)+1) 5;unfold aI
   rcases(show aL v=0\/aL v=1\/aL v=2\/aL v=3\/aL v=4\/aL v=5 by omega)with e|e|e|e|e|e <;> rw[e] <;> simp <;> omega
  show aI m.own (aL v) (m.own (aL v)+1) a<=5;have:=h.o a k;unfold aI; split <;> omega
 rw[b_ c];by_cases d:v.kind=2
 ·rw[d_ d]; exact h.row rfl rfl
 rw[b_ d];by_cases f:v.kind=3
 ·rw[d_ f]; exact h.row rfl rfl
 rw[b_ f];by_cases g:v.kind=4
 ·rw[d_ g]; exact h.row rfl rfl
 rw[b_ g];by_cases i:v.kind=5
 ·rw[d_ i]; exact h.row rfl rfl
 rw[b_ i];by_cases j:v.kind=6
 ·rw[d_ j]; exact h.row rfl rfl
 rw[b_ j]; exact h.row rfl rfl
theorem RB.apply(h:RB m):RB (jB m v):=by
 unfold jB;by_cases c:bU m v=0
 ·rw[d_ c]; exact(h.does (qh c) (qj c).2.1).row rfl rfl
 rw[b_ c]; exact h
theorem aaD(x:Nat->Int)(a:Nat):Rt.L x a=Aq x a:=by
 have e : ∀ i,R x a i=x (18+(6*a+i)):=fun i=>by unfold R; congr 1; omega
 have b:R x 0 a=x (18+(6*0+a)):=by unfold R; congr 1; omega
 have c:R x 1 a=x (18+(6*1+a)):=by unfold R; congr 1; omega
 have d:R x 2 a=x (18+(6*2+a)):=by unfold R; congr 1; omega
 have f:R x 3 a=x (18+(6*3+a)):=by unfold R; congr 1; omega
 have g:R x 4 a=x (18+(6*4+a)):=by unfold R; congr 1; omega
 have h:R x 5 a=x (18+(6*5+a)):=by unfold R; congr 1; omega
 unfold Rt.L Aq;rw[e,e,e,e,e,e,b,c,d,f,g,h];unfold G C F;omega
theorem vJ{x:Nat->Int}(h:may x=true)(b:bQ v=true):fJ x v.o=Aq x (aV v):=by
 obtain⟨e,a,_⟩:=CV b;rw[e,nY h _ a,aaD]
theorem yI{x:Nat->Int}{n:Int}{b:Bool}{a:Int}{off:Nat}(h1:may x=true)(c:1<=n)(d:n<=1125899906842624)(e:b=true)(f:a=0)(g:x off+n<=1125899906842624):(bT x n b a off).2=0:=by
 rcases og x n b a off with ⟨_,_,h⟩|⟨_,h⟩
 ·exact M_ ⟨h1,c,d,e,f,g⟩ h
 rw[h]
theorem Dw{f:(Nat->Int)->(Nat->Int) × Int}{r:Nat->Nat->Int} : ∀ {n:Nat},(∀ i,i<n->(f (r i)).2=0)->gK f r n=0
 | 0,_=>rfl
 | n+1,h=>CG (Dw fun i a=>h i (by omega)) (h n (by omega))
theorem Gb(c:m.T.ok){f:(Nat->Int)->(Nat->Int) × Int}{x:Int}(h : ∀ y,y∈m.T.path x->(f (aZ m y)).2=0):dA m f (m.T.path x)=0 :=
 Dw fun i a=>by
  have b:(m.T.path x).getD i 0∈m.T.path x:=by
   rw[r_,o_ a]; exact Q_ a
  have:=h _ b;unfold aZ at this;rw[d_ (dN.lK c rfl _ b)]at this;exact this
theorem Ar(h:bQ v=true)(b:v.kind=5):1<=v.dst/\v.dst<=6/\v.dst≠v.o:=by
 unfold bQ at h;simp only[S_]at h;have a:=h.2;unfold dM at a;rw[b_ (by omega),b_ (by omega),b_ (by omega),b_ (by omega),d_ b,S_]at a;have:=a.2;unfold mD jH at this;simp at this;omega
theorem PK(a:bQ v=true):gW v.o=true:=by have:=oh a; unfold gW; simp; omega
end
structure Tw(m:dO)(L:eY)(N S:Nat):Prop where
 t:Et m L N
 w:RB m
 s:(eH m).Sm S
 b:S<=1000000
section
variable {m:dO} {L:eY} {N S:Nat} {x y:Int} {v:EvM}
theorem Et.may(h:Et m L N)(hy:m.T.has y=true):may (aZ m y)=true:=by
 obtain⟨i,a,e⟩:=(h.s.T.has y).1 hy;unfold aZ;rw[d_ hy,<- e,h.s.row i a];exact h.i.may i a
theorem Tw.cell(h:Tw m L N S)(y:Int)(p:Nat):aZ m y p<=65536000000:=by
 have:=h.s.r y p;have a:=h.b;show(eH m).R y p<=_;omega
theorem Tw.make(h:Tw m L N S)(s:bQ v=true)(k:v.kind=1)(j:(eH m).Rb v):jc m v=0:=by
 obtain⟨a,b,c⟩:=j.pre.n1 k;obtain⟨d,e,f⟩:=j.k1 k;have r:qO v=nR v:=rD s;rw[r]at a b;unfold jc;have d:m.own (aL v)<5:=d;rw[b_ (show ¬ (5<=m.own (aL v)\/140737488355328<v.aQ) by omega)];show qW m.T.x m.T.p m.T.n (nR v) v.node=0;unfold qW;have a:dS m.T.x m.T.n (nR v)=false:=a;rw[b_ b,b_ (by rw[a]; decide)];rw[b_ (show ¬ (¬ v.node=0/\dS m.T.x m.T.n v.node=false)from fun q=>by
  rcases c with c|c
  ·exact q.1 c
  ·have c:dS m.T.x m.T.n v.node=true:=c;rw[q.2]at c; cases c)]
 rw[b_];rintro (q|q)
 ·have y:=h.w.n;have g:=h.w.o;have:=g 0 (by decide); have:=g 1 (by decide); have:=g 2 (by decide); have:=g 3 (by decide); have:=g 4 (by decide); have:=g 5 (by decide);omega
 obtain⟨u,_⟩:=Ev h.t.t _ v.node (A_ _);exact f fun i l=>by
  rw[F8];exact(u i (n_ l q)).2
theorem Tw.make'(h:Tw m L N S)(k:bQ v=true)(o:v.kind=1)(a:jc m v=0):(qO v≠0/\(eH m).has (qO v)=false/\(v.node=0\/(eH m).has v.node=true))/\(eH m).own (aV v)<5/\v.aQ<=140737488355328 /\ ¬ ∀ i,i<4->(eH m).has ((eH m).up v.node i)=true:=by
 have j:qO v=nR v:=rD k;unfold jc at a;by_cases c:5<=m.own (aL v)\/140737488355328<v.aQ
 ·rw[d_ c]at a; cases a
 rw[b_ c]at a;obtain⟨d,e,f,n,g⟩:=EO a;rw[j];refine⟨⟨d,e,f⟩,?_,by omega,fun q => ?_⟩
 ·show m.own (aL v)<5;omega
 obtain⟨_,l⟩:=Ev h.t.t _ v.node (A_ _);have:=q _ (show(m.T.path v.node).length<4 from g);rw[F8]at this;have b:m.T.has (LZ m.T v.node (m.T.path v.node).length)=true:=this;rw[l]at b; cases b
theorem Tw.does(h:Tw m L N S)(c:bQ v=true)(I:ow v)(j:(eH m).Rb v):dL m v=0:=by
 have k:=h.t.t;have P:=j.pre;have D:=PK c;have G : ∀ y p n,n<=65536->aZ m y p+n<=1125899906842624:=fun y p n U=>by have:=h.cell y p; omega
 unfold dL;by_cases E:v.kind=1
 ·rw[d_ E]; exact h.make c E j
 rw[b_ E];by_cases A:v.kind=2
 ·rw[d_ A];have a:m.T.has v.node=true:=P.n2 A;have:=j.k2 A;have e:(eH m).R v.node (aV v)=m.R (m.idx v.node) (aL v):=by
   show aZ m v.node (aV v)=_;unfold aZ; rw[d_ a]; rfl
  rw[e]at this;unfold jL;rw[b_ (by rw[a]; decide),b_ (by omega)]
 rw[b_ A];by_cases w:v.kind=3
 ·rw[d_ w];have a:m.T.has v.node=true:=(P.n3 w).1;obtain⟨b,i⟩:=j.k3 w;have b:gH m v.o v.req=false:=b;have r:=lH c (.inr (.inl w));unfold jd;rw[b_ (by rw[b]; decide),b_ (by rw[a]; decide)];refine Gb (f:=fun x=>bD x v.o v.aQ) k fun y u => ?_;have d:=h.t.may (dN.lK k rfl y u);have:=i y ((CU k _ y).2 u);have this:v.aQ<=Aq (aZ m y) (aV v):=this;refine yI d r.1 r.2 D ?_ (G y _ _ I.aQ);unfold pW;rw[vJ d c,g_ (by omega)]; rfl
 rw[b_ w];by_cases z:v.kind=4
 ·rw[d_ z];have a:iM m v.o v.of=true:=P.n4 z;obtain⟨b,i,J⟩:=j.k4 z;have b:gH m v.o v.req=false:=b;have K:(eH m).g v.o v.of 2=m.g (fA m v.o v.of) 2:=d_ ⟨a,by decide,by decide⟩;have H:(eH m).g v.o v.of 3=m.g (fA m v.o v.of) 3:=d_ ⟨a,by decide,by decide⟩;have M:(eH m).g v.o v.of 4=m.g (fA m v.o v.of) 4:=d_ ⟨a,by decide,by decide⟩;have B:=h.s.g _ _ (P.n4 z);rw[K,H]at J;rw[H]at B;rw[M]at i;unfold jA;rw[b_ (by rw[b]; decide),b_ (show ¬ (iM m v.o v.of=false\/m.g (fA m v.o v.of) 4≠0)from fun q=>q.elim (fun q=>by rw[a]at q; cases q) (fun q=>q i))]
  refine Gb (f:=fun x=>bH x v.o (m.g (fA m v.o v.of) 3)) k fun y u => ?_;have d:=h.t.may (dN.lK k rfl y u);have:=J y ((CU k _ y).2 u);have this:m.g (fA m v.o v.of) 3<=aZ m y (6+aV v)-aZ m y (12+aV v):=this;refine yI d B.1 (by omega) D ?_ (G y _ _ B.2);unfold qL C F;rw[(CV c).2.2,g_ (by omega)]; rfl
 rw[b_ z];by_cases l:v.kind=5
 ·rw[d_ l];have a:m.T.has v.node=true:=P.n5 l;obtain⟨b,i⟩:=j.k5 l;have b:m.inn (v.dst-1).toNat=true:=b;have i:v.aQ<=Aq (aZ m v.node) (aV v):=i;have r:=lH c (.inr (.inr l));have d:=h.t.may a;have O:aZ m v.node=m.R (m.idx v.node):=by unfold aZ; rw[d_ a]; rfl
  have Q:=Ar c l;unfold kK;rw[b_ (by rw[a]; decide),b_ (by rw[b]; decide)];show(dn (m.R (m.idx v.node)) v.o v.dst v.aQ).2=0;rw[<- O];refine yI d r.1 r.2 (by rw[D,show gW v.dst=true by unfold gW; simp; omega]; rfl) ?_ (G _ _ _ I.aQ);unfold nX;rw[b_ (fun e=>Q.2.2 e.symm),vJ d c,g_ (by omega)]; rfl
 rw[b_ l];split <;> rfl
theorem Tw.okE(h:Tw m L N S)(D:bQ v=true)(h1:m.inn (aL v)=true)(p:m.left (aL v)=false)(d:dL m v=0):(eH m).Rb v:=by
 have B:=h.t.t;unfold dL at d;have no : ∀ {k:Int} {P:Prop},v.kind≠k->v.kind=k->P:=fun a b=>M_ b a;by_cases r:v.kind=1
 ·rw[d_ r]at d;obtain⟨⟨H,I,J⟩,b⟩:=h.make' D r d;have n : ∀ {k:Int} {P:Prop},k≠1->v.kind=k->P:=fun a b=>M_ (b.symm.trans r) a;exact⟨h1,p,⟨fun _=>⟨I,H,J⟩,n (by decide),n (by decide),n (by decide),n (by decide)⟩,fun _=>b,n (by decide),n (by decide),n (by decide),n (by decide)⟩
 rw[b_ r]at d;by_cases w:v.kind=2
 ·rw[d_ w]at d;have n : ∀ {k:Int} {P:Prop},k≠2->v.kind=k->P:=fun a b=>M_ (b.symm.trans w) a;unfold jL at d
  cases f:m.T.has v.node with
  | false=>rw[d_ f]at d; cases d
  | true =>
    rw[b_ (by rw[f]; decide)]at d;have e:(eH m).R v.node (aV v)=m.R (m.idx v.node) (aL v):=by
     show aZ m v.node (aV v)=_;unfold aZ; rw[d_ f]; rfl
    refine⟨h1,p,⟨n (by decide),fun _=>f,n (by decide),n (by decide),n (by decide)⟩,n (by decide),fun _ => ?_,n (by decide),n (by decide),n (by decide)⟩;rw[e];by_cases c:140737488355328<m.R (m.idx v.node) (aL v)+v.aQ
    ·rw[d_ c]at d; cases d
    ·omega
 rw[b_ w]at d;by_cases x:v.kind=3
 ·rw[d_ x]at d;have n : ∀ {k:Int} {P:Prop},k≠3->v.kind=k->P:=fun a b=>M_ (b.symm.trans x) a;unfold jd at d
  cases c1:gH m v.o v.req with
  | true=>rw[d_ c1]at d; cases d
  | false =>
    rw[b_ (by rw[c1]; decide)]at d
    cases f:m.T.has v.node with
    | false=>rw[d_ f]at d; cases d
    | true =>
      rw[b_ (by rw[f]; decide)]at d;have W:iM m v.o v.req=false:=pK fun i u e=>by
       have:=h.t.s.ga i u;rw[e.1,e.2,c1]at this; cases this
      refine⟨h1,p,⟨n (by decide),n (by decide),fun _=>⟨f,W⟩,n (by decide),n (by decide)⟩,n (by decide),n (by decide),fun _=>⟨c1,fun y l => ?_⟩,n (by decide),n (by decide)⟩;have l:=(CU B _ y).1 l;have q:(bD (aZ m y) v.o v.aQ).2=0:=vI B d l;unfold bD at q;have G:=ze q;have j:=G.2.2.2.2.1;unfold pW at j;rw[vJ G.1 D]at j;show v.aQ<=Aq (aZ m y) (aV v);by_cases c:Aq (aZ m y) (aV v)<v.aQ
      ·rw[f_ c]at j; cases j
      ·omega
 rw[b_ x]at d;by_cases z:v.kind=4
 ·rw[d_ z]at d;have n : ∀ {k:Int} {P:Prop},k≠4->v.kind=k->P:=fun a b=>M_ (b.symm.trans z) a;unfold jA at d
  cases c1:gH m v.o v.req with
  | true=>rw[d_ c1]at d; cases d
  | false =>
    rw[b_ (by rw[c1]; decide)]at d;by_cases A:iM m v.o v.of=false\/m.g (fA m v.o v.of) 4≠0
    ·rw[d_ A]at d; cases d
    ·rw[b_ A]at d;have f:iM m v.o v.of=true:=by
      cases e:iM m v.o v.of with
      | true=>rfl
      | false=>exact M_ (.inl e) A
     have U:m.g (fA m v.o v.of) 4=0:=Classical.byContradiction fun q=>A (.inr q);have K:(eH m).g v.o v.of 2=m.g (fA m v.o v.of) 2:=d_ ⟨f,by decide,by decide⟩;have M:(eH m).g v.o v.of 3=m.g (fA m v.o v.of) 3:=d_ ⟨f,by decide,by decide⟩;have O:(eH m).g v.o v.of 4=m.g (fA m v.o v.of) 4:=d_ ⟨f,by decide,by decide⟩;refine⟨h1,p,⟨n (by decide),n (by decide),n (by decide),fun _=>f,n (by decide)⟩,n (by decide),n (by decide),n (by decide),fun _=>⟨c1,O.trans U,fun y l => ?_⟩,n (by decide)⟩;rw[K]at l;rw[M];have l:=(CU B _ y).1 l;have q:(bH (aZ m y) v.o (m.g (fA m v.o v.of) 3)).2=0:=vI B d l;unfold bH at q;have G:=ze q;have j:=G.2.2.2.2.1;unfold qL C F at j;rw[(CV D).2.2]at j;show m.g (fA m v.o v.of) 3<=aZ m y (6+aV v)-aZ m y (12+aV v);by_cases c:aZ m y (6+aV v)-aZ m y (12+aV v)<m.g (fA m v.o v.of) 3
     ·rw[f_ c]at j; cases j
     ·omega
 rw[b_ z]at d;by_cases E:v.kind=5
 ·rw[d_ E]at d;have n : ∀ {k:Int} {P:Prop},k≠5->v.kind=k->P:=fun a b=>M_ (b.symm.trans E) a;unfold kK at d
  cases f:m.T.has v.node with
  | false=>rw[d_ f]at d; cases d
  | true =>
    rw[b_ (by rw[f]; decide)]at d
    cases u:m.inn (v.dst-1).toNat with
    | false=>rw[d_ u]at d; cases d
    | true =>
      rw[b_ (by rw[u]; decide)]at d;have hm:=h.t.may f;have Q:aZ m v.node=m.R (m.idx v.node):=(by unfold aZ; rw[d_ f]; rfl);obtain⟨a,b,ha,hb,hne,ho,hd,X,Y,V,hM,heq⟩:=Bf d;refine⟨h1,p,⟨n (by decide),n (by decide),n (by decide),n (by decide),fun _=>f⟩,n (by decide),n (by decide),n (by decide),n (by decide),fun _=>⟨u,?_⟩⟩;show v.aQ<=Aq (aZ m v.node) (aV v);rw[Q,<- aaD,show aV v=a by unfold aV; omega];exact V
 have Z:=ji D;exact⟨h1,p,⟨no r,no w,no x,no z,no E⟩,no r,no w,no x,no z,no E⟩
theorem JK{K:Nat->Int}(h:dz K v=true):jY K v=false:=by
 obtain⟨a,b,c⟩:=Dj h;unfold jY;rw[g_ (show ¬ v.seq<=K (v.o-1).toNat by have b:v.seq=K (v.o-1).toNat+1:=b; omega),I_]
theorem Tw.check(h:Tw m L N S)(i:ow v)(hr:dz m.known v=true):bU m v=0<->(eH m).Rb v:=by
 have f:=(Dj hr).1;constructor
 ·intro g;obtain⟨a,b,c,d⟩:=qj g;exact h.okE f c d b
 intro e;unfold bU;rw[b_ (by rw[f]; decide),b_ (by rw[JK hr]; decide),b_ (by rw[hr]; decide),b_,h.does f i e];rintro (q|q)
 ·have:=e.inn; rw[show(eH m).inn (aV v)=m.inn (aL v)from rfl,q]at this; cases this
 have:=e.left; rw[show(eH m).left (aV v)=m.left (aL v)from rfl,q]at this; cases this
end
end Rt
end
section
namespace Rt
def WL(k:Nat):Ab:=eH (yG k 0 0 0 0 0 0)
structure Ws(k:Nat)(ev:Nat->EvM)(an:Nat):Prop extends Evs (WL k) ev an where
 sm : ∀ i,i<an->ow (ev i)
 an:an<=1000
structure rF(k:Nat)(ev:Nat->EvM)(an:Nat)(L:eY):Prop where
 ex : ∃ m N,Et m L N/\RB m/\eH m=fQ ev L.known (WL k) an
 kc:JX ev an L.known
section
variable {ev ev':Nat->EvM} {an n k i j:Nat} {K:Nat->Int} {L L':eY} {v:EvM} {m:dO} {N S:Nat} {A:Ab}
theorem aeE(h:bQ v=true):Mv v:=by
 have a:=oh h;refine⟨⟨a.1,a.2.1⟩,a.2.2,?_,fun d=>⟨(Ar h d).1,(Ar h d).2.1⟩⟩;have i:=ji h;by_cases g:v.kind=2\/v.kind=3\/v.kind=5
 ·have:=(lH h g).1; omega
 have c:su v=true:=by unfold bQ at h; simp only[S_]at h; exact h.1.2
 have b:dM v=true:=by unfold bQ at h; simp only[S_]at h; exact h.2
 by_cases f:v.kind=1
 ·unfold dM at b;rw[d_ f]at b;simp at b;omega
 have e:v.aQ=(kX v).aQ:=by unfold su at c; simp only[S_,decide_eq_true_eq]at c; exact c.1.1.2
 rw[e];unfold kX;rw[b_ f,b_ (by omega),b_ (by omega)];split
 ·exact N_ _
 rw[b_ (by omega)];split <;> exact N_ _
theorem aeF(k:Nat):(WL k).Ok:=⟨rfl,fun _ h=>(nomatch h),fun _ _=>rfl,fun _ _ h=>(nomatch h),fun _ _ _=>rfl⟩
theorem aeG(k:Nat):(WL k).Sm 0:=⟨fun _ _=>N_ _,fun _ _ h=>(nomatch h)⟩
theorem ow0(k:Nat):RB (yG k 0 0 0 0 0 0):=⟨rfl,fun _ _=>by show(0:Int)<=5; decide⟩
theorem Ab.Sm.mono{S':Nat}(h:A.Sm S)(a:S<=S'):A.Sm S':=⟨fun y p=>by have:=h.r y p; omega,h.g⟩
theorem Evs.cz(h:Evs A ev an):Cz 6 an ev (fun _=>fI ev an) where
 rd:=h.rd
 reg:=fun k a=>(h.g k a).reg.2
 own:=fun _ _=>rfl
 kc:=fun _ _=>⟨fun _ _=>N_ _,fun k a _ i b=>R_ ((Dj (h.rd k a)).2.2 i b) (cnt_mono (by omega))⟩
theorem Ws.fsm(W:Ws k ev an)(a:JX ev an K) : ∀ n,n<=an->(fQ ev K (WL k) n).Sm n
 | 0,_=>aeG k
 | n+1,hn=>by
   have b:=W.fsm a n (by omega)
   cases c:vS K (ev n)with
   | true =>
     rw[mO c];exact b.qI ((vH W.toEvs (n+1) hn K a).2 n (by omega) c).pre (Dj (W.rd n (by omega))).1 (W.sm n (by omega))
   | false=>rw[mV c]; exact b.mono (by omega)
theorem rF.tw(h:rF k ev an L)(W:Ws k ev an) : ∃ m N,Tw m L N an/\eH m=fQ ev L.known (WL k) an:=by
 obtain⟨m,N,b,c,a⟩:=h.ex;exact⟨m,N,⟨b,c,by rw[a]; exact W.fsm h.kc an (A_ _),by have:=W.an; omega⟩,a⟩
theorem rF.ready(h:rF k ev an L)(W:Ws k ev an)(c:j<an)(hr:dz L.known (ev j)=true):bA L (ev j)=0:=by
 obtain⟨m,N,a,d⟩:=h.tw W;have b:=Iw W.toEvs h.kc c hr (show j<=an by omega) (A_ _);rw[<- d]at b;rw[<- (a.t.s.apply a.t.t a.t.i (ev j)).1];exact(a.check (W.sm j c) (by rw[a.t.s.known]; exact hr)).2 b
theorem rF.apply(h:rF k ev an L)(W:Ws k ev an)(b:j<an):rF k ev an (bV L (ev j)):=by
 rcases lW L (ev j)with ⟨c,e⟩|⟨c,e⟩
 ·have d:=iK c;obtain⟨m,N,a,f,g⟩:=h.ex;have l:bU m (ev j)=0:=(a.s.apply a.t a.i (ev j)).1.trans c;refine⟨⟨jB m (ev j),N+1,a.apply (ev j),f.apply,?_⟩,by rw[e]; exact W.toEvs.cz.step h.kc b d⟩;rw[Ri a.t a.s.ga l,g,e];exact(Zn W.toEvs h.kc b d).symm
 rw[e]; exact h
theorem rF.pass(W:Ws k ev an){a:Nat->Int}(h:rF k ev an L) : ∀ j,j<=an->rF k ev an (nM ev a L j)
 | 0,_=>h
 | j+1,hj=>by
   unfold nM;split
   ·exact(h.pass W j (by omega)).apply W (by omega)
   ·exact h.pass W j (by omega)
theorem rF.iB(W:Ws k ev an){a:Nat->Int} : ∀ f L,rF k ev an L->rF k ev an (iB ev an a f L)
 | 0,L,hL=>by unfold Rt.iB; exact hL
 | f+1,L,hL=>by
   unfold Rt.iB;split
   ·exact hL.pass W an (A_ _)
   ·exact rF.iB W f _ (hL.pass W an (A_ _))
theorem rF.new(k:Nat)(ev:Nat->EvM)(an:Nat)(a : ∀ i,i<an->1<=(ev i).seq)(f:Nat):rF k ev an (kH k f).core:=by
 have d : ∀ n,n<=an->fQ ev (fun _=>0) (WL k) n=WL k:=fun n=>by
  induction n with
  | zero=>intro _; rfl
  | succ n ih =>
    intro h;have c:vS (fun _=>0) (ev n)=false:=g_ (show ¬ (ev n).seq<=0 by have:=a n (by omega); omega);rw[mV c]; exact ih (by omega)
 exact⟨⟨yG k 0 0 0 0 0 0,0,Et.new k,ow0 k,(d an (A_ _)).symm⟩,fun i b=>FI an i,fun i b e j g=>M_ (show(ev i).seq<=0 from e) (by have:=a i b; omega)⟩
theorem CW(h : ∀ i,i<n->ev' i=ev i):fQ ev' K A n=fQ ev K A n:=by
 induction n with
 | zero=>rfl
 | succ n ih =>
   show(if vS K (ev' n)=true then(fQ ev' K A n).qI (ev' n)else fQ ev' K A n)=_;rw[ih fun i a=>h i (by omega),h n (by omega)]; rfl
theorem wV{v:EvM} : ∀ i,i<an->aI ev an v i=ev i:=fun i a=>b_ (by omega)
theorem uG{v:EvM}:aI ev an v an=v:=d_ rfl
theorem JX.more(h:JX ev an K)(g:bQ v=true)(l:v.seq=fI ev an (aL v)+1):JX (aI ev an v) (an+1) K/\vS K v=false:=by
 have c : ¬ v.seq<=K (aL v):=by have:=h.le _ (jU g); omega
 refine⟨⟨fun i b => ?_,fun i b a j f => ?_⟩,g_ c⟩
 ·have:=h.le i b;have d:=cnt_mono (ev:=aI ev an v) (j:=an) (k:=an+1) (i:=i) (by omega);rw[Bl an (A_ _)]at d;omega
 by_cases e:i=an
 ·rw[e,uG]at a; exact M_ a c
 rw[wV i (by omega)]at a ⊢;exact h.cl i (by omega) a j f
theorem rF.more(h:rF k ev an L)(g:bQ v=true)(f:v.seq=fI ev an (aL v)+1):rF k (aI ev an v) (an+1) L:=by
 obtain⟨m,N,c,d,e⟩:=h.ex;obtain⟨a,b⟩:=h.kc.more g f;refine⟨⟨m,N,c,d,?_⟩,a⟩;rw[mV (by rw[uG]; exact b),CW wV];exact e
theorem Ws.more(W:Ws k ev an)(h:rF k ev an L)(u:an<1000)(p:ow v)(n:bA L v=0)(d:v.deps=L.known)(f:v.seq=fI ev an (aL v)+1):Ws k (aI ev an v) (an+1):=by
 have o:=iK n;have c:=(Dj o).1;have q : ∀ j,j<=an -> ∀ i,fI (aI ev an v) j i=fI ev j i:=fun j a i=>Bl j a i;have l : ∀ j,j<=an->fI (aI ev an v) j=fI ev j:=fun j a=>funext (q j a);refine { ok0:=W.ok0,rd:=fun j a => ?_,g:=fun j a => ?_,dc:=fun j a => ?_,tk:=fun j a => ?_,sm:=fun j a => ?_,an:=by omega }
 ·by_cases e:j=an
  ·rw[e,uG,l an (A_ _)];exact Js c f (by rw[d]; exact h.kc.le)
  rw[wV j (by omega),l j (by omega)]; exact W.rd j (by omega)
 ·by_cases e:j=an
  ·rw[e,uG]; exact aeE c
  rw[wV j (by omega)]; exact W.g j (by omega)
 ·by_cases e:j=an
  ·rw[e,uG,d]; exact(h.kc.more c f).1
  rw[wV j (by omega)]; exact((W.dc j (by omega)).more c f).1
 ·by_cases e:j=an
  ·rw[e,uG,d,CW wV];obtain⟨m,N,b,r⟩:=h.tw W;rw[<- r];exact(b.check p (by rw[b.t.s.known]; exact o)).1 ((b.t.s.apply b.t.t b.t.i v).1.trans n)
  rw[wV j (by omega),CW fun i w=>wV i (by omega)]; exact W.tk j (by omega)
 by_cases e:j=an
 ·rw[e,uG]; exact p
 rw[wV j (by omega)]; exact W.sm j (by omega)
theorem Ws.zero(k:Nat)(ev:Nat->EvM):Ws k ev 0 where
 ok0:=aeF k
 rd:=fun _ h=>M_ h (z_ _)
 g:=fun _ h=>M_ h (z_ _)
 dc:=fun _ h=>M_ h (z_ _)
 tk:=fun _ h=>M_ h (z_ _)
 sm:=fun _ h=>M_ h (z_ _)
 an:=by decide
end
structure WC(M:WM):Prop where
 w:Ws M.n M.ev M.an
 f : ∀ o,o<M.n->rF M.n M.ev M.an (M.ml o).core
theorem WC.new{M:WM}(a:M.an=0)(h : ∀ i,(M.ml i).core=(kH M.n 0).core):WC M:=by
 refine⟨by rw[a]; exact .zero _ _,fun o c=>by rw[h,a]; exact .new _ _ _ (fun i b=>M_ b (z_ _)) 0⟩
theorem WC.do{w':World}{M k:WM}{B p T o:Nat}{x:DZ}{v:EvM}(h:WC M)(y:oo w' B p k T)(j:o<M.n)(a:DoR o x M k v)(z:M.an<1000)(A:(M.ml o).s.known o=fI M.ev M.an o):WC k:=by
 rcases a.c with ⟨u,g,d,b⟩|⟨u,g,d,b,h5,h6,h7,h8⟩
 ·refine⟨by rw[a.n,g,d]; exact h.w,fun q i => ?_⟩;rw[a.n]at i;rw[a.n,g,d];by_cases e:q=o
  ·rw[e]
   rcases b with b|⟨_,b⟩
   ·rw[b]; exact h.f o j
   rw[b]; exact rF.iB h.w _ _ (h.f o j)
  rw[a.oth q e]; exact h.f q i
 have C:=iK b;have r:=(Dj C).1;have t:aL v=o:=by unfold aL; omega
 have l:v.seq=fI M.ev M.an (aL v)+1:=by rw[t,<- A]; exact h7
 have D:ow v:=by
  have:=y.sm M.an (by omega);rw[d,uG]at this; exact this
 have m:Ws M.n (aI M.ev M.an v) (M.an+1):=h.w.more (h.f o j) z D b h8 l;refine⟨by rw[a.n,g,d]; exact m,fun q i => ?_⟩;rw[a.n]at i;rw[a.n,g,d];by_cases e:q=o
 ·rw[e,h5];have:=((h.f o j).more r l).apply m (show M.an<M.an+1 by omega);rw[uG]at this;exact this
 rw[a.oth q e]; exact(h.f q i).more r l
end Rt
end
section
namespace Rt
structure Dx(L L':eY):Prop where
 inn:L'.inn=L.inn
 left:L'.left=L.left
 kn : ∀ i,i<6->L'.known i=L.known i
 nn:L'.nn=L.nn
 gn:L'.gn=L.gn
 n : ∀ k,k<L.nn->L'.id k=L.id k/\L'.par k=L.par k/\L'.R k=L.R k
 g : ∀ k,k<L.gn -> ∀ p,p<5->L'.g k p=L.g k p
section
variable {ev:Nat->EvM} {an k:Nat} {L L':eY} {m m':dO} {N N':Nat}
theorem fP.Zq(h:fP m L){q:Nat}(i:q<L.gn):iM m (L.g q 0) (L.g q 1)=true /\ ∀ p,2<=p->p<=4->(eH m).g (L.g q 0) (L.g q 1) p=L.g q p:=by
 obtain⟨j,d,e⟩:=h.g1 q i;have c:iM m (L.g q 0) (L.g q 1)=true:=sK d (by rw[<- e]) (by rw[<- e]);have f:fA m (L.g q 0) (L.g q 1)=j:=yY h.gi d (by rw[<- e]) (by rw[<- e]);refine⟨c,fun p a b => ?_⟩;rw[show(eH m).g (L.g q 0) (L.g q 1) p=m.g (fA m (L.g q 0) (L.g q 1)) p from d_ ⟨c,a,b⟩,f,e]
theorem IC{f:Nat->Int}{n i:Nat}(hi:i<n):((List.range n).map f).getD i 0=f i:=by
 rw[r_,o_ (by rw[List.length_map,List.length_range]; exact hi)]; simp
theorem IE{f g:Nat->Int}{n n':Nat}(m : ∀ i j,i<j->j<n->f i<f j)(o : ∀ i j,i<j->j<n'->g i<g j)(h1 : ∀ i,i<n -> ∃ j,j<n'/\g j=f i)(l : ∀ j,j<n' -> ∃ i,i<n/\f i=g j):n'=n /\ ∀ i,i<n->g i=f i:=by
 have e:(List.range n).map f=(List.range n').map g:=uR (by
  rw[List.pairwise_map];exact(List.pairwise_lt_range (n:=n)).imp_of_mem fun {a b} _ hb hab=>m a b hab (O_.1 hb)) (by
  rw[List.pairwise_map];exact(List.pairwise_lt_range (n:=n')).imp_of_mem fun {a b} _ hb hab=>o a b hab (O_.1 hb)) fun x=>by
  rw[List.mem_map,List.mem_map];constructor
  ·rintro ⟨i,c,rfl⟩;obtain⟨j,d,k⟩:=h1 i (O_.1 c);exact⟨j,O_.2 d,k⟩
  ·rintro ⟨j,d,rfl⟩;obtain⟨i,c,h⟩:=l j (O_.1 d);exact⟨i,O_.2 c,h⟩
 have p:n'=n:=by have:=L_ List.length e; rw[List.length_map,List.length_map,List.length_range,List.length_range]at this; exact this.symm
 refine⟨p,fun i c => ?_⟩;have:=L_ (fun z:List Int=>z.getD i 0) e;have:((List.range n).map f).getD i 0=((List.range n').map g).getD i 0:=this;rw[IC c,IC (by omega)]at this;exact this.symm
theorem Et.same(h:Et m L N)(d:Et m' L' N')(C:xJ L)(D:xJ L')(e:eH m'=eH m)(I : ∀ i,i<6->L'.known i=L.known i):Dx L L':=by
 have B : ∀ y,m'.T.has y=m.T.has y:=fun y=>congrFun (L_ Ab.has e) y;have J : ∀ y,m'.T.par y=m.T.par y:=fun y=>congrFun (L_ Ab.par e) y;have H : ∀ y,aZ m' y=aZ m y:=fun y=>congrFun (L_ Ab.R e) y;have u : ∀ o r,iM m' o r=iM m o r:=fun o r=>congrFun (congrFun (L_ Ab.gh e) o) r;have w : ∀ {m:dO} {L:eY} {N:Nat},Et m L N -> ∀ i,i<L.nn->m.T.has (L.id i)=true/\aZ m (L.id i)=L.R i:=fun {m L N} h i k=>by
  have a:m.T.has (L.id i)=true:=(h.s.T.has _).2 ⟨i,k,rfl⟩;refine⟨a,?_⟩;unfold aZ;rw[d_ a,h.s.row i k]
 obtain⟨Q,z⟩:=IE (f:=L.id) (g:=L'.id) (n:=L.nn) (n':=L'.nn) h.i.rise d.i.rise (fun i k=>(d.s.T.has _).1 (by rw[B]; exact(w h i k).1)) (fun i k=>(h.s.T.has _).1 (by rw[<- B]; exact(w d i k).1));have F : ∀ {m m':dO} {L L':eY} {N N':Nat},Et m L N->Et m' L' N'->(∀ o r,iM m' o r=iM m o r) -> ∀ q,q<L.gn -> ∃ j,j<L'.gn/\om (L'.g j)=om (L.g q):=fun {m m' L L' N N'} h d u q t=>by
  have a:=(h.s.Zq t).1;rw[<- u]at a;obtain⟨j,O,l,x⟩:=lM.1 a;obtain⟨S,v,G⟩:=d.s.g2 j O;have l:m'.g j 0=L.g q 0:=l;have x:m'.g j 1=L.g q 1:=x;exact⟨S,v,by unfold om; rw[G,l,x]⟩
 obtain⟨K,M⟩:=IE (f:=fun q=>om (L.g q)) (g:=fun q=>om (L'.g q)) (n:=L.gn) (n':=L'.gn) C.up D.up (F h d u) (F d h fun o r=>(u o r).symm);refine⟨by rw[<- h.s.inn,<- d.s.inn]; exact L_ Ab.inn e,by rw[<- h.s.left,<- d.s.left]; exact L_ Ab.left e,I,Q,K,fun i k => ?_,fun q t p W => ?_⟩
 ·have E:i<L'.nn:=by omega
  refine⟨z i k,?_,?_⟩
  ·rw[<- h.s.T.par i k,<- d.s.T.par i E,J,z i k]
  rw[<- (w h i k).2,<- (w d i E).2,H,z i k]
 have v:q<L'.gn:=by omega
 have P:om (L'.g q)=om (L.g q):=M q t;have U:=(C.wf q t).1;have V:=(D.wf q v).1;unfold om at P;unfold iA at U V;have A:L'.g q 0=L.g q 0:=by omega
 have l:L'.g q 1=L.g q 1:=by omega
 by_cases c:2<=p
 ·have a:=(h.s.Zq t).2 p c (by omega);have b:=(d.s.Zq v).2 p c (by omega);rw[<- a,<- b,A,l,L_ Ab.g e]
 rcases(show p=0\/p=1 by omega)with rfl|rfl
 ·exact A
 exact l
theorem JL{K K':Nat->Int}{A:Ab}(h : ∀ i,i<6->K' i=K i)(a : ∀ i,i<an->aL (ev i)<6) : ∀ n,n<=an->fQ ev K' A n=fQ ev K A n
 | 0,_=>rfl
 | n+1,hn=>by
   have c:vS K' (ev n)=vS K (ev n):=(by unfold vS; rw[h _ (a n (by omega))]);show(if vS K' (ev n)=true then(fQ ev K' A n).qI (ev n)else fQ ev K' A n)=_;rw[JL h a n (by omega),c]; rfl
theorem rF.same(h:rF k ev an L)(f:rF k ev an L')(W:Ws k ev an)(j:xJ L)(l:xJ L')(a : ∀ i,i<6->L'.known i=L.known i):Dx L L':=by
 obtain⟨m,N,b,o,c⟩:=h.ex;obtain⟨m',N',d,p,e⟩:=f.ex;refine b.same d j l ?_ a;rw[c,e];exact JL a (fun i n=>(W.g i n).reg.2) an (A_ _)
theorem rF.next(h:rF k ev an L)(W:Ws k ev an){i:Nat}(hi:i<an)(b:L.known=fI ev i):bA L (ev i)=0/\(bV L (ev i)).known=fI ev (i+1):=by
 have a:=h.ready W hi (by rw[b]; exact W.rd i hi);refine⟨a,?_⟩;rw[za a,b]
 funext q
 unfold aI;show _=fI ev i q+if aL (ev i)=q then 1 else 0;by_cases e:q=aL (ev i)
 ·rw[d_ e,d_ e.symm,e]
 rw[b_ e,b_ (fun q=>e q.symm),D_]
theorem Zr(W:Ws k ev an) : ∀ i,i<an->1<=(ev i).seq:=fun i a=>(W.g i a).seq.1
theorem rF.some(h:rF k ev an L)(W:Ws k ev an){i:Nat}(hi:i<an):bA L (ev i)=0\/bA L (ev i)=14\/bA L (ev i)=13:=by
 by_cases c:dz L.known (ev i)=true
 ·exact .inl (h.ready W hi c)
 right;have b:=(Dj (W.rd i hi)).1;unfold bA;rw[b_ (by rw[b]; decide)];by_cases a:jY L.known (ev i)=true
 ·rw[d_ a]; exact .inl rfl
 rw[b_ a,d_ (by simpa using c)]; exact .inr rfl
end
end Rt
end
section
namespace Rt
def vK(K c:Nat->Int):Nat->Int:=fun q=>if K q<=c q then K q else c q
section
variable {ev:Nat->EvM} {an k i r:Nat} {K K':Nat->Int} {L:eY} {v:EvM}
theorem BA(ev:Nat->EvM)(i q:Nat):fI ev (i+1) q=fI ev i q+if aL (ev i)=q then 1 else 0:=rfl
theorem rF.nextK(h:rF k ev an L)(W:Ws k ev an)(hi:i<an)(m:JX ev an K)(f : ∀ q,q<6->L.known q=vK K (fI ev i) q)(n:(ev i).seq<=K (aL (ev i))) :
 bA L (ev i)=0 /\ ∀ q,q<6->(bV L (ev i)).known q=vK K (fI ev (i+1)) q:=by
 obtain⟨a,b,c⟩:=Dj (W.rd i hi);have l:=jU a;have g:L.known (aL (ev i))=fI ev i (aL (ev i)):=by rw[f _ l]; unfold vK; rw[b_ (by omega)]
 have o:dz L.known (ev i)=true:=Js a (by rw[g]; exact b) fun q d=>by
  rw[f q d]; unfold vK;split
  ·exact m.cl i hi n q d
  ·exact c q d
 have j:=h.ready W hi o;refine⟨j,fun q d => ?_⟩;rw[za j];unfold aI;by_cases e:q=aL (ev i)
 ·rw[d_ e,g,e];unfold vK;rw[BA,d_ rfl,Rj (by omega)]
 rw[b_ e,f q d];unfold vK;rw[BA,b_ (show ¬ aL (ev i)=q from fun z=>e z.symm),D_]
where Rj {a b:Int} (h:b<=a):(if a<=b then a else b)=b:=by split <;> omega
theorem aiE(W:Ws k ev an)(hi:i<an)(c : ∀ q,q<6->L.known q=vK K (fI ev i) q)(a : ¬ (ev i).seq<=K (aL (ev i))) : ∀ q,q<6->L.known q=vK K (fI ev (i+1)) q:=fun q d=>by
 have b:=(Dj (W.rd i hi)).2.1;rw[c q d];unfold vK;rw[BA];by_cases e:aL (ev i)=q
 ·rw[d_ e]; rw[e]at b a;rw[d_ (by omega),d_ (by omega)]
 ·rw[b_ e,D_]
theorem aiF(c:JX ev an K)(a : ∀ q,q<6->0<=K q) : ∀ q,q<6->(0:Int)=vK K (fI ev 0) q:=fun q b=>by
 unfold vK; show(0:Int)=if K q<=0 then K q else 0;have:=a q b;split <;> omega
theorem aiG(a:JX ev an K) : ∀ q,q<6->vK K (fI ev an) q=K q:=fun q b=>by unfold vK; rw[d_ (a.le q b)]
theorem aeH(W:Ws k ev an)(hi:i<an)(e : ∀ q,q<6->L.known q=K q)(d:(ev i).seq<=K (aL (ev i))):bA L (ev i)=14/\bV L (ev i)=L:=by
 have a:=(Dj (W.rd i hi)).1;have c:jY L.known (ev i)=true:=by
  have f:(ev i).seq<=L.known (aL (ev i)):=by rw[e _ (jU a)]; exact d
  unfold jY; rw[a,f_ (show(ev i).seq<=L.known ((ev i).o-1).toNat from f)]; rfl
 have b:bA L (ev i)=14:=by unfold bA; rw[b_ (by rw[a]; decide),d_ c]
 exact⟨b,by unfold bV; rw[b_ (by rw[b]; decide)]⟩
theorem WO(L:eY)(v:EvM)(q:Nat):L.known q<=(bV L v).known q:=by
 rcases lW L v with ⟨_,e⟩|⟨_,e⟩
 ·rw[e]; unfold aI; split
  ·subst_vars; omega
  exact N_ _
 rw[e]; exact N_ _
theorem rF.reach(h:rF k ev an L)(W:Ws k ev an)(hr:r<an)(d : ∀ q,q<6->fI ev r q<=L.known q) : ∀ q,q<6->fI ev (r+1) q<=(bV L (ev r)).known q:=fun q l=>by
 obtain⟨a,b,c⟩:=Dj (W.rd r hr);have i:=jU a;have o:=d q l;have s:=WO L (ev r) q;rw[BA];by_cases e:aL (ev r)=q
 ·rw[d_ e];by_cases n:(ev r).seq<=L.known q
  ·rw[e]at b; omega
  ·have j:=d _ i;have m:(ev r).seq=L.known (aL (ev r))+1:=(by rw[e]at b j ⊢; omega);have g:=h.ready W hr (Js a m fun p f=>R_ (c p f) (d p f));rw[za g,e];unfold aI; rw[d_ rfl,e]at *; omega
 ·rw[b_ e]; omega
theorem rF.full(h:rF k ev an L)(b : ∀ q,q<6->fI ev an q<=L.known q) : ∀ q,q<6->L.known q=fI ev an q:=fun q a=>by
 have:=h.kc.le q a; have:=b q a; omega
end
end Rt
end
section
namespace Rt
section
variable {x:EvM} {k an i:Nat} {ev:Nat->EvM} {L:eY} {s:Int} {d:Nat->Int}
theorem Zt{K:Nat->Int}(a:bQ x=true)(h:x.seq<=K (aL x)):jY K x=true:=by
 unfold jY; rw[a,f_ (show x.seq<=K (x.o-1).toNat from h)]; rfl
theorem Rl(h:bA L x≠0):bV L x=L:=by unfold bV; rw[b_ h]
end
end Rt
end
namespace Rt
theorem Dx.st{L L':eY}(h:Dx L L')(d:Option Addr)(e:Nat)(a:Option Addr)(b:Nat) : ∀ p,p<20->nQ (NS L' d e a b) p=nQ (NS L d e a b) p:=fun p f=>by
 unfold nQ NS;simp only[h.inn,h.left,h.nn,h.gn];by_cases c:12<=p/\p<18
 ·rw[h.kn (p-12) (by omega)]
 ·repeat' split
  all_goals first|rfl|omega
end Rt
theorem JZ.same{w:World}{s:DR}{L L':eY}(h:JZ w s L')(d:Dx L L'):JZ w (NS L s.na s.nc s.ga s.gc) L:=by
 refine⟨rfl,?_,?_⟩
 ·have e:=h.n;rw[d.nn]at e;exact e.congr fun j k=>by
   unfold flat VX;obtain⟨a,b,c⟩:=d.n (j / 56) (by omega);rw[a,b,c]
 have e:=h.g;rw[d.gn]at e;exact e.congr fun j k=>by
  unfold flat VY jm;have g:=d.g (j / 5) (by omega) (j % 5) (J_ _ (by decide));have f:=d.g (j / 5) (by omega) 0 (by decide);have i:=d.g (j / 5) (by omega) 3 (by decide);rw[g,f,i]
theorem Zu{w:World}{d a:DR}{L L':eY}(h1:JZ w d L)(b:JZ w a L')(c:Dx L L')(g:LWf L):Calls Tryz.prog 17 #[.agg (aA 20 (nQ d)),.agg (aA 20 (nQ a))] w fun e w'=>e = .returned (.bool true)/\Below w.heap.size w w' :=
 yZ (Y8 h1 (b.same c) g) (by rw[Fx.dW (show ∀ p,p<20->nQ a p=nQ (NS L a.na a.nc a.ga a.gc) p from fun p f=>by rw[b.e]; exact c.st _ _ _ _ p f)])
namespace Rt
structure xL where
 kind:Int
 node:Int
 dst:Int
 aQ:Int
 req:Int
 of:Int
def WQ(x:xL):Nat->Value:=fun p=>if p=0 then .int .u8 x.kind else if p=1 then .int .u64 x.node else if p=2 then .int .i64 x.dst else if p=3 then .int .i64 x.aQ else if p=4 then .int .u64 x.req else .int .u64 x.of
structure Gc(x:xL):Prop where
 kind:0<=x.kind/\x.kind<=255
 node:iA x.node
 dst:pV x.dst
 aQ:pV x.aQ
 req:iA x.req
 of:iA x.of
end Rt
namespace Rt
def jk(K:Nat->Int)(i:Int)(x:xL):EvM:=⟨i,K (i-1).toNat+1,K,x.kind,x.node,x.dst,x.aQ,x.req,x.of⟩
end Rt
theorem Zv(K:Nat->Int)(i:Int)(hr:jH i=false)(w:World) :
 Calls Tryz.prog 41 #[.agg (aA 6 (rv .u64 K)),au i] w fun e w'=>e = .returned (.tuple #[aC 0,au 10])/\Below w.heap.size w w':=by
 refine Kent Tryz.func41 21 ?_;refine ay<|pR fun f j b c d k => ?_;have a:=bE d.old (Below.refl w.heap.size w);have g:=gT b;have h:=c.lt;refine av (aC 0)<|av (au 0)<|aD<|Ws<|Wb<|ay<|av (au i)<|lU (Jy i _) aF (by rw[hr])<|av aG<|av aG<|aD<|aO<|ay<|av (aC 0)<|av (au 10)<|aD<|Wr<|bL<|sR<|aJ (.tuple #[aC 0,au 10]) ?_;exact⟨rfl,a⟩
theorem Zw(K:Nat->Int)(i:Int)(a:Nat)(ha:a<6)(h:i=(a:Int)+1)(g:BX K)(w:World) :
 Calls Tryz.prog 41 #[.agg (aA 6 (rv .u64 K)),au i] w fun e w'=>e = .returned (.tuple #[aC (K a+1),au 0])/\Below w.heap.size w w':=by
 have j:jH i=true:=by rw[h]; unfold jH; simp; omega
 have l:=g a ha;refine Kent Tryz.func41 21 ?_;refine ay<|pR fun c o f b k p => ?_;have d:=bE k.old (Below.refl w.heap.size w);have m:=gT f;have n:=b.lt;refine av (aC 0)<|av (au 0)<|aD<|Ws<|Wb<|ay<|av (au i)<|lU (Jy i _) aG (by rw[j])<|av aF<|av aF<|aD<|aK<|ay<|av (au i)<|Lv (au a) gD<|Lv (pf c a) (jM 6 1)<|Lv (aC (K a)) (aM b.aH a)<|Lv aF GU<|av aF<|aD<|aK<|Wk<|bR<|sN<|ay<|av (au i)<|Lv (au a) gD<|Lv (pf c a) (jM 6 1)<|Lv (aC (K a)) (aM b.aH a)<|Lv (aC ((K a)+1)) fC<|av (aC ((K a)+1))<|av (au 0)<|aD<|Wr<|aJ (.tuple #[aC ((K a)+1),au 0]) ?_;exact⟨rfl,d⟩
theorem aiH(v:EvM)(i c:Int)(K:Nat->Int)(a:Nat)(w:World)(b:aR w a 14 (bM v) 37)(d:Nat)(g:Nat)(f:Nat)(hi:aR w d 1 (fun _=>au i) 3)(k:aR w g 1 (fun _=>aC c) 23)(h:aR w f 6 (rv .u64 (K)) 35) :
 Calls Tryz.prog 43 #[(pt a),(pt d),(pt g),(pt f)] w fun e w'=>e = .returned (.tuple #[])/\aR w' a 14 (bM ⟨i,c,K,v.kind,v.node,v.dst,v.aQ,v.req,v.of⟩) 37/\Stp a w w':=by
 have L:=b.lt;have M:=hi.lt;have O:=k.lt;have N:=h.lt;have P:d≠a:=fun e=>M_ (Fx.Ty.only (e ▸ hi.ty) b.ty) (by decide);have Q:g≠a:=fun e=>M_ (Fx.Ty.only (e ▸ k.ty) b.ty) (by decide);have R:f≠a:=fun e=>M_ (Fx.Ty.only (e ▸ h.ty) b.ty) (by decide);refine Kent Tryz.func43 17 ?_;refine zC [0,1,2,3,6,7,4,5,8,9,10,11,12,13,14] [0,0,0,4,1,1,0,0,2,0,0,2,0,0,2] (Fx.xD [37]) Fx.xD.refl Fx.xD.trans (fG := [(8,3,[3]),(11,3,[3]),(14,3,[3]),(9,8,[8]),(10,8,[8]),(11,8,[8]),(12,8,[8]),(13,8,[8]),(14,8,[8]),(12,11,[11]),(13,11,[11]),(14,11,[11])]) (by kernel_rfl) (by kernel_rfl) (by kernel_rfl) (by kernel_rfl) (by kernel_rfl) fun H m J => ?_;have F:Stp w.heap.size w H:=Sb m;have⟨n,C,D,E⟩:=kV m b hi k h;have t:=(mW a w).then F (.inr (mW a w).size);refine aY (pt a)<|aY (pt a)<|aY (pt a)<|Rs (au i) (aM C.aH 0) ?_;refine aY (pt a)<|aY (pt a)<|Rd (v:=aC c) (by rfl) (by rfl) (Fx.xD.refl _) (fun G l=>bC (x:=fun _=>aC c) rfl rfl (by kernel_rfl) (D.D8 l (by decide)).aH (i:=0) (by omega) (by omega) rfl) ?_;refine Rd (v := .agg (aA 6 (rv .u64 (K)))) (by rfl) (by rfl) (Fx.xD.refl _) (fun G l=>eG (x:=rv .u64 (K)) (y:=rv .u64 (K)) rfl rfl (by kernel_rfl) (by kernel_rfl) (E.D8 l (by decide)).aH (i:=0) (by omega) (by omega) (fun j _=>by rw[G_])) ?_;refine xM<|jg n 0 (au i) fun S o q V => ?_;have u:=t.then q (by omega);refine Ln ⟨Fx.xD.zT ((gP q n.ty).wide (by decide)),?_⟩;refine aY (pt a)<|aY (pf a 1)<|xM<|jg o 1 (aC c) fun T p r W => ?_;have z:=u.then r (by omega);refine Ln ⟨Fx.xD.zT ((gP r o.ty).wide (by decide)),?_⟩;refine aY (pt a)<|aY (pf a 2)<|xM<|eP p 2 fun U B s X => ?_;have A:=z.then s (by omega);refine Ln ⟨Fx.xD.zT ((gP s p.ty).wide (by decide)),?_⟩;refine Rn (⟨.tuple #[],iO Tryz.results43,?_⟩);exact⟨rfl,B.congr (fun j I=>by rcases j with _|_|_|_|_|_|_|_|_|_|_|_|_|_|j <;> first|rfl|omega),A⟩
theorem aeI(x:xL)(i d:Int)(K:Nat->Int)(w:World)(g:Nat)(k:Nat)(h:Nat)(hi:aR w g 1 (fun _=>au i) 3)(m:aR w k 1 (fun _=>aC d) 23)(l:aR w h 6 (rv .u64 (K)) 35) :
 Calls Tryz.prog 42 #[.agg (aA 6 (WQ x)),.func (.func 43) #[] #[(pt g),(pt k),(pt h)]] w fun e w'=>e = .returned (.agg (aA 14 (bM ⟨i,d,K,x.kind,x.node,x.dst,x.aQ,x.req,x.of⟩)))/\Below w.heap.size w w':=by
 have lgi:=hi.lt;have lgs:=m.lt;have lgk:=l.lt;refine Kent Tryz.func42 22 ?_;refine ay<|pR fun c w1 y n s1 z1 => ?_;have⟨C,E,F,r⟩:=kV s1.old hi m l (Below.refl w.heap.size w);have sM:=gT y;have⟨nG,Ue,yD⟩:=EK y hi.lt m.lt l.lt;have ug:=n.lt;refine rR 14 (fun a=>if a<1 then au 0 else if a<8 then aC 0 else if a<9 then .int .u8 (0)else if a<10 then aC 0 else if a<12 then au 0 else aC 0) fun O w2 z p s2 z2 => ?_;have⟨G,H,I,b,s⟩:=qU s2.old C E F n r;have ru:=iQ z r.size;have⟨aak,OO,aao,Lg⟩:=PY z C.lt E.lt F.lt n.lt;have zK:=p.lt;refine aD<|ay<|av (pt c)<|Lv (.int .u8 (x.kind)) (aM b.aH 0)<|av (pf c 1)<|Lv (aC x.node) (aM b.aH 1)<|av (pf c 2)<|Lv (au x.dst) (aM b.aH 2)<|av (pf c 3)<|Lv (au x.aQ) (aM b.aH 3)<|av (pf c 4)<|Lv (aC x.req) (aM b.aH 4)<|av (pf c 5)<|Lv (aC x.of) (aM b.aH 5)<|av (.agg (aA 14 (bK (bK (bK (bK (bK (bK (fun a=>if a<1 then au 0 else if a<8 then aC 0 else if a<9 then .int .u8 (0)else if a<10 then aC 0 else if a<12 then au 0 else aC 0) 8 1 (fun _ => .int .u8 (x.kind))) 9 1 (fun _=>aC x.node)) 10 1 (fun _=>au x.dst)) 11 1 (fun _=>au x.aQ)) 12 1 (fun _=>aC x.req)) 13 1 (fun _=>aC x.of))))<|rR 14 (fun a=>if a<1 then au 0 else if a<8 then aC 0 else if a<9 then .int .u8 (0)else if a<10 then aC 0 else if a<12 then au 0 else aC 0) fun f w3 A o s3 z3 => ?_;have⟨R,S,T,U,t⟩:=qU s3.old G H I p s;have C9:=iQ A s.size;have⟨VK,VL,adX,VN,adY⟩:=zS A G.lt H.lt I.lt b.lt p.lt;have JR:=o.lt;refine eP o 0 (h1:=(bP (bP (bP (bP (bP (bP (fun Q _=>by show((fun a=>if a<1 then au 0 else if a<8 then aC 0 else if a<9 then .int .u8 (0)else if a<10 then aC 0 else if a<12 then au 0 else aC 0:Nat->Value) Q).oneCell'=true; simp only[]; repeat (first|rfl|split)) (fun _ _=>rfl)) (fun _ _=>rfl)) (fun _ _=>rfl)) (fun _ _=>rfl)) (fun _ _=>rfl)) (fun _ _=>rfl))) fun M V q z4 => ?_
 have W:aR M f 14 (bK (bK (bK (bK (bK (bK (fun a=>if a<1 then au 0 else if a<8 then aC 0 else if a<9 then .int .u8 (0)else if a<10 then aC 0 else if a<12 then au 0 else aC 0) 8 1 (fun _ => .int .u8 (x.kind))) 9 1 (fun _=>aC x.node)) 10 1 (fun _=>au x.dst)) 11 1 (fun _=>au x.aQ)) 12 1 (fun _=>aC x.req)) 13 1 (fun _=>aC x.of)) 37:=aS V;have X:aR M f 14 (bM ⟨0,0,fun _=>0,x.kind,x.node,x.dst,x.aQ,x.req,x.of⟩) 37:=W.congr (fun j hj=>by rcases j with _|_|_|_|_|_|_|_|_|_|_|_|_|_|j <;> first|rfl|omega)
 have P:=gP q o.ty;have⟨Y,Z,aa⟩:=DF P R S T;have ab:=U.cO q (by omega);have u:=q.below t t.size (by omega);refine aD<|ay<|av (.func (.func 43) #[] #[(pt g),(pt k),(pt h)])<|Au (by rfl) (Fx.ED (args := [(pt f)]) rfl rfl rfl (all := #[(pt f),(pt g),(pt k),(pt h)]) rfl Tryz.func43 rfl rfl) rfl<|(aiH ⟨0,0,fun _=>0,x.kind,x.node,x.dst,x.aQ,x.req,x.of⟩ i d K f _ X g k h Y Z aa).mono ?_;rintro e9 w5 ⟨B,D,J⟩;refine⟨_,B,?_⟩;clear B;have ac:=ab.cO J (by omega);have v:=J.below u u.size (by omega);refine aD<|ay<|Lv (.agg (aA 14 (bM ⟨i,d,K,x.kind,x.node,x.dst,x.aQ,x.req,x.of⟩))) (fD D.aH 0)<|eP ac 0 (h1:=(fV _)) fun w6 ad L z5 => ?_;have ae:aR w6 O 14 (bM ⟨i,d,K,x.kind,x.node,x.dst,x.aQ,x.req,x.of⟩) 37:=aS ad;have oN:=D.cO L (by omega);have N:=L.below v v.size (by omega);refine aD (Wr (⟨.agg (aA 14 (bM ⟨i,d,K,x.kind,x.node,x.dst,x.aQ,x.req,x.of⟩)),rV Tryz.results42 ⟨_,rfl,aW ae.aH (by kernel_rfl) (by kernel_rfl)⟩,?_⟩));exact⟨rfl,N⟩
namespace Rt
theorem N7{z y:Nat->Value}{a b:Int}(d : ∀ j,j<14->z j=y j)(c:a=b):Ending.returned (.tuple #[.agg (aA 14 z),au a])=Ending.returned (.tuple #[.agg (aA 14 y),au b]):=by rw[Fx.dW d,c]
noncomputable def jl(L:eY)(i:Int)(x:xL):Int:=if jH i=false then 10 else bA L (jk L.known i x)
open Classical in
noncomputable def iL(L:eY)(i:Int)(x:xL):EvM:=if jl L i x=0 then jk L.known i x else zeroE
theorem BD{L:eY}{i:Int}{x:xL}(h:jH i=false):jl L i x=10/\iL L i x=zeroE:=by
 have:jl L i x=10:=by unfold jl; rw[d_ h]
 refine⟨this,?_⟩;unfold iL;rw[b_ (by rw[this]; decide)]
theorem nN{L:eY}{i:Int}{x:xL}(h:jH i=true):jl L i x=bA L (jk L.known i x):=by unfold jl; rw[b_ (by rw[h]; decide)]
theorem N8{K:Nat->Int}{i:Int}{x:xL}(b:BX K)(hx:Gc x)(hi:jH i=true):gu (jk K i x):=by
 obtain⟨a,c,f⟩:=eU hi;have g:=b a c;have e:(i-1).toNat=a:=by omega
 refine⟨⟨?_,?_⟩,⟨?_,?_⟩,fun j d => ?_,hx.kind,hx.node,hx.dst,hx.aQ,hx.req,hx.of⟩
 ·show -9223372036854775808<=i; omega
 ·show i<=9223372036854775807; omega
 ·show 0<=K (i-1).toNat+1; rw[e]; omega
 ·show K (i-1).toNat+1<=18446744073709551615; rw[e]; omega
 have:=b j d; exact⟨by show 0<=K j; omega,by show K j<=_; omega⟩
end Rt
theorem Zx(lp B N:Nat)(m:dO)(L:eY)(w:World)(h:xK w B lp m L N)(hB:1<=B)(S:iN w 0 0 8 Bu)(i:Int)(x:xL)(hr:jH i=false) :
 Calls Tryz.prog 13 #[(pt lp),au i,.agg (aA 6 (WQ x))] w fun e w'=>e = .returned (.tuple #[.agg (aA 14 (bM (iL L i x))),au (jl L i x)])/\Below w.heap.size w w':=by
 have l0:=S.lt (by omega);have lq:=h.q.lt;refine Kent Tryz.func13 39 ?_;refine ay<|xV (au i) fun g1 w1 O b s1 z1 => ?_;have⟨m2,g⟩:=fq s1.old h (Below.refl w.heap.size w);have sM:=gT O;have ug:=b.lt;refine pR fun g2 w2 s d s2 z2 => ?_;have⟨m4,F,k⟩:=iy s2.old m2 b g;have ru:=iQ s g.size;have OM:=cK s b.lt;have zK:=d.lt;refine rR 14 (fun a=>if a<1 then au 0 else if a<8 then aC 0 else if a<9 then .int .u8 (0)else if a<10 then aC 0 else if a<12 then au 0 else aC 0) fun P w3 t G s3 z3 => ?_;have⟨m7,m8,m9,K⟩:=kV s3.old m4 F d k;have C9:=iQ t k.size;have⟨U8,U9⟩:=wh t F.lt d.lt;have JR:=G.lt;refine av (au 0)<|aD<|Ws<|ay<|av (pt lp)<|Lv aF (Fx.mP rfl rfl rfl (by kernel_rfl))<|aD<|aK<|Wk<|sN<|ay<|av (pt lp)<|dJ (JD m7) _ rfl ?_;intro w4 T;have⟨y,z,A,l⟩:=kV T m8 m9 G K;refine rR 6 (rv .u64 (fun _=>0)) fun Q w5 u c s5 z4 => ?_;have⟨Y,Z,aa,n⟩:=kV s5.old y z A l;have Rw:=iQ u l.size;have⟨VP,aeJ,aeK⟩:=EK u y.lt z.lt A.lt;have QF:=c.lt;refine eP c 0 fun w6 ab H z5 => ?_;have C:aR w6 Q 6 (rv .u64 ((L).known)) 35:=aS ab;have V:=gP H c.ty;have⟨D,m23,m24⟩:=DF V Y Z aa;have M:=H.below n n.size (by omega);refine aD<|ay<|Lv (.agg (aA 6 (rv .u64 ((L).known)))) (fD C.aH 0)<|Lv (au i) (aM D.aH 0)<|dJ (Zv L.known i hr _) _ rfl ?_;intro w7 U;have⟨nH,oq,E,oM,o⟩:=qU U D m23 m24 C M;refine av (.tuple #[aC 0,au 10])<|av (aC 0)<|av (au 10)<|rR 1 (rv .u64 (fun _=>0)) fun R w8 v f s8 z6 => ?_;have⟨nV,p⟩:=fq s8.old E o;have lg5:=iQ v o.size;have⟨aeL,aeM,aeN,aeO⟩:=PY v nH.lt oq.lt E.lt oM.lt;have tg5:=f.lt;refine jg f 0 (aC 0) fun w9 oN I z7 => ?_;have sP:aR w9 R 1 (fun _=>aC 0) 23:=dG oN;have W:=gP I f.ty;have nI:=kQ W nV;have r:=I.below p p.size (by omega);refine av (au 10)<|aD<|Ws<|ay<|av (au 10)<|Lv aG (eO rfl)<|aD<|aO<|ay<|av (.agg (aA 14 (fun a=>if a<1 then au 0 else if a<8 then aC 0 else if a<9 then .int .u8 (0)else if a<10 then aC 0 else if a<12 then au 0 else aC 0)))<|av (au 10)<|eP nI 0 (h1:=(fun X _=>by show((fun a=>if a<1 then au 0 else if a<8 then aC 0 else if a<9 then .int .u8 (0)else if a<10 then aC 0 else if a<12 then au 0 else aC 0:Nat->Value) X).oneCell'=true; simp only[]; repeat (first|rfl|split))) fun sO nK s10 z8 => ?_
 have rY:aR sO P 14 (fun a=>if a<1 then au 0 else if a<8 then aC 0 else if a<9 then .int .u8 (0)else if a<10 then aC 0 else if a<12 then au 0 else aC 0) 37:=aS nK;have J:=s10.below r r.size (by omega);refine av (au 10) (aD (Wr (sR (⟨.tuple #[.agg (aA 14 (fun a=>if a<1 then au 0 else if a<8 then aC 0 else if a<9 then .int .u8 (0)else if a<10 then aC 0 else if a<12 then au 0 else aC 0)),au 10],gy Tryz.results13 ⟨_,rfl,aW rY.aH (by kernel_rfl) (by kernel_rfl)⟩ (by exact rfl),?_⟩))));exact⟨by rw[(BD hr).1,(BD hr).2]; exact N7 (fun j hj=>by rcases j with _|_|_|_|_|_|_|_|_|_|_|_|_|_|j <;> first|rfl|omega) rfl,J⟩
theorem Zy(lp B N:Nat)(m:dO)(L:eY)(w:World)(h:xK w B lp m L N)(hB:1<=B)(Q:iN w 0 0 8 Bu)(i:Int)(x:xL)(hx:Gc x)(a:Nat)(ha:a<6)(S:i=(a:Int)+1) :
 Calls Tryz.prog 13 #[(pt lp),au i,.agg (aA 6 (WQ x))] w fun e w'=>e = .returned (.tuple #[.agg (aA 14 (bM (iL L i x))),au (jl L i x)])/\Below w.heap.size w w':=by
 have l0:=Q.lt (by omega);have lq:=h.q.lt;have d:jH i=true:=by rw[S]; unfold jH; simp; omega
 have eia:(i-1).toNat=a:=by omega
 have hka:=h.i.kn a ha;refine Kent Tryz.func13 39 ?_;refine ay<|xV (au i) fun l w1 mo n s1 z1 => ?_;have⟨m2,y⟩:=fq s1.old h (Below.refl w.heap.size w);have sM:=gT mo;have ug:=n.lt;refine pR fun g2 w2 I p s2 z2 => ?_;have⟨m4,m5,D⟩:=iy s2.old m2 n y;have ru:=iQ I y.size;have OM:=cK I n.lt;have zK:=p.lt;refine rR 14 (fun b=>if b<1 then au 0 else if b<8 then aC 0 else if b<9 then .int .u8 (0)else if b<10 then aC 0 else if b<12 then au 0 else aC 0) fun P w3 J m6 s3 z3 => ?_;have⟨m7,m8,m9,b3⟩:=kV s3.old m4 m5 p D;have C9:=iQ J D.size;have⟨U8,U9⟩:=wh J m5.lt p.lt;have JR:=m6.lt;refine av (au 0)<|aD<|Ws<|ay<|av (pt lp)<|Lv aF (Fx.mP rfl rfl rfl (by kernel_rfl))<|aD<|aK<|Wk<|sN<|ay<|av (pt lp)<|dJ (JD m7) _ rfl ?_;intro w4 hb1;have⟨m10,T,U,V,E⟩:=qU hb1 m7 m8 m9 m6 b3;refine rR 6 (rv .u64 (fun _=>0)) fun g w5 K o s5 z4 => ?_;have⟨m15,m16,m17,m18,F⟩:=qU s5.old m10 T U V E;have Rw:=iQ K E.size;have⟨VP,aeJ,aeK⟩:=EK K T.lt U.lt V.lt;have QF:=o.lt;refine eP o 0 fun w6 m19 s6 z5 => ?_;have W:aR w6 g 6 (rv .u64 ((L).known)) 35:=aS m19;have gV:=gP s6 o.ty;have⟨m21,X,m23,m24⟩:=Kg gV m15 m16 m17 m18;have b6:=s6.below F F.size (by omega);refine aD<|ay<|Lv (.agg (aA 6 (rv .u64 ((L).known)))) (fD W.aH 0)<|Lv (au i) (aM X.aH 0)<|dJ (Zw L.known i a ha S h.i.kn _) _ rfl ?_;intro w7 hb2;have⟨mQ,Y,Z,aa,ab,G⟩:=rT hb2 m21 X m23 m24 W b6;refine av (.tuple #[aC (L.known a+1),au 0])<|av (aC (L.known a+1))<|av (au 0)<|rR 1 (rv .u64 (fun _=>0)) fun k w8 M r s8 z6 => ?_;have⟨mI,m32,qB,nV,qC,H⟩:=rT s8.old mQ Y Z aa ab G;have lg5:=iQ M G.size;have⟨aeL,aeM,aeN,aeO⟩:=PY M Y.lt Z.lt aa.lt ab.lt;have tg5:=r.lt;refine jg r 0 (aC (L.known a+1)) fun w9 oN s9 z7 => ?_;have ac:aR w9 k 1 (fun _=>aC (L.known a+1)) 23:=dG oN;have ku:=gP s9 r.ty;have⟨qX,ad,ae,nI,af⟩:=qV ku mI m32 qB nV qC;have b9:=s9.below H H.size (by omega);refine av (au 0)<|aD<|Ws<|ay<|av (au 0)<|Lv aF (iX rfl rfl rfl (by decide))<|aD<|aK<|Wk<|sN<|ay<|Lv (.agg (aA 6 (WQ x))) (fD ae.aH 0)<|Lv (.func (.func 43) #[] #[(pt l),(pt k),(pt g)]) (Fx.mX (us := []) (vs := [(pt l),(pt k),(pt g)]) rfl rfl rfl)<|mh (aeI x i (L.known a+1) L.known _ l k g ad ac af) ?_;rintro e9 sO ⟨R,hb3⟩;refine⟨.agg (aA 14 (bM (jk L.known i x))),by rw[R]; unfold jk; rw[eia],?_⟩;clear R;have⟨nK,rY,qK,ag,sQ,xE,z⟩:=jR hb3 qX ad ae nI af ac b9;refine rR 14 (fun b=>if b<1 then au 0 else if b<8 then aC 0 else if b<9 then .int .u8 (0)else if b<10 then aC 0 else if b<12 then au 0 else aC 0) fun g6 Gi O s s11 z8 => ?_;have⟨tL,uJ,A⟩:=iy s11.old nK ag z;have lg6:=iQ O z.size;have⟨aqN,aqO,aqP,aqQ,aqR⟩:=zS O rY.lt qK.lt ag.lt sQ.lt xE.lt;have tg6:=s.lt;refine eP s 0 (h1:=(fV _)) fun BR uK u z9 => ?_;have sU:aR BR g6 14 (bM (jk L.known i x)) 37:=aS uK;have rX:=gP u s.ty;have tN:=kQ rX tL;have vN:=uJ.cO u (by omega);have C:=u.below A A.size (by omega);refine aD<|Ws<|ay<|av (pt lp)<|Lv (.agg (aA 14 (bM (jk L.known i x)))) (fD sU.aH 0)<|dJ (PD (v:=(jk L.known i x)) tN (N8 h.i.kn hx d) hB (Q.below C l0) (fun _ _=>rfl)) _ rfl ?_;intro Gt hb4;have⟨vO,t,f⟩:=iy hb4 vN sU C;refine av (au (bA L (jk L.known i x)))<|aD<|ay<|av (au (bA L (jk L.known i x))) ?_;by_cases c:(bA L (jk L.known i x))=0
 ·refine Lv aF (jQ c)<|aD<|aK<|Wk<|sN<|ay<|Lv (.agg (aA 14 (bM (jk L.known i x)))) (fD t.aH 0)<|eP vO 0 (h1:=(fV _)) fun Mi uT BG z10 => ?_;have vQ:aR Mi P 14 (bM (jk L.known i x)) 37:=aS uT;have yP:=t.cO BG (by omega);have b14:=BG.below f f.size (by omega);refine av (au 0) (aD (Wr (⟨.tuple #[.agg (aA 14 (bM (jk L.known i x))),au 0],gy Tryz.results13 ⟨_,rfl,aW vQ.aH (by kernel_rfl) (by kernel_rfl)⟩ (by exact rfl),?_⟩)));exact⟨by rw[nN d,show iL L i x=jk L.known i x by unfold iL; rw[d_ (by rw[nN d]; exact c),]]; exact N7 (fun _ _=>rfl) c.symm,b14⟩
 refine Lv aG (nk c)<|aD<|aO<|ay<|av (.agg (aA 14 (fun b=>if b<1 then au 0 else if b<8 then aC 0 else if b<9 then .int .u8 (0)else if b<10 then aC 0 else if b<12 then au 0 else aC 0)))<|av (au (bA L (jk L.known i x)))<|eP vO 0 (h1:=(fun jq _=>by show((fun b=>if b<1 then au 0 else if b<8 then aC 0 else if b<9 then .int .u8 (0)else if b<10 then aC 0 else if b<12 then au 0 else aC 0:Nat->Value) jq).oneCell'=true; simp only[]; repeat (first|rfl|split))) fun Mj xA s15 z11 => ?_
 have wE:aR Mj P 14 (fun b=>if b<1 then au 0 else if b<8 then aC 0 else if b<9 then .int .u8 (0)else if b<10 then aC 0 else if b<12 then au 0 else aC 0) 37:=aS xA;have Ay:=t.cO s15 (by omega);have b15:=s15.below f f.size (by omega);refine av (au (bA L (jk L.known i x))) (aD (Wr (sR (⟨.tuple #[.agg (aA 14 (fun b=>if b<1 then au 0 else if b<8 then aC 0 else if b<9 then .int .u8 (0)else if b<10 then aC 0 else if b<12 then au 0 else aC 0)),au (bA L (jk L.known i x))],gy Tryz.results13 ⟨_,rfl,aW wE.aH (by kernel_rfl) (by kernel_rfl)⟩ (by exact rfl),?_⟩))));exact⟨by rw[nN d,show iL L i x=zeroE by unfold iL; rw[b_ (by rw[nN d]; exact c)]]; exact N7 (fun j hj=>by rcases j with _|_|_|_|_|_|_|_|_|_|_|_|_|_|j <;> first|rfl|omega) rfl,b15⟩
theorem Oa{lp B N:Nat}{m:dO}{L:eY}{w:World}(h:xK w B lp m L N)(b:1<=B)(c:iN w 0 0 8 Bu)(i:Int){x:xL}(hx:Gc x){y:Nat->Value}(hy : ∀ j,j<6->y j=WQ x j) :
 Calls Tryz.prog 13 #[(pt lp),au i,.agg (aA 6 y)] w fun e w'=>e = .returned (.tuple #[.agg (aA 14 (bM (iL L i x))),au (jl L i x)])/\Below w.heap.size w w':=by
 rw[Fx.dW hy]
 cases hr:jH i with
 | false=>exact Zx lp B N m L w h b c i x hr
 | true =>
   obtain⟨a,f,d⟩:=eU hr;exact Zy lp B N m L w h b c i x hx a f d
namespace Rt
def Gd(L:eY)(i x q:Int):Int:=gX (fun j=>decide (eF L (aT L.t L.tn j x) i<q)) (dF L.t L.tn x)
def oG(L:eY)(i x q:Int):Int:=if Gd L i x q<0 then 0 else aT L.t L.tn (Gd L i x q).toNat x
def vL(L:eY)(i x q:Int):Int:=if Gd L i x q<0 then 0 else q-eF L (aT L.t L.tn (Gd L i x q).toNat x) i
theorem WR(L:eY)(x i:Int):0<=eF L x i:=by
 unfold eF fJ;split
 ·exact N_ 0
 split
 ·rename_i c;rw[S_]at c;obtain⟨a,b,e,d⟩:=pI c.1;rw[d,uW (lV c.2) a b];exact(((jT _).1 c.2).2.1 a b).1
 exact N_ 0
theorem JM{L:eY}{i x q:Int}{k:Nat}(h : ∀ j,j<k -> ¬ eF L (aT L.t L.tn j x) i<q)(b:k=dF L.t L.tn x):oG L i x q=0/\vL L i x q=0:=by
 have:Gd L i x q = -1:=lu fun j a=>g_ (h j (by omega));unfold oG vL;rw[this];exact⟨rfl,rfl⟩
theorem Gf{L:eY}{i x q:Int}{k:Nat}(h : ∀ j,j<k -> ¬ eF L (aT L.t L.tn j x) i<q)(b:k<dF L.t L.tn x)(c:eF L (aT L.t L.tn k x) i<q):oG L i x q=aT L.t L.tn k x/\vL L i x q=q-eF L (aT L.t L.tn k x) i:=by
 have:Gd L i x q=(k:Int):=oP (fun j a=>g_ (h j a)) (f_ c) b;unfold oG vL;rw[this,b_ (by omega),b_ (by omega)];exact⟨rfl,rfl⟩
theorem Rm{L:eY}{i x q:Int}{k:Nat}(h : ∀ j,j<k -> ¬ eF L (aT L.t L.tn j x) i<q)(a : ¬ eF L (aT L.t L.tn k x) i<q) : ∀ j,j<k+1 -> ¬ eF L (aT L.t L.tn j x) i<q:=fun j b=>by
 by_cases e:j=k
 ·rw[e]; exact a
 ·exact h j (by omega)
end Rt
theorem WS(lp B N:Nat)(m:dO)(L:eY)(w:World)(h:xK w B lp m L N)(i a x:Int)(hi : -9223372036854775808<=i/\i<=9223372036854775807)(Z : -9223372036854775808<=x/\x<=9223372036854775807) :
 Calls Tryz.prog 15 #[(pt lp),au i,aC a,au x] w fun e w'=>e = .returned (.tuple #[aC (oG L i a x),au (vL L i a x)])/\Below w.heap.size w w':=by
 have lq:=h.q.lt;refine Kent Tryz.func15 33 ?_;refine ay<|av (aC 0)<|av (au 0)<|aD<|Ws<|ay<|av (pt lp)<|av (aC a)<|mh (aev h a) ?_;rintro V w1 ⟨r,c,F,G,M⟩;refine⟨_,F,?_⟩;clear F;have⟨P,K⟩:=fq M h (Below.refl w.heap.size w);obtain⟨b,z⟩ : ∃ q,q=(dF L.t L.tn a):=⟨_,rfl⟩;rw[<- z]at G ⊢;have aa:b<=4:=by rw[z]; exact h.i.aan _
 refine av (au b)<|av (au 0)<|aD<|Wb<|Wo (fun f s => ∃ k:Nat,k<=b/\(∀ j,j<k -> ¬ eF L (aT L.t L.tn j a) i<x)/\f 0=(pt lp)/\f 1=au i/\f 3=au x/\f 15 = .slice r (b) (c)/\f 16=au (b:Int)/\f 17=au (k:Int)/\xK s B lp m L N/\Fx.Own s w.heap.size 23 1 (.slice r (b) (c)) b (lsP L a)/\Below w.heap.size w s) (fun f _=>((b:Int)-intOf (f 17)).toNat) ⟨0,(by omega),(fun _ h=>M_ h (z_ _)),(by rfl),Fx.ic,Fx.ic,(by rfl),Fx.ic,Fx.ic,P,G,K⟩ ?_;rintro W T ⟨k,X,l,C,D,o,E,p,g,H,I,u⟩;refine ay ?_;by_cases y:(k:Int)<(b:Int)
 ·refine Lv aG (iq y (hx:=g) (hy:=p))<|aD<|Ws<|aO<|Wk<|sN<|Ws<|Wb<|ay ?_;obtain⟨A,n⟩:=I.addr (by omega);have J:Fx.Own T w.heap.size 23 1 (bO A b c) b (lsP L a):=I.fH (L_ (fun q=>Value.slice q b c) n);refine Lv (pf A k) (dh 1 (hx:=(E.trans (L_ (fun q=>Value.slice q (b) (c)) n))) (hi:=g))<|Lv (aC (aT L.t L.tn k a)) (aM J.aH k)<|av (aC (aT L.t L.tn k a))<|aD<|ay<|bf C<|bf D<|av (aC (aT L.t L.tn k a))<|dJ (Zb H i (aT L.t L.tn k a) (by omega)) _ rfl ?_;intro U O;have⟨Q,R,v⟩:=iy O H J u;refine av (au (eF L (aT L.t L.tn k a) i))<|aD<|ay<|av (au (eF L (aT L.t L.tn k a) i))<|bf o ?_;by_cases d:(eF L (aT L.t L.tn k a) i)<x
  ·have Y:=WR L (aT L.t L.tn k a) i;refine Lv aG (iq d)<|aD<|aO<|ay<|av (aC (aT L.t L.tn k a))<|bf o<|av (au (eF L (aT L.t L.tn k a) i))<|Lv (au (x-(eF L (aT L.t L.tn k a) i))) gD<|av (aC (aT L.t L.tn k a))<|av (au (x-(eF L (aT L.t L.tn k a) i)))<|aD<|Wr<|bL<|sR<|pO<|bL<|sR<|aJ (.tuple #[aC (aT L.t L.tn k a),au (x-(eF L (aT L.t L.tn k a) i))]) ?_;exact⟨by rw[(Gf l (by omega) d).1,(Gf l (by omega) d).2],v⟩
  refine Lv aF (iw d)<|aD<|aK<|Wk<|bR<|sN<|Wl<|Lv (au ((k:Int)+1)) (fC (hx:=g))<|av (au ((k:Int)+1))<|Ln ?_;have S:Fx.Own U w.heap.size 23 1 (.slice r (b) (c)) b (lsP L a):=R.fH (L_ (fun q=>Value.slice q b c) n.symm);refine ig ⟨k+1,(by omega),(Rm l d),C,(D.trans Fx.ic),(o.trans Fx.ic),E,(p.trans Fx.ic),Fx.ic,Q,S,v⟩ ?_;show((b:Int)-intOf (au ((k:Int)+1))).toNat<_;simp only[g,intOf]; omega
 refine Lv aF (iw y (hx:=g) (hy:=p))<|aD<|Ws<|aK<|Wx<|bZ<|gL<|cu<|sN<|ay<|av (aC 0)<|av (au 0)<|aD<|Wr<|aJ (.tuple #[aC 0,au 0]) ?_;exact⟨by rw[(JM l (by omega)).1,(JM l (by omega)).2],u⟩
end Go.Proofs.YtcbedgfikejkoaaGreatDoor
