/-
  What the proof of the law rests on, part 7: walks of functions, and plain laws; each says its conditions itself.
-/
import Derived.Deep.Slices
import Derived.Lib.SmallJoins
import Derived.ChangeArms
import Derived.Test.YtahbiajdgealnaaGreatDoorRows
import Derived.Test.YtahbiajdgealnaaGreatDoorZF6
set_option maxRecDepth 20000
set_option linter.unusedVariables false
set_option maxHeartbeats 1600000
set_option linter.unusedSimpArgs false
namespace Go.Proofs.YtahbiajdgealnaaGreatDoor
open Go.RowKit Go.WideShapes Go.ChangeShapes Go.Deep
theorem Q8{w:World}{x:Addr}{v:Value}(h:w.cell? x=some v) : ∃ b a,x=⟨b,a,none⟩:=by
 obtain⟨b,a,c⟩:=x
 cases c with
 | none=>exact⟨b,a,rfl⟩
 | some q =>
   unfold World.cell? at h;simp at h;split at h <;> cases h
def At4(a k1 k2 c:IntKind)(w:World)(b off:Nat)(x0 x1 x2 d:Int):Prop :=
 w.cell? ⟨b,off,none⟩=some (.int a x0)/\w.cell? ⟨b,off+1,none⟩=some (.int k1 x1)/\w.cell? ⟨b,off+2,none⟩=some (.int k2 x2)/\w.cell? ⟨b,off+3,none⟩=some (.int c d)
def Wf4(a k1 k2 b:IntKind)(x0 x1 x2 c:Int):Prop:=(Lit.int a x0).wf=true/\(Lit.int k1 x1).wf=true/\(Lit.int k2 x2).wf=true/\(Lit.int b c).wf=true
def Sl4(g k1 k2 h:IntKind)(w:World)(a:Option Addr)(len:Nat)(c d e f:Nat->Int):Prop :=
 ∀ i,i<len->(∃ b j,a=some ⟨b,j,none⟩/\At4 g k1 k2 h w b (j+i*4) (c i) (d i) (e i) (f i))/\Wf4 g k1 k2 h (c i) (d i) (e i) (f i)
theorem Sl4.up{m k1 k2 n:IntKind}{w w':World}{a:Option Addr}{len:Nat}{g j k l:Nat->Int}(h:Sl4 m k1 k2 n w a len g j k l)(f:Below w.heap.size w w'):Sl4 m k1 k2 n w' a len g j k l:=by
 intro i q;obtain⟨⟨b,d,e,o,r,s,t⟩,hw⟩:=h i q;have c:=block_lt_of_cell o
 dsimp only at c
 exact⟨⟨b,d,e,(f.cell (p:=⟨b,d+i*4,none⟩) c).trans o,(f.cell (p:=⟨b,d+i*4+1,none⟩) c).trans r,(f.cell (p:=⟨b,d+i*4+2,none⟩) c).trans s,(f.cell (p:=⟨b,d+i*4+3,none⟩) c).trans t⟩,hw⟩
instance {g k1 k2 i:IntKind} {w w':World} {a:Option Addr} {len:Nat} {c d e f:Nat->Int}:Rt.Tr w w' (Sl4 g k1 k2 i w a len c d e f) (Sl4 g k1 k2 i w' a len c d e f):=⟨fun b h=>h.up b⟩
def yC(P:Program):Nat->TypeId->Option (List (Option IntKind))
 | 0,_=>none
 | d+1,t=>match P.underlying t with
   | some (.int k)=>some [some k]
   | some .bool=>some [none]
   | some (.array n e)=>(yC P d e).bind fun a=>if P.cellsOf e=a.length/\P.cellsOf t=n*a.length then some (List.replicate n a).flatten else none
   | some (.struct fs)=>(fs.toList.foldlM (fun l f=>(yC P d f.type).bind fun a=>if f.offset=l.length/\P.cellsOf f.type=a.length then some (l++a)else none) []).bind fun l=>if P.cellsOf t=l.length then some l else none
   | _=>none
def RB(k:Option IntKind)(v:Value):Prop:=match k with|some k => ∃ n,v = .int k n/\(Lit.int k n).wf=true|none => ∃ b,v = .bool b
def aaz(ks:List (Option IntKind))(cs:List Value):Prop:=cs.length=ks.length /\ ∀(j:Nat) (k:Option IntKind),ks[j]? = some k -> ∃ v,cs[j]? = some v/\RB k v
theorem Cr{ks:List (Option IntKind)}{k:Option IntKind} : ∀(n j:Nat),(List.replicate n ks).flatten[j]? = some k->ks[j % ks.length]? = some k/\j / ks.length<n
 | 0,j,h=>by simp at h
 | n+1,j,h=>by
   rw[List.replicate_succ,List.flatten_cons]at h;by_cases b:j<ks.length
   ·rw[List.getElem?_append_left b]at h;rw[Nat.mod_eq_of_lt b,Nat.div_eq_of_lt b]; exact⟨h,by omega⟩
   ·rw[List.getElem?_append_right (by omega)]at h;have c:0<ks.length:=by
     rcases Nat.eq_zero_or_pos ks.length with e|e
     ·obtain⟨a,_⟩:=Cr n _ h;have:=(List.getElem?_eq_some_iff.1 a).1; omega
     ·exact e
    obtain⟨a,d⟩:=Cr n _ h;rw[Nat.mod_eq_sub_mod (by omega),Nat.div_eq_sub_div c (by omega)];exact⟨a,by omega⟩
section
variable {H:Type} {enc:TypeId × Value->H} {P:Program} {w:World} {base:Nat} {spare:Nat->Bool} {held:Bool}
theorem FK{ks:List (Option IntKind)}{cs:List Value}{o s j:Nat}{k:Option IntKind}(h:aaz ks ((cs.drop o).take s))(e:s=ks.length)(b:ks[j]? = some k) : ∃ v,cs[o+j]? = some v/\RB k v:=by
 obtain⟨n,a,c⟩:=h.2 j k b;have d:=(List.getElem?_eq_some_iff.1 b).1;rw[List.getElem?_take_of_lt (by omega),List.getElem?_drop]at a;exact⟨n,a,c⟩
theorem Ct : ∀(d:Nat) (t:TypeId) (q:List (Option IntKind)),yC P d t=some q -> ∀(C:Nat) (p:List Value) (x:DataW H × List MemPlace),DataW.trod enc P w base spare held C t p=some x->aaz q p
 | 0,_,_,h=>by simp[yC]at h
 | d+1,t,q,h=>by
   intro C p x z;unfold yC at h;split at h
   ·rename_i k hu;simp only[Option.some.injEq]at h; subst h;obtain⟨n,rfl,_,U⟩:=DataW.trod_int hu z;refine⟨rfl,fun j W a => ?_⟩
    match j,a with
    | 0,a=>simp at a; subst a; exact⟨_,rfl,n,rfl,U⟩
    | j+1,a=>simp at a
   ·rename_i hu;simp only[Option.some.injEq]at h; subst h;obtain⟨b,rfl,_⟩:=DataW.trod_bool hu z;refine⟨rfl,fun j W a => ?_⟩
    match j,a with
    | 0,a=>simp at a; subst a; exact⟨_,rfl,b,rfl⟩
    | j+1,a=>simp at a
   ·rename_i n e hu;obtain⟨I,S,h⟩:=Option.bind_eq_some_iff.1 h;split at h
    ·rename_i hc;simp only[Option.some.injEq]at h; subst h;obtain⟨Y,m,_,_,c,F,J⟩:=DataW.trod_array hu z;refine⟨by rw[c,hc.2]; simp,fun j k a => ?_⟩;obtain⟨r,A⟩:=Cr n j a;have u:=J (j / I.length) A;rw[o_ (by omega),hc.1]at u;have:=FK (Ct d e I S _ _ _ u) rfl r;rw[Nat.mul_comm,Nat.div_add_mod]at this;exact this
    ·cases h
   ·rename_i fs hu;obtain⟨l,c,h⟩:=Option.bind_eq_some_iff.1 h;split at h
    ·rename_i hc;simp only[Option.some.injEq]at h; subst h;obtain⟨Y,m,_,_,T,F,K⟩:=DataW.trod_struct hu z;refine⟨by rw[T,hc],?_⟩;have M : ∀ f,f∈fs.toList -> ∃ y,DataW.trod enc P w base spare held m f.type ((p.drop f.offset).take (P.cellsOf f.type))=some y:=by
      intro f N;obtain⟨i,u,e⟩:=List.mem_iff_getElem.1 N;have E:i<fs.size:=(by simpa using u);have r:fs[i]? = some f:=(by rw[Array.getElem?_eq_getElem E]; simpa using e);have:=K i f r;rw[o_ (by rw[F]; exact E)]at this;exact⟨_,this⟩
     have X : ∀(L:List Field) (o:List (Option IntKind)),(∀ f,f∈L -> ∃ y,DataW.trod enc P w base spare held m f.type ((p.drop f.offset).take (P.cellsOf f.type))=some y)->(∀(j:Nat) (k:Option IntKind),o[j]? = some k -> ∃ v,p[j]? = some v/\RB k v) -> ∀ l,L.foldlM (fun l f=>(yC P d f.type).bind fun q=>if f.offset=l.length/\P.cellsOf f.type=q.length then some (l++q)else none) o=some l -> ∀(j:Nat) (k:Option IntKind),l[j]? = some k -> ∃ v,p[j]? = some v/\RB k v:=by
      intro L
      induction L with
      | nil=>intro o _ B l c; simp at c; subst c; exact B
      | cons f L ih =>
        intro o D B l c;rw[List.foldlM_cons]at c;obtain⟨Z,r,A⟩:=Option.bind_eq_some_iff.1 c;obtain⟨G,R,s⟩:=Option.bind_eq_some_iff.1 r;split at s
        ·rename_i hcc;simp only[Option.some.injEq]at s; subst s;refine ih (o++G) (fun g O=>D g (List.mem_cons_of_mem _ O)) (fun j k a => ?_) l A;by_cases Q:j<o.length
         ·rw[List.getElem?_append_left Q]at a; exact B j k a
         ·rw[List.getElem?_append_right (by omega)]at a;obtain⟨y,V⟩:=D f (List.mem_cons_self ..);have:=FK (Ct d f.type G R _ _ _ V) hcc.2 a;rw[hcc.1,show o.length+(j-o.length)=j by omega]at this;exact this
        ·cases s
     exact X fs.toList [] M (fun j k a=>by simp at a) l c
    ·cases h
   ·cases h
end
section
variable {H:Type} {enc:TypeId × Value->H} {P:Program} {w:World} {base:Nat} {spare:Nat->Bool} {held:Bool}
theorem Q9{t e:TypeId}{ks:List (Option IntKind)}{fuel D:Nat}{cs:List Value}{x:DataW H × List MemPlace}(S:P.underlying t=some (.slice e))(O:yC P D e=some ks)(F:P.cellsOf e=ks.length)(C:0<ks.length)
 (h:DataW.trod enc P w base spare held fuel t cs=some x) : ∃ a c l,cs = [.slice a c l]/\c<=maxLen/\c<=l /\ ∃ X:Nat->Nat->Value,(∀ i,i<c -> ∀(j:Nat) (k:Option IntKind),ks[j]? = some k->RB k (X i j))/\Fx.mM w a c ks.length (Fx.flat ks.length X):=by
 rcases open_slice S h with ⟨rfl,_⟩|⟨a',c,l,m,n,D',Pl,rfl,_,hl,hm,hmm,_,hx⟩
 ·exact⟨none,0,0,rfl,by unfold maxLen; omega,A_ _,fun _ _=>undef,fun i d=>N_ d (by omega),fun h=>N_ h (by omega)⟩
 have W:c<=m:=by rw[hmm]; split <;> omega
 have r : ∀ i j:Nat,∃ q:Value,i<c -> ∀ k,ks[j]? = some k->w.cell? (a'.add (i*ks.length+j))=some q/\RB k q:=by
  intro i j;by_cases d:i<c/\j<ks.length
  ·obtain⟨U,A,J⟩:=hx i (by omega);rw[F]at A;obtain⟨_,V,M⟩:=World.cells?_some A;obtain⟨q,y,z⟩:=(Ct _ _ _ O _ _ _ J).2 j _ (o_ d.2);refine⟨q,fun _ k v => ?_⟩;rw[o_ d.2,Option.some.injEq]at v;subst v;have E:=M j (by omega);rw[add_add]at E;exact⟨by rw[<- y]; simpa using E,z⟩
  ·refine⟨undef,fun y k z=>N_ ⟨y,(List.getElem?_eq_some_iff.1 z).1⟩ d⟩
 refine⟨some a',c,l,rfl,by omega,hl,fun i j=>Classical.choose (r i j),fun i d j k v=>(Classical.choose_spec (r i j) d k v).2,fun K => ?_⟩;have G:a'.add (0*ks.length+0)=a':=by unfold Addr.add; simp
 obtain⟨Z,L⟩:=r 0 0;have Q:=o_ C;have B:=(L K _ Q);have g:=B.1;rw[G]at g;have o : ∃ b f,a'=⟨b,f,none⟩:=by
  have u:=B.2;unfold RB at u;split at u
  ·obtain⟨Y,rfl,_⟩:=u; exact Q8 g
  ·obtain⟨T,rfl⟩:=u;unfold World.cell? at g
   cases a' with
   | mk b f sp =>
     cases sp with
     | none=>exact⟨b,f,rfl⟩
     | some s=>simp at g; split at g <;> simp_all
 obtain⟨b,f,o⟩:=o;refine⟨b,f,by rw[o],fun p R => ?_⟩;have N:p % ks.length<ks.length:=K_ _ C;have d:p / ks.length<c:=Nat.div_lt_of_lt_mul (by rw[Nat.mul_comm]; exact R);have:=(Classical.choose_spec (r (p / ks.length) (p % ks.length)) d _ (o_ N)).1;have I:a'.add (p / ks.length*ks.length+p % ks.length)=⟨b,f+p,none⟩:=by rw[o,addr_add,Nat.mul_comm,Nat.div_add_mod]
 exact(M_ w.cell? I).symm.trans this
end
section
variable {H:Type} {enc:TypeId × Value->H} {P:Program} {w:World}
theorem mM.uR{w:World}{a:Option Addr}{n s:Nat}{x y:Nat->Value}(h:Fx.mM w a n s x)(e : ∀ p,p<n*s->x p=y p):Fx.mM w a n s y:=fun f=>by
 obtain⟨b,j,d,g⟩:=h f;exact⟨b,j,d,fun i c=>by rw[<- e i c]; exact g i c⟩
end
end Go.Proofs.YtahbiajdgealnaaGreatDoor
namespace Go.Proofs.YtahbiajdgealnaaGreatDoor
open Go.RowKit Rt
open Fx (Lv sN Ln Ws Wl Wr Sb Wk Wb Wx Wo xI yG gZ yI vU yF aA aQ bI ev flat dB aZ mM bL cells_one iU iy bQ cu cB gL gF)
namespace Rt
def Dh(L:fZ)(c:Option Addr)(d:Nat)(a:Option Addr)(b:Nat):Al:=⟨L.inn,L.left,L.known,c,L.nn,d,a,L.gn,b⟩
def ndL(L:fZ):Nat->Nat->Value:=fun k=>ji (L.id k) (L.par k) (L.R k)
def grL(L:fZ):Nat->Nat->Value:=fun k=>iE (L.g k)
structure LWf(L:fZ):Prop where
 n : ∀ k,k<L.nn->kH (L.id k)/\kH (L.par k) /\ ∀ p,p<54->wF (L.R k p)
 g : ∀ k,k<L.gn->wF (L.g k 0)/\kH (L.g k 1)/\kH (L.g k 2)/\wF (L.g k 3)/\kH (L.g k 4)
 k : ∀ i,i<6->kH (L.known i)
 bn:L.nn<=900000
 bg:L.gn<=900000
theorem LWf.of{L:fZ}{N:Nat}(a:Inv0 L N)(o:zY L)(m:zl L)(A:N<=900000):LWf L where
 n:=fun k c=>by
  have y:=a.pos k c;have z:=a.top k c;have f:=mP (a.may k c);refine⟨⟨by omega,by omega⟩,?_,fun p r=>by have:=f p r; exact⟨by omega,by omega⟩⟩
  rcases a.up k c with e|⟨j,b,e⟩
  ·rw[e]; exact⟨by omega,by omega⟩
  ·have h:=a.pos j b;have l:=a.top j b;rw[<- e]; exact⟨by omega,by omega⟩
 g:=fun k c=>by
  obtain⟨d,u,v,w,x⟩:=o.gb k c;obtain⟨s,t⟩:=m.wf k c;obtain⟨j,b,e⟩:=iJ.1 d;rw[a.Bt]at b;rw[(a.tid j b).1]at e;have h:=a.pos j b;have l:=a.top j b;exact⟨⟨by omega,by omega⟩,s,by rw[<- e]; exact⟨by omega,by omega⟩,⟨by omega,by omega⟩,t⟩
 k:=fun i q=>by have:=a.kn i q; exact⟨by omega,by omega⟩
 bn:=by have:=a.nn; omega
 bg:=by have:=a.gn; omega
end Rt
structure Pt(w:World)(s:Al)(L:fZ):Prop where
 e:s=Dh L s.na s.nc s.ga s.gc
 n:mM w s.na L.nn 56 (flat 56 (ndL L))
 g:mM w s.ga L.gn 5 (flat 5 (grL L))
theorem Pt.up{w w':World}{s:Al}{L:fZ}(h:Pt w s L)(a:Below w.heap.size w w'):Pt w' s L:=⟨h.e,h.n.up a rfl,h.g.up a rfl⟩
instance {w w':World} {s:Al} {L:fZ}:Rt.Tr w w' (Pt w s L) (Pt w' s L):=⟨fun b h=>h.up b⟩
theorem Pt.ldg{w:World}{p:Nat}{m:lS}(h:CS w p m):Pt w m.s m.core:=⟨rfl,h.an,h.ag⟩
theorem Pt.of{w:World}{B:Nat}{m:dU}{s:Al}{l:List Int}{p:List Jv}{L:fZ}{N:Nat}(h:StQ w B m s l p)(d:gD m L)(r:Inv0 L N)(q:zl L):Pt w s L:=by
 have e:=StC.of d r q h.ls h.gs;have f:s.nn=L.nn:=by rw[h.nn,e.nn]
 have i:s.gn=L.gn:=by rw[h.gn,e.gn]
 refine⟨?_,?_,?_⟩
 ·cases s
  unfold Dh;have a:=h.inn;have b:=h.left;have c:=h.known;simp only at a b c f i ⊢;rw[a,b,c,d.inn,d.left,d.known,f,i]
 ·have:=h.n.arr;rw[f]at this;refine mM.uR this<|bL fun k o j _ => ?_;obtain⟨a,b,c⟩:=e.n k o;unfold Wj ndL;rw[b,c,a]
 have:=h.g.arr;rw[i]at this;refine mM.uR this<|bL fun k o j _ => ?_;unfold Xp grL;rw[e.g k o]
namespace Rt
def JR(x y:Value):Nat->Value:=fun q=>if q=0 then x else y
theorem aia(x y v:Value):dB (JR x y) 0 v=JR v y:=by funext q; unfold dB JR; split <;> rfl
theorem aib(x y v:Value) : ∀ j,j<2->dB (JR x y) 1 v j=JR x v j:=fun j a=>by
 unfold dB JR
 rcases j with _|_|j
 ·rfl
 ·rfl
 ·omega
def Ie(a:Nat->Nat):Nat->Value:=fun i=>(pt (a i))
def Ig(w:World)(B n:Nat)(b:Nat->Nat)(a:Nat->lS):Prop := ∀ i,i<n->vP w B (b i) (a i)
theorem Ig.up{w w':World}{B n:Nat}{b:Nat->Nat}{a:Nat->lS}(h:Ig w B n b a)(c:Below w.heap.size w w'):Ig w' B n b a:=fun i d=>(h i d).up c
instance {w w':World} {B n:Nat} {c:Nat->Nat} {a:Nat->lS}:Rt.Tr w w' (Ig w B n c a) (Ig w' B n c a):=⟨fun b h=>h.up b⟩
theorem Ig.kM{w w':World}{B n:Nat}{c:Nat->Nat}{b:Nat->lS}{a:List TypeId}(h:Ig w B n c b)(e:iU a w w')(f:(KF.all fun T => !a.contains T)=true):Ig w' B n c b:=fun i d=>(h i d).kM e f
instance {w w':World} {B n:Nat} {d:Nat->Nat} {c:Nat->lS} {a:List TypeId}:Rt.Tc a w w' (Ig w B n d c) (Ig w' B n d c) (KF.all fun T => !a.contains T):=⟨fun b h e=>h.kM b (by simpa using e)⟩
theorem Ig.put{w:World}{B n o p:Nat}{b:Nat->Nat}{a:Nat->lS}{m:lS}(h:Ig w B n b a)(d:vP w B p m):Ig w B n (aI b o p) (aI a o m):=fun i c=>by
 unfold aI;by_cases e:i=o
 ·rw[d_ e,d_ e]; exact d
 ·rw[b_ e,b_ e]; exact h i c
theorem Ig.snoc{w:World}{B n p:Nat}{b:Nat->Nat}{a:Nat->lS}{m:lS}(h:Ig w B n b a)(c:vP w B p m):Ig w B (n+1) (aI b n p) (aI a n m):=fun i d=>by
 unfold aI;by_cases e:i=n
 ·rw[d_ e,d_ e]; exact c
 ·rw[b_ e,b_ e]; exact h i (by omega)
theorem aen{n p:Nat}{a:Nat->Nat}{z:Nat->Value} : ∀ j,j<(n+1)*1->iy (Ie a) (n*1) (bI z (0*1) 1 (fun _=>(pt p))) j=Ie (aI a n p) j:=by
 intro j b;unfold iy Ie aI;by_cases h:j<n*1
 ·rw[d_ h,b_ (by omega)]
 rw[b_ h,d_ (by omega)];unfold bI;rw[d_ (by omega)]
theorem Wv{o p:Nat}{a:Nat->Nat}:dB (Ie a) o (pt p)=Ie (aI a o p):=by
 funext j; unfold dB Ie aI
 by_cases h:j=o
 ·rw[d_ h,d_ h]
 rw[b_ h,b_ h]
theorem aeo{n:Nat}{e:Nat->EvM}{v:EvM}{z:Nat->Value} : ∀ j,j<(n+1)*14->iy (evX e) (n*14) (bI z (0*14) 14 (bU v)) j=evX (aI e n v) j:=fun j a =>
 (Fx.uO j a).trans (bL (fun i _ q _=>by unfold Fx.qC aI; split <;> rfl) j a)
structure WM where
 n:Nat
 la:Option Addr
 lc:Nat
 pl:Nat->Nat
 ml:Nat->lS
 an:Nat
 aa:Option Addr
 ac:Nat
 ev:Nat->EvM
end Rt
structure oC(w:World)(B p:Nat)(M:WM)(T:Nat):Prop where
 c:aQ w p 2 (JR (.slice M.la M.n M.lc) (.slice M.aa M.an M.ac)) 44
 l:Fx.Own w B 72 1 (.slice M.la M.n M.lc) M.n (Ie M.pl)
 a:Fx.Own w B 32 14 (.slice M.aa M.an M.ac) M.an (evX M.ev)
 g:Ig w B M.n M.pl M.ml
 inv : ∀ i,i<M.n->Inv (M.ml i).core T
 wf : ∀ k,k<M.an->gU (M.ev k)
 may : ∀ k,k<M.an->bR (M.ev k)=true
 sm : ∀ k,k<M.an->oz (M.ev k)
 cz:Cz M.n M.an M.ev fun o=>(M.ml o).s.known
 pB:B<=p
 n1:1<=M.n
 n6:M.n<=6
def aep:List Nat := [44,72,32]++KF
theorem oC.up{w w':World}{B p T:Nat}{M:WM}(h:oC w B p M T)(b:Below w.heap.size w w'):oC w' B p M T := { h with c:=h.c.cZ (Sb b) (u_ h.c.lt),l:=h.l.up b,a:=h.a.up b,g:=h.g.up b }
instance {w w':World} {B p T:Nat} {M:WM}:Rt.Tr w w' (oC w B p M T) (oC w' B p M T):=⟨fun b h=>h.up b⟩
theorem oC.kM{w w':World}{B p T:Nat}{M:WM}{e:List TypeId}(h:oC w B p M T)(b:iU e w w')(j:(aep.all fun T => !e.contains T)=true):oC w' B p M T:=by
 have i : ∀ d∈aep,e.contains d=false:=fun d f=>by
  have:=List.all_eq_true.1 j d f
  simpa using this
 exact { h with c:=h.c.kM b (i _ (by decide)),l:=h.l.kM b (i _ (by decide)),a:=h.a.kM b (i _ (by decide)),g:=h.g.kM b (List.all_eq_true.2 fun T f=>List.all_eq_true.1 j T (List.mem_append_right _ f)) }
instance {w w':World} {B p T:Nat} {M:WM} {a:List TypeId}:Rt.Tc a w w' (oC w B p M T) (oC w' B p M T) (aep.all fun T => !a.contains T):=⟨fun b h e=>h.kM b (by simpa using e)⟩
theorem Zg{w:World}{B p k a:Nat}(d:aQ w p 27 (mQ (qH k a)) 71)(f:aQ w a 1 (fun _ => .slice none 0 0) 123)(h1:B<=p)(b:B<=a):vP w B p (qH k a) where
 c:=d
 n:=vU _ _ _ _ _
 g:=vU _ _ _ _ _
 tc:=f
 t:=vU _ _ _ _ _
 r:=⟨fun _ _=>vU _ _ _ _ _,fun _ _ _ _ _ _ e=>by cases e⟩
 pB:=h1
 tB:=b
 bn:=L_ _
 bg:=L_ _
 bt:=L_ _
 br:=fun _ _=>L_ _
theorem Rt.Bn(k a:Nat):Inv (qH k a).core 0 where
 Bt:=rfl
 nn:=L_ _
 tid:=fun _ h=>N_ h (z_ _)
 rise:=fun _ _ _ h=>N_ h (z_ _)
 pos:=fun _ h=>N_ h (z_ _)
 top:=fun _ h=>N_ h (z_ _)
 up:=fun _ h=>N_ h (z_ _)
 dep:=fun _=>⟨0,L_ _,by show(-1:Int)<0; decide⟩
 gn:=A_ _
 rn:=fun _ _=>A_ _
 may:=fun _ h=>N_ h (z_ _)
 g47:=fun _ h=>N_ h (z_ _)
 kn:=fun _ _=>⟨O_ _,by show(0:Int)<_; decide⟩
 s:=⟨fun _ h=>N_ h (z_ _),fun _ h=>N_ h (z_ _)⟩
 b:=⟨fun _ _=>O_ _,fun _ h=>N_ h (z_ _),fun _ _ _ h=>N_ h (z_ _)⟩
set_option maxRecDepth 20000 in
theorem NK(n:Nat)(w:World)(V:1<=n)(W:n<=6) :
 Calls Tryz.prog 12 #[au (n:Int)] w fun e w' => ∃ p M,e = .returned (pt p)/\M.n=n/\M.an=0/\(∀ i,(M.ml i).core=(qH n 0).core)/\oC w' w.heap.size p M 0/\Below w.heap.size w w':=by
 refine Kent Tryz.func12 30 ?_;refine ay<|av (.pointer none)<|aC<|ay<|av (.agg (aA 2 (fun _ => .slice none 0 0)))<|qD fun b P lK X s1 z1 => ?_;have b1:=bH s1.old (Below.refl w.heap.size w);have sU:=ig lK;have uq:=X.lt;refine av (pt b)<|aC<|Ws<|ay<|av (au 0)<|aC<|Wb ?_;have m2:aQ P b 2 (JR (.slice none 0 0) (.slice none 0 0)) 44:=X.congr (fun j _=>by unfold JR; split <;> rfl)
 have m3:Fx.Own P w.heap.size 72 1 (.slice none 0 0) 0 (Ie (fun _=>0)):=vU _ _ _ _ _;have m4:Ig P w.heap.size 0 (fun _=>0) (fun _=>qH n 0):=fun _ h=>N_ h (z_ _);refine Wo (fun f G => ∃ k:Nat,∃ a:Option Addr,∃ u:Nat,∃ t:Nat->Nat,∃ r:Nat->lS,k<=n/\(∀ i,∃ z,r i=qH n z)/\f 0=au (n:Int)/\f 3=(pt b)/\f 4=au (k:Int)/\aQ G b 2 (JR (.slice a k u) (.slice none 0 0)) 44/\Fx.Own G w.heap.size 72 1 (.slice a (k) (u)) k (Ie t)/\Ig G w.heap.size k t r/\Below w.heap.size w G) (fun f _=>(n-(intOf (f 4)).toNat)) ⟨0,none,0,(fun _=>0),(fun _=>qH n 0),by omega,(fun _=>⟨0,rfl⟩),Fx.ic,(by rfl),Fx.ic,m2,m3,m4,b1⟩ ?_;rintro f1 w2 ⟨k,a,u,t,r,hk,F,J,E,K,m5,m6,m7,A⟩;refine Ws<|ay<|aT K<|aT J ?_;by_cases S:(k:Int)<(n:Int)
 ·refine Lv aG (gu S)<|aC<|aN<|Wk<|sN<|Ws<|Wb<|ay<|aT J<|mE (agC n _ V W) ?_;rintro e9 w3 ⟨d,O,T,hp3,_,hb3,hc3,ht3,aqe⟩;refine⟨.tuple #[(pt d),au 0],T,?_⟩;clear T;have⟨N,m9,m10,Q⟩:=kR hb3 m5 m6 m7 A;have hL1:vP w3 w.heap.size d (qH n O):=Zg hc3 ht3 (m_ A.size hp3) (m_ A.size aqe);refine av (.tuple #[(pt d),au 0])<|av (pt d)<|av (au 0)<|av (pt d)<|av (au 0)<|aC<|Wl<|aT E<|aT E<|av (pt b)<|av (pt b)<|Lv (.slice a (k) (u)) (aL N.aH 0)<|av (pt d)<|xI (vs := [(0,(pt d))]) (s:=1) (zc:=fun _ => .pointer none) (y:=bI (fun j => .pointer none) (0*1) 1 (fun _=>(pt d))) (by rfl) rfl rfl Tryz.underlying41 (by kernel_rfl) (by rfl) (by rfl) (by kernel_rfl) (by rw[aZ (off:=0*1) (s:=1) (y:=fun _=>(pt d)) rfl (cells_one (by rfl)) (by rfl)]; rfl) rfl fun g2 w4 I Y s3 z2 => ?_;have⟨m12,L,m14,m15,H⟩:=uj s3.old N m9 m10 hL1 Q;have pV:=iV I Q.size;have Fy:=bZ I N.lt;have Aa:(.slice a (k) (u):Value).ownBlock≠some g2:=by rw[I]; exact m9.jm (A_ _)
  have zy:=Y.lt;refine yG (B:=w.heap.size) (s:=1) (bytes:=8) (k:=k) (m:=1) (v := .slice a (k) (u)) (x:=Ie t) (by rfl) rfl rfl rfl Tryz.underlying41 (by kernel_rfl) (by kernel_rfl) rfl rfl L Y.aH (wL (fun _=>rfl)) (by omega) (by omega) (by omega) H.size fun D C w5 ho1 U sS hlt1 => ?_;have fV:=yI U L;have⟨Z,m18,m19⟩:=Dp fV m12 m14 m15;have m16:Fx.Own w5 w.heap.size 72 1 (bM D (k+1) C) (k+1) (Ie (aI t k d)):=(ho1.congr (fun j hj=>aen j hj));have R:Below w.heap.size w w5:=yF H U H.size (fun q hq=>(L.ge hq).1);refine av (pt b)<|av (pt b)<|jd Z 0 (bM D (k+1) C) fun w6 m20 s4 z3 => ?_;have m21:aQ w6 b 2 (JR (bM D (k+1) C) (.slice none 0 0)) 44:=m20.to (aia _ _ _);have jJ:=gZ s4 Z.ty;have⟨m22,m23,m24⟩:=Dp jJ m18 m19 m16;have b6:=s4.below R R.size (by omega);refine Ln<|bQ<|sN<|Wl<|aT K<|Lv (au ((k:Int)+1)) eO<|av (au ((k:Int)+1))<|Ln ?_;have nk:Ig w6 w.heap.size (k+1) (aI t k d) (aI r k (qH n O)):=m22.snoc m23
  skip
  refine gF ⟨k+1,(some ⟨D,0,none⟩),C,(aI t k d),(aI r k (qH n O)),by omega,(fun i=>by unfold aI; split <;> first|exact⟨_,rfl⟩|exact F i),(J.trans Fx.ic),E,Fx.ic,m21,m24,nk,b6⟩ ?_
  show(n-(intOf (au ((k:Int)+1))).toNat)<_;simp only[K,intOf]; omega
 refine Lv aF (gy S)<|aC<|aK<|Wx<|cu<|gL<|cB<|sN<|ay<|aT E<|av (pt b)<|aC<|Wr<|aJ (pt b) ?_;obtain rfl:k=n:=by omega
 exact⟨b,⟨k,a,u,t,r,0,none,0,fun _=>⟨0,0,fun _=>0,0,0,0,0,0,0⟩⟩,rfl,rfl,rfl,(fun i=>by obtain⟨z,e⟩:=F i; show(r i).core=_; rw[e]; rfl),{ c:=m5,l:=m6,a:=vU _ _ _ _ _,g:=m7,inv:=fun i _=>by obtain⟨z,e⟩:=F i; show Inv (r i).core 0; rw[e]; exact Bn k z,wf:=fun _ h=>N_ h (z_ _),may:=fun _ h=>N_ h (z_ _),sm:=fun _ h=>N_ h (z_ _),cz:=Cz.zero k (fun o _=>by obtain⟨z,e⟩:=F o; show(r o).s.known=_; rw[e]; rfl),pB:=sU,n1:=V,n6:=W },A⟩
end Go.Proofs.YtahbiajdgealnaaGreatDoor
namespace Go.Proofs.YtahbiajdgealnaaGreatDoor
open Go.RowKit Go Rt
namespace Rt
section
variable {L:fZ} {N:Nat} {v:EvM}
theorem NM(b:Inv0 L N)(h:zY L):zY (dN L v):=by
 unfold dN;by_cases c:bK L v=0
 ·rw[d_ c];have a:=(Gl (jO c)).1;have d:dS L v=0:=by
   unfold bK at c;rw[b_ (by rw[a]; decide)]at c;split at c; · cases c
   split at c; · cases c
   split at c; · cases c
   exact c
  have:=Hl b h a d;exact⟨this.us,this.gb⟩
 rw[b_ c]; exact h
def iZ(L:fZ)(x i:Int):Int:=if L.node x<0 then 0 else fT (L.R (L.node x).toNat) i
theorem NP(i:Int):fT H9 i=0:=by
 unfold fT;by_cases c:(gV i&&may H9)=true
 ·rw[d_ c];rw[T_]at c;obtain⟨a,d,e,b⟩:=rJ c.1;have:=yP (mP c.2) a d;rw[b,this]; rfl
 rw[b_ c]
theorem gD.local{m:dU}(h:gD m L)(a:Inv0 L N)(x i:Int):fT (bA m x) i=iZ L x i:=by
 unfold bA iZ;by_cases c:L.node x<0
 ·rw[b_ (by rw[(h.Lr a x).2 c]; decide),d_ c]; exact NP i
 rw[d_ ((h.node a x).2 (by omega)),b_ c,h.rk a (by omega)]
structure Ih(m m':dU):Prop where
 et:m'.tp=m.tp
 em:m'.mb=m.mb
 ep:m'.pb=m.pb
 er:m'.rb=m.rb
 eg:m'.gb=m.gb
 ea:m'.ab=m.ab
theorem Ih.refl(m:dU):Ih m m:=⟨rfl,rfl,rfl,rfl,rfl,rfl⟩
theorem Ih.trans{a b c:dU}(h:Ih a b)(k:Ih b c):Ih a c:=⟨k.et.trans h.et,k.em.trans h.em,k.ep.trans h.ep,k.er.trans h.er,k.eg.trans h.eg,k.ea.trans h.ea⟩
end
end Rt
structure Bu(w:World)(B lp:Nat)(m:dU)(L:fZ)(N:Nat):Prop where
 q:mD w B lp m
 s:gD m L
 i:Inv0 L N
 u:zY L
 g:zl L
section
variable {w w':World} {B lp:Nat} {m:dU} {L:fZ} {N:Nat} {v:EvM}
theorem Bu.up(h:Bu w B lp m L N)(a:Below w.heap.size w w'):Bu w' B lp m L N := { h with q:=h.q.up a }
instance:Rt.Tr w w' (Bu w B lp m L N) (Bu w' B lp m L N):=⟨fun b h=>h.up b⟩
theorem Bu.kM{a:List TypeId}(h:Bu w B lp m L N)(b:Fx.iU a w w')(c:(a.contains 106 || a.contains 135)=false):Bu w' B lp m L N := { h with q:=h.q.kM b c }
instance {a:List TypeId}:Rt.Tc a w w' (Bu w B lp m L N) (Bu w' B lp m L N) (!(a.contains 106 || a.contains 135)):=⟨fun b h e=>h.kM b (by simpa using e)⟩
theorem Bu.weak{a:Nat}(h:Bu w B lp m L N)(b:a<=B):Bu w a lp m L N := { h with q:=h.q.weak b }
theorem Bu.mono{N':Nat}(h:Bu w B lp m L N)(a:N<=N'):Bu w B lp m L N' := { h with i:=h.i.mono a }
theorem Bu.wf(h:Bu w B lp m L N)(a:N<=900000):LWf L:=LWf.of h.i h.u h.g a
theorem mD.NQ(h:mD w B lp m)(a:Fx.jT (Vg m lp w.heap.size) w w')(c:B<=w.heap.size):Below B w w':=⟨a.os,a.tape,a.output,a.size,fun k d=>a.block k (by omega) fun b=>by
 rcases b with b|b
 ·have:=(h.ltS b).1; omega
 ·omega⟩
theorem mD.typed(h:mD w B lp m)(d:Fx.jT (Vg m lp w.heap.size) w w'):Fx.F4 [106] w w':=⟨d.os,d.tape,d.output,d.size,fun k T b e=>d.block k b.ltw fun f=>by
 rcases f with (rfl|rfl|rfl|rfl|rfl|rfl)|f
 ·have:=Fx.Ty.only h.c.ty b;rw[this]at e; simp at e
 ·exact h.t.map.su b
 ·exact h.p.su b
 ·exact h.r.su b
 ·exact h.g.su b
 ·exact h.a.su b
 ·have:=b.ltw; omega⟩
theorem aqf{B:Nat}{a b c:World}(h:Below a.heap.size a b)(e:Below B b c)(d:a.heap.size<=B):Below a.heap.size a c:=h.trans (e.mono d)
theorem Cu{P:Program}{g:Nat}{a b:Array Value}{w:World}{R:Ending->World->Prop}(h:Calls P g b w R)(e:a=b):Calls P g a w R:=e ▸ h
theorem Pv{x:Value}{y:Nat->Value}(hy : ∀ j,j<14->y j=bU v j):(#[x,.agg (Fx.aA 14 y)]:Array Value) = #[x,.agg (Fx.aA 14 (bU v))]:=M_ (fun z=>(#[x,.agg z]:Array Value)) (Fx.eX hy)
theorem aic(k:Nat)(d:1<=k/\k<=6)(w:World):Calls Tryz.prog 14 #[au (k:Int)] w fun e w' => ∃ lp m,e = .returned (.tuple #[(pt lp),au 0])/\Bu w' w.heap.size lp m (qH k 0).core 0/\Below w.heap.size w w' :=
 (ahU k d w).mono fun e w' ⟨lp,m,c,⟨n,i,j,l,h,g,a⟩,f,b⟩=>⟨lp,m,c,⟨f,by rw[a]; exact gD.new ..,(Bn k 0).toInv0,(Bn k 0).s,Wu k 0⟩,b⟩
theorem Zh(h:Bu w B lp m L N)(b:gU v)(c:1<=B)(d:Fx.iQ w 0 0 8 Gn){y:Nat->Value}(hy : ∀ j,j<14->y j=bU v j) :
 Calls Tryz.prog 15 #[(pt lp),.agg (Fx.aA 14 y)] w fun e w'=>e = .returned (au (bK L v))/\Bu w' B lp (jL m v) (dN L v) (N+1)/\Fx.jT (Vg m lp w.heap.size) w w':=by
 have a:=h.s.apply h.q.t.inv h.i v;refine Cu ((Y2 m lp B w h.q v b (h.s.sound h.q.t.inv h.i) c d).mono fun e w' ⟨k,l,f⟩=>⟨by rw[k,a.1],⟨l,a.2,zX h.i,NM h.i h.u,NJ h.g b⟩,f⟩) (Pv hy)
theorem Zi(h:Bu w B lp m L N)(g:gU v)(a:1<=B)(b:Fx.iQ w 0 0 8 Gn){y:Nat->Value}(hy : ∀ j,j<14->y j=bU v j) :
 Calls Tryz.prog 22 #[(pt lp),.agg (Fx.aA 14 y)] w fun e w'=>e = .returned (au (bK L v))/\Below w.heap.size w w':=by
 have f:=h.s.apply h.q.t.inv h.i v;refine Cu ((apM m lp B w h.q v g (h.s.sound h.q.t.inv h.i) a b).mono fun e w' ⟨d,c⟩=>⟨by rw[d,f.1],c⟩) (Pv hy)
structure Mf(w:World)(B:Nat)(s:Al)(L:fZ):Prop where
 e:s=Dh L s.na s.nc s.ga s.gc
 n:Fx.Own w B 61 56 (.slice s.na L.nn s.nc) L.nn (Fx.flat 56 (ndL L))
 g:Fx.Own w B 66 5 (.slice s.ga L.gn s.gc) L.gn (Fx.flat 5 (grL L))
theorem Mf.r{s:Al}(h:Mf w B s L):Pt w s L:=⟨h.e,h.n.arr,h.g.arr⟩
theorem Mf.up{s:Al}(h:Mf w B s L)(a:Below w.heap.size w w'):Mf w' B s L:=⟨h.e,h.n.up a,h.g.up a⟩
instance {s:Al}:Rt.Tr w w' (Mf w B s L) (Mf w' B s L):=⟨fun b h=>h.up b⟩
theorem Mf.kM{s:Al}{a:List TypeId}(h:Mf w B s L)(c:Fx.iU a w w')(b:(a.contains 61 || a.contains 66)=false):Mf w' B s L:=by
 rw[Bool.or_eq_false_iff]at b;exact⟨h.e,h.n.kM c b.1,h.g.kM c b.2⟩
instance {s:Al} {a:List TypeId}:Rt.Tc a w w' (Mf w B s L) (Mf w' B s L) (!(a.contains 61 || a.contains 66)):=⟨fun b h e=>h.kM b (by simpa using e)⟩
theorem Mf.Om{s:Al}{a:List TypeId}(h:Mf w B s L)(c:Fx.F4 a w w')(b:(a.contains 61 || a.contains 66)=false):Mf w' B s L:=by
 rw[Bool.or_eq_false_iff]at b;exact⟨h.e,h.n.Om c b.1,h.g.Om c b.2⟩
theorem Zj(h:Bu w B lp m L N)(z:N<=900000):Calls Tryz.prog 18 #[(pt lp)] w fun e w' => ∃ s,e = .returned (.agg (Fx.aA 20 (jZ s)))/\Mf w' w.heap.size s L/\Below w.heap.size w w':=by
 refine(Ze m lp B w h.q (by rw[h.s.gn]; have:=h.i.gn; omega)).mono fun e w' ⟨s,l,y,x,a,v⟩=>⟨s,x,?_,v⟩;have b:=StC.of h.s h.i h.g a.ls a.gs;have o:s.nn=L.nn:=by rw[a.nn,b.nn]
 have p:s.gn=L.gn:=by rw[a.gn,b.gn]
 have f:=a.n;have d:=a.g;rw[o]at f;rw[p]at d;refine⟨(Pt.of a h.s h.i h.g).e,f.congr (Fx.bL fun k c j _ => ?_),d.congr (Fx.bL fun k c j _ => ?_)⟩
 ·obtain⟨r,t,u⟩:=b.n k c;unfold Wj ndL;rw[t,u,r]
 unfold Xp grL;rw[b.g k c]
end
end Go.Proofs.YtahbiajdgealnaaGreatDoor
namespace Go.Proofs.YtahbiajdgealnaaGreatDoor
open Go.RowKit Rt
open Fx (bF dA gG eU fU Lv sN Ln Ws Qv Wl Rp Wc Wr Sb Wk rV sR Rs Rd Wb qA Qn xI yG gZ yI uN uM vX CO Aw rv aA aQ bI ev Stp aU dB aX aZ jT iI bJ cells_one iU bP vK jN bQ)
namespace Rt
def ndW:Int:=1099511627777
def aie(n:Int)(i:Nat):Int:=if i=0 then n else 0
def vA:EvM:=⟨1,1,fun _=>0,1,0,0,10,0,0⟩
def vC:EvM:=⟨1,2,aie 1,5,ndW,2,4,0,0⟩
def vD:EvM:=⟨2,1,aie 2,3,ndW,0,4,1,0⟩
theorem Ww{m:dU}(b:m.T.ok)(v:EvM):(jL m v).T.ok:=by
 unfold jL;by_cases c:bV m v=0
 ·rw[d_ c];have f:=qj c;have a:=(ql c).2.1;have g:=nX f;show(iO m v).T.ok;unfold eF at a;unfold iO;by_cases d:v.kind=1
  ·rw[d_ d]at a ⊢;have e:m.T.err (nG v) v.node=0:=by
    unfold iY at a;split at a
    ·cases a
    ·exact a
   exact Br.put b e (by unfold nG; omega)
  rw[b_ d]
  repeat' split
  all_goals exact b
 rw[b_ c]; exact b
structure F9(m:dU)(L:fZ)(N:Nat):Prop where
 s:gD m L
 t:m.T.ok
 i:Inv0 L N
theorem F9.new(k:Nat):F9 (yB k 0 0 0 0 0 0) (qH k 0).core 0:=⟨gD.new ..,Br.zero _ _,(Bn k 0).toInv0⟩
theorem F9.apply{m:dU}{L:fZ}{N:Nat}(h:F9 m L N)(v:EvM):F9 (jL m v) (dN L v) (N+1):=⟨(h.s.apply h.t h.i v).2,Ww h.t v,zX h.i⟩
theorem F9.err{m:dU}{L:fZ}{N:Nat}(h:F9 m L N)(v:EvM){c:Int}(e:bV m v=c):bK L v=c:=(h.s.apply h.t h.i v).1.symm.trans e
theorem F9.loc{m:dU}{L:fZ}{N:Nat}(h:F9 m L N)(x i:Int){c:Int}(e:fT (bA m x) i=c):iZ L x i=c:=(h.s.local h.i x i).symm.trans e
noncomputable def wq0:dU:=yB 2 0 0 0 0 0 0
noncomputable def Dv:dU:=jL wq0 vA
noncomputable def wq2:dU:=jL Dv vC
noncomputable def wq3:dU:=jL wq2 vD
end Rt
namespace Rt
structure Gp where
 who:Nat
 meet:Bool
 other:Nat
 kind:Nat
 node:Nat
 dst:Nat
 aS:Nat
 req:Nat
 of:Nat
structure Ii(x:Gp):Prop where
 who:x.who<=255
 other:x.other<=255
 kind:x.kind<=255
 node:x.node<=255
 dst:x.dst<=255
 aS:x.aS<=65535
 req:x.req<=255
 of:x.of<=255
def Gq(x:Gp):Nat->Value:=fun p=>if p=0 then .int .u8 (x.who:Int)else if p=1 then .bool x.meet else if p=2 then .int .u8 (x.other:Int)else if p=3 then .int .u8 (x.kind:Int)else if p=4 then .int .u8 (x.node:Int)else if p=5 then .int .u8 (x.dst:Int)else if p=6 then .int .u16 (x.aS:Int)else if p=7 then .int .u8 (x.req:Int)else .int .u8 (x.of:Int)
theorem DK{k n r:Nat}(e:r=k % n):Int.tmod (k:Int) (n:Int)=(r:Int):=by
 rw[Int.tmod_eq_emod_of_nonneg (by omega),e];exact(Int.natCast_emod k n).symm
theorem Ei(V:EvM)(x:Int) : ∀ j,j<14->dB (bU V) 9 (aD x) j=bU { V with node:=x } j:=fun j a=>by
 rcases j with _|_|_|_|_|_|_|_|_|_|_|_|_|_|j <;> first|rfl|omega
theorem Wy(V:EvM)(x:Int) : ∀ j,j<14->dB (bU V) 10 (au x) j=bU ⟨V.o,V.seq,V.deps,V.kind,V.node,x,V.aS,V.req,V.of⟩ j:=fun j a=>by
 rcases j with _|_|_|_|_|_|_|_|_|_|_|_|_|_|j <;> first|rfl|omega
theorem FL(V:EvM)(x:Int) : ∀ j,j<14->dB (bU V) 11 (au x) j=bU { V with aS:=x } j:=fun j a=>by
 rcases j with _|_|_|_|_|_|_|_|_|_|_|_|_|_|j <;> first|rfl|omega
theorem Wz(V:EvM)(x:Int) : ∀ j,j<14->dB (bU V) 12 (aD x) j=bU { V with req:=x } j:=fun j a=>by
 rcases j with _|_|_|_|_|_|_|_|_|_|_|_|_|_|j <;> first|rfl|omega
theorem aif(V:EvM)(x:Int) : ∀ j,j<14->dB (bU V) 13 (aD x) j=bU { V with of:=x } j:=fun j a=>by
 rcases j with _|_|_|_|_|_|_|_|_|_|_|_|_|_|j <;> first|rfl|omega
end Rt
set_option maxRecDepth 20000 in
set_option maxHeartbeats 2000000 in
theorem Zk(M:WM)(B p T:Nat)(x:Gp)(w:World)(Z:oC w B p M T)(hx:Ii x) :
 Calls Tryz.prog 38 #[(pt p),.agg (aA 9 (Gq x))] w fun e w' => ∃ V,gU V/\oz V/\(V.o=((x.who % M.n:Nat):Int)+1/\V.seq=(M.ml (x.who % M.n)).s.known (x.who % M.n)+1/\V.deps=(M.ml (x.who % M.n)).s.known)/\e = .returned (.agg (aA 14 (bU V)))/\Below w.heap.size w w':=by
 have hWc:=Z.c;have hWl:=Z.l;have hWa:=Z.a;have hWg:=Z.g;have hn1:=Z.n1;have hn6:=Z.n6;have hpB:=Z.pB;have lpp:p<w.heap.size:=hWc.lt;have hxw:=hx.who;have hxo:=hx.other;have hxk:=hx.kind;have hxn:=hx.node;have hxt:=hx.dst;have hxa:=hx.aS;have hxr:=hx.req;have hxf:=hx.of;refine Kent Tryz.func38 143 ?_;refine ay<|qD fun G w1 lK m1 s1 z1 => ?_;have⟨m2,m3,m4,m5,b1⟩:=uj s1.old hWc hWl hWa hWg (Below.refl w.heap.size w);have sU:=ig lK;have nP:=bZ lK hWc.lt;have uq:=m1.lt;refine uh 14 (fun h=>if h<1 then au 0 else if h<8 then aD 0 else if h<9 then .int .u8 (0)else if h<10 then aD 0 else if h<12 then au 0 else aD 0) fun U w2 Ak m6 s2 z2 => ?_;have⟨m7,m8,m9,m10,m11,b2⟩:=um s2.old m2 m3 m4 m5 m1 b1;have pV:=iV Ak b1.size;have KH:=bZ Ak m2.lt;have K6:(.slice M.aa (M.an) (M.ac):Value).ownBlock≠some U:=by rw[Ak]; exact m4.jm (A_ _)
 have Fw:=bZ Ak m1.lt;have zy:=m6.lt;refine aC<|Ws ?_;obtain⟨o,eo⟩ : ∃ r,r=x.who % M.n:=⟨_,rfl⟩;have ho:o<M.n:=by rw[eo]; exact K_ _ (by omega)
 refine xR<|aW (pt G)<|Qv (.int .u8 (x.who:Int)) (fun E D=>aL (m11.aH.dr D) 0)<|Qv (au x.who) (fun E D=>dA rfl rfl (by kernel_rfl) Tryz.underlying3 (iI (by omega) rfl))<|aW (pt p)<|aW (pt p)<|aW (pt p)<|Qv (.slice M.la (M.n) (M.lc)) (fun E D=>aL (m7.aH.dr D) 0)<|aW (au M.n)<|Qv (au o) (fun E D=>Fx.wX rfl rfl rfl (by omega) (DK eo))<|aW (au o)<|Qn ?_;rintro _ ⟨qd,rfl⟩;obtain⟨Dv,oV⟩ : ∃ E,E=World.drewN w2 qd:=⟨_,rfl⟩;rw[<- oV];have s3:Stp w2.heap.size w2 Dv:=by rw[oV]; exact Sb (jM w2 qd)
 have⟨m12,m13,m14,m15,m16,m17,b3⟩:=jQ s3.old m7 m8 m9 m10 m11 m6 b2;clear oV;refine sN<|ay<|av (pt p)<|av (pt p)<|av (pt p)<|Lv (.slice M.la (M.n) (M.lc)) (aL m12.aH 0)<|av (au o) ?_;obtain⟨Am,eq1⟩:=m13.addr (by omega);have m18:Fx.Own Dv B 72 1 (bM Am M.n M.lc) M.n (Ie M.pl):=m13.dL (M_ (fun q=>Value.slice q M.n M.lc) eq1);refine Lv (pf Am o) (dh 1 (hx:=(rfl.trans (M_ (fun q=>Value.slice q (M.n) (M.lc)) eq1))))<|Lv (pt (M.pl o)) (aL m18.aH o)<|av (pt (M.pl o))<|aC<|Ws ?_;obtain⟨H,aii⟩ : ∃ r,r=x.kind % 7:=⟨_,rfl⟩;have axa:H<7:=by rw[aii]; exact K_ _ (by omega)
 have Zl:=m15 o (by omega);have FM:=Zl.c;have aij:=Zl.n;have hkn:=(Z.inv o (by omega)).kn;have hko:=hkn o (by omega);have hko:0<=(M.ml o).s.known o/\(M.ml o).s.known o<1099511627776:=hko;have hU : ∀ k,k<(M.ml o).s.nn->kH ((M.ml o).id k):=fun k hk=>by have Y:=(Z.inv o (by omega)).pos k hk; have I:=(Z.inv o (by omega)).top k hk; exact⟨by show(0:Int)<=(M.ml o).core.id k; omega,by show(M.ml o).core.id k<=_; omega⟩
 have hbn:=(Z.g o (by omega)).bn;refine qA (T:=32) (T':=32) (a := .tmp 7) (v := .tmp 44) (m:=14) (z:=fun h=>if h<1 then au 0 else if h<8 then aD 0 else if h<9 then .int .u8 (0)else if h<10 then aD 0 else if h<12 then au 0 else aD 0) (y:=bI (bI (bI (bI (fun h=>if h<1 then au 0 else if h<8 then aD 0 else if h<9 then .int .u8 (0)else if h<10 then aD 0 else if h<12 then au 0 else aD 0) 0 1 (fun _=>au ((o:Int)+1))) 1 1 (fun _=>aD ((M.ml o).s.known o+1))) 2 6 (rv .u64 ((M.ml o).s.known))) 8 1 (fun _ => .int .u8 ((H:Int)+1))) (u := .agg (aA 14 (bI (bI (bI (bI (fun h=>if h<1 then au 0 else if h<8 then aD 0 else if h<9 then .int .u8 (0)else if h<10 then aD 0 else if h<12 then au 0 else aD 0) 0 1 (fun _=>au ((o:Int)+1))) 1 1 (fun _=>aD ((M.ml o).s.known o+1))) 2 6 (rv .u64 ((M.ml o).s.known))) 8 1 (fun _ => .int .u8 ((H:Int)+1))))) 20 21 (List.replicate 22 (0,2,[],[])) #[au (o:Int),au ((o:Int)+1),(pt (M.pl o)),au (o:Int),(pt (M.pl o)),(pt (M.pl o)),(pf (M.pl o) 12),(pf (M.pl o) (o+12)),aD ((M.ml o).s.known o),aD ((M.ml o).s.known o+1),(pt (M.pl o)),(pt (M.pl o)),(pt (M.pl o)),(pf (M.pl o) 12),.agg (aA 6 (rv .u64 ((M.ml o).s.known))),(pf G 3),.int .u8 (x.kind:Int),.int .u8 (H:Int),.int .u8 ((H:Int)+1),.agg (aA 14 (bI (bI (bI (bI (fun h=>if h<1 then au 0 else if h<8 then aD 0 else if h<9 then .int .u8 (0)else if h<10 then aD 0 else if h<12 then au 0 else aD 0) 0 1 (fun _=>au ((o:Int)+1))) 1 1 (fun _=>aD ((M.ml o).s.known o+1))) 2 6 (rv .u64 ((M.ml o).s.known))) 8 1 (fun _ => .int .u8 ((H:Int)+1)))),undef,undef] (by kernel_rfl) (by kernel_rfl) (by kernel_rfl) (by kernel_rfl) (by kernel_rfl) (by kernel_rfl) rfl (by kernel_rfl) rfl rfl (by kernel_rfl) (fun A=>(show ev _ (.tmp 7)=(pt A)from by kernel_rfl)) (fun A=>(show ev _ (.tmp 44) = .agg (aA 14 (bI (bI (bI (bI (fun h=>if h<1 then au 0 else if h<8 then aD 0 else if h<9 then .int .u8 (0)else if h<10 then aD 0 else if h<12 then au 0 else aD 0) 0 1 (fun _=>au ((o:Int)+1))) 1 1 (fun _=>aD ((M.ml o).s.known o+1))) 2 6 (rv .u64 ((M.ml o).s.known))) 8 1 (fun _ => .int .u8 ((H:Int)+1))))from by kernel_rfl)) (bJ _ _) (bP (bP (bP (bP (fun jq _=>by show((fun h=>if h<1 then au 0 else if h<8 then aD 0 else if h<9 then .int .u8 (0)else if h<10 then aD 0 else if h<12 then au 0 else aD 0:Nat->Value) jq).oneCell'=true; simp only[]; repeat (first|rfl|split)) (fun _ _=>rfl)) (fun _ _=>rfl)) (fun _ _=>rfl)) (fun _ _=>rfl)) (by kernel_rfl) (fun A => ?_) ?_
 ·refine⟨?_,?_,?_,?_,?_,?_,?_,?_,?_,?_,?_,?_,?_,?_,?_,?_,?_,?_,?_,?_,?_,?_,trivial⟩
  ·exact .inr (.inr oD)
  ·exact .inr (.inr (nC (au ((o:Int)+1)) fun E D=>Fx.Gs rfl (show ev _ (.tmp 25)=au (o:Int)from by kernel_rfl) (show ev _ (.const (au 1))=au 1 from by kernel_rfl) Fx.io))
  ·exact .inr (.inr oD)
  ·exact .inr (.inr oD)
  ·exact .inr (.inr oD)
  ·exact .inr (.inr oD)
  ·exact .inr (.inr oD)
  ·exact .inr (.inr (nC (pf (M.pl o) (o+12)) fun E D=>gG rfl (show ev _ (.tmp 31)=(pf (M.pl o) 12)from by kernel_rfl) (show ev _ (.tmp 28)=au (o:Int)from by kernel_rfl) Tryz.underlying30 (s:=1) (by kernel_rfl) (by omega) (by omega) (by omega)))
  ·exact .inr (.inr (nC (aD ((M.ml o).s.known o)) fun E D=>bF (x:=mQ (M.ml o)) rfl (show ev _ (.tmp 32)=(pf (M.pl o) (o+12))from by kernel_rfl) (by kernel_rfl) (FM.aH.below D (by have:=FM.lt; omega)) (i:=o+12) (by omega) (by omega) (lZ _ (by omega) (kr _ (by omega) (by omega)))))
  ·exact .inr (.inr (nC (aD ((M.ml o).s.known o+1)) fun E D=>Fx.Gs rfl (show ev _ (.tmp 33)=aD ((M.ml o).s.known o)from by kernel_rfl) (show ev _ (.const (aD 1))=aD 1 from by kernel_rfl) (jN (by omega) (by omega))))
  ·exact .inr (.inr oD)
  ·exact .inr (.inr oD)
  ·exact .inr (.inr oD)
  ·exact .inr (.inr oD)
  ·exact .inr (.inr (nC (.agg (aA 6 (rv .u64 ((M.ml o).s.known)))) fun E D=>eU (x:=mQ (M.ml o)) (y:=rv .u64 ((M.ml o).s.known)) rfl (show ev _ (.tmp 38)=(pf (M.pl o) 12)from by kernel_rfl) (by kernel_rfl) (by kernel_rfl) (FM.aH.below D (by have:=FM.lt; omega)) (i:=12) (by omega) (by omega) (fun j C=>lZ _ (by omega) (kr _ C (by omega)))))
  ·exact .inr (.inr oD)
  ·exact .inr (.inr (nC (.int .u8 (x.kind:Int)) fun E D=>bF (x:=Gq x) rfl (show ev _ (.tmp 40)=(pf G 3)from by kernel_rfl) (by kernel_rfl) (m16.aH.below D (by have:=m16.lt; omega)) (i:=3) (by omega) (by omega) rfl))
  ·exact .inr (.inr (nC (.int .u8 (H:Int)) fun E D=>Fx.wX rfl (show ev _ (.tmp 41) = .int .u8 (x.kind:Int)from by kernel_rfl) (show ev _ (.const (.int .u8 (7))) = .int .u8 (7)from by kernel_rfl) (by omega) (DK aii)))
  ·exact .inr (.inr (nC (.int .u8 ((H:Int)+1)) fun E D=>Fx.Gs rfl (show ev _ (.const (.int .u8 (1))) = .int .u8 (1)from by kernel_rfl) (show ev _ (.tmp 42) = .int .u8 (H:Int)from by kernel_rfl) (Fx.u8e (by omega) (by omega))))
  ·exact .inr (.inr (nC (.agg (aA 14 (bI (bI (bI (bI (fun h=>if h<1 then au 0 else if h<8 then aD 0 else if h<9 then .int .u8 (0)else if h<10 then aD 0 else if h<12 then au 0 else aD 0) 0 1 (fun _=>au ((o:Int)+1))) 1 1 (fun _=>aD ((M.ml o).s.known o+1))) 2 6 (rv .u64 ((M.ml o).s.known))) 8 1 (fun _ => .int .u8 ((H:Int)+1))))) fun E D=>fU (vs := [(0,au ((o:Int)+1)),(1,aD ((M.ml o).s.known o+1)),(2,.agg (aA 6 (rv .u64 ((M.ml o).s.known)))),(3,.int .u8 ((H:Int)+1))]) (places := #[(0,1),(1,1),(2,6),(8,1),(9,1),(10,1),(11,1),(12,1),(13,1)]) (m:=14) (x:=fun h=>if h<1 then au 0 else if h<8 then aD 0 else if h<9 then .int .u8 (0)else if h<10 then aD 0 else if h<12 then au 0 else aD 0) rfl (Fx.R3 (show ev _ (.tmp 26)=au ((o:Int)+1)from by kernel_rfl) (show ev _ (.tmp 34)=aD ((M.ml o).s.known o+1)from by kernel_rfl) (show ev _ (.tmp 39) = .agg (aA 6 (rv .u64 ((M.ml o).s.known)))from by kernel_rfl) (show ev _ (.tmp 43) = .int .u8 ((H:Int)+1)from by kernel_rfl)) Tryz.underlying32 (by kernel_rfl) (by kernel_rfl) (by rw[aZ (off:=0) (s:=1) (y:=fun _=>au ((o:Int)+1)) (by kernel_rfl) (cells_one (by rfl)) (by rfl)]; rw[aZ (off:=1) (s:=1) (y:=fun _=>aD ((M.ml o).s.known o+1)) (by kernel_rfl) (cells_one (by rfl)) (by rfl)]; rw[aZ (off:=2) (s:=6) (y:=rv .u64 ((M.ml o).s.known)) (by kernel_rfl) (bJ _ _) (by rfl)]; rw[aZ (off:=8) (s:=1) (y:=fun _ => .int .u8 ((H:Int)+1)) (by kernel_rfl) (cells_one (by rfl)) (by rfl)]; rfl)))
  ·exact .inl rfl
  exact .inr (.inl rfl)
 rintro A w3 f1 hf1 za m19 hb1;have V7:p≠A:=u_ (n_ (m12.lt) za);have aer:G≠A:=u_ (n_ (m16.lt) za);have V4:U≠A:=u_ (n_ (m17.lt) za);have aes:Am≠A:=u_ (n_ (m18.lt) za);have aik:(M.pl o)≠A:=u_ (n_ (FM.lt) za);have Wd:(.slice M.aa (M.an) (M.ac):Value).ownBlock≠some A:=fun e=>by have:=(m14.ge e).2; omega
 have⟨m22,m23,m24,nk,oh,b4⟩:=um hb1 m15 m16 m17 m18 aij b3;have za:w.heap.size<=A:=m_ b3.size za;have I4:=m19.lt;have q1:f1 3=(pt G):=by rw[hf1]; kernel_rfl
 have q2:f1 4=(pt U):=by rw[hf1]; kernel_rfl
 have q3:f1 6=(pt (M.pl o)):=by rw[hf1]; kernel_rfl
 have q4:f1 7=(pt A):=by rw[hf1]; kernel_rfl
 clear hf1;refine sN<|Ws ?_;obtain⟨d,eV0⟩ : ∃ V:EvM,V=(⟨(o:Int)+1,(M.ml o).s.known o+1,(M.ml o).s.known,(H:Int)+1,0,0,0,0,0⟩:EvM):=⟨_,rfl⟩;have hz1:kH 0:=⟨by decide,by decide⟩;have hz2:wF 0:=⟨by decide,by decide⟩;have t:gU d:=by rw[eV0]; exact⟨⟨by show(_:Int)<=(o:Int)+1; omega,by show(o:Int)+1<=_; omega⟩,⟨by show(0:Int)<=(M.ml o).s.known o+1; omega,by show(M.ml o).s.known o+1<=_; omega⟩,fun i hi=>⟨(hkn i hi).1,by have q:(M.ml o).s.known i<1099511627776:=(hkn i hi).2; show(M.ml o).s.known i<=_; omega⟩,⟨by show(0:Int)<=(H:Int)+1; omega,by show(H:Int)+1<=255; omega⟩,hz1,hz2,hz2,hz1,hz1⟩
 have om:aQ w3 A 14 (bU d) 32:=m19.congr (fun j C=>by rw[eV0]; rcases j with _|_|_|_|_|_|_|_|_|_|_|_|_|_|j <;> first|rfl|omega|exact M_ (Value.int .u8) (by omega))
 have X:oz d:=by rw[eV0]; exact⟨by show(0:Int)<=_; decide,by show(0:Int)<=_; decide⟩
 have hd0:d.o=(o:Int)+1/\d.seq=(M.ml o).s.known o+1/\d.deps=(M.ml o).s.known:=by rw[eV0]; exact⟨rfl,rfl,rfl⟩
 have ek0:d.kind=(H:Int)+1:=by rw[eV0]
 refine Wl<|av (aD 0)<|aC ?_;have nI:Fx.Own w3 B 72 1 (.slice M.la (M.n) (M.lc)) M.n (Ie M.pl):=nk.dL (M_ (fun q=>Value.slice q M.n M.lc) eq1.symm);refine CO (fun f w_ => ∃ nd:Int,kH nd/\f 3=(pt G)/\f 4=(pt U)/\f 7=(pt A)/\f 8=aD nd/\aQ w_ G 9 (Gq x) 36/\aQ w_ U 14 (fun h=>if h<1 then au 0 else if h<8 then aD 0 else if h<9 then .int .u8 (0)else if h<10 then aD 0 else if h<12 then au 0 else aD 0) 32/\aQ w_ A 14 (bU d) 32/\Below w.heap.size w w_) ?_ ?_
 ·refine Ws ?_;have Zm:=m22 o (by omega);have WA:=Zm.c;have atz:=Zm.n;refine Wl<|aT q3<|av (pt (M.pl o))<|av (pt (M.pl o))<|av (pf (M.pl o) 18)<|Lv (.slice (M.ml o).s.na ((M.ml o).s.nn) ((M.ml o).s.nc)) (aL WA.aH 18)<|av (au (((M.ml o).s.nn:Nat):Int))<|Lv (.bool (decide (0<(((M.ml o).s.nn:Nat):Int)))) (Fx.RN rfl rfl rfl)<|aC<|Wc (b:=decide (0<(((M.ml o).s.nn:Nat):Int))) rfl (fun c51 => ?_)<|fun c51 => ?_
  ·have c51:=h_ c51;obtain⟨Xq,ain⟩ : ∃ r,r=x.node % (M.ml o).s.nn:=⟨_,rfl⟩;have aqi:Xq<(M.ml o).s.nn:=(by rw[ain]; exact K_ _ (by omega));refine xR<|eG q3<|aW (pt (M.pl o))<|aW (pt (M.pl o))<|aW (pf (M.pl o) 18)<|Qv (.slice (M.ml o).s.na ((M.ml o).s.nn) ((M.ml o).s.nc)) (fun E D=>aL (WA.aH.dr D) 18)<|Qv (pf G 4) (fun E D=>je q1 4)<|Qv (.int .u8 (x.node:Int)) (fun E D=>aL (m23.aH.dr D) 4)<|Qv (au x.node) (fun E D=>dA rfl rfl (by kernel_rfl) Tryz.underlying3 (iI (by omega) rfl))<|eG q3<|aW (pt (M.pl o))<|aW (pt (M.pl o))<|aW (pf (M.pl o) 18)<|Qv (.slice (M.ml o).s.na ((M.ml o).s.nn) ((M.ml o).s.nc)) (fun E D=>aL (WA.aH.dr D) 18)<|aW (au (((M.ml o).s.nn:Nat):Int))<|Qv (au Xq) (fun E D=>Fx.wX rfl rfl rfl (by omega) (DK ain)) ?_;obtain⟨JO,Ji⟩:=oh.addr (by omega);have oF:Fx.Own w3 B 61 56 (.slice (some ⟨JO,0,none⟩) ((M.ml o).s.nn) ((M.ml o).s.nc)) ((M.ml o).s.nn) (JM (M.ml o)):=oh.dL (M_ (fun q=>Value.slice q ((M.ml o).s.nn) ((M.ml o).s.nc)) Ji);refine Qv (pf JO (56*Xq)) (fun E D=>dh 56 (hx:=(rfl.trans (M_ (fun q=>Value.slice q ((M.ml o).s.nn) ((M.ml o).s.nc)) Ji))))<|aW (pf JO (56*Xq))<|Qv (aD ((M.ml o).id Xq)) (fun E D=>aL (oF.aH.dr D) (56*Xq) (Fx.fO (k:=Xq) (j:=0) (by omega) (by omega) rfl))<|aW (aD ((M.ml o).id Xq))<|Qn ?_;rintro _ ⟨qd,rfl⟩;obtain⟨wq2,sJ⟩ : ∃ E,E=World.drewN w3 qd:=⟨_,rfl⟩;rw[<- sJ];have s5:Stp w3.heap.size w3 wq2:=(by rw[sJ]; exact Sb (jM w3 qd));have⟨nQ,oq,qQ,rQ,b5⟩:=uj s5.old m23 m24 om oF b4;clear sJ;have nJ:Fx.Own wq2 B 61 56 (.slice (M.ml o).s.na ((M.ml o).s.nn) ((M.ml o).s.nc)) ((M.ml o).s.nn) (JM (M.ml o)):=rQ.dL (M_ (fun q=>Value.slice q ((M.ml o).s.nn) ((M.ml o).s.nc)) Ji.symm);exact vK ⟨((M.ml o).id Xq),(hU Xq aqi),q1,q2,q4,Fx.ic,nQ,oq,qQ,b5⟩
  have c51:=j_ c51;refine Wk ?_;exact vK ⟨0,⟨by decide,by decide⟩,q1,q2,q4,Fx.ic,m23,m24,om,b4⟩
 rintro f2 w4 ⟨nd,Pw,Y,I,F,h4,mO,nK,K,J⟩;refine Ws<|ay<|Lv (pf A 8) (je F 8)<|Lv (.int .u8 (d.kind)) (aL K.aH 8)<|aC<|Wb<|ay ?_;by_cases c73:d.kind=1
 ·refine Lv aG (fu c73)<|av aG<|aC<|aN<|Ws<|Ws ?_;obtain⟨r76,aio⟩ : ∃ r,r=x.node % 2:=⟨_,rfl⟩;have axb:r76<2:=by rw[aio]; exact K_ _ (by omega)
  refine Wl<|Lv (pf G 4) (je Y 4)<|Lv (.int .u8 (x.node:Int)) (aL mO.aH 4)<|Lv (.int .u8 (r76:Int)) (Fx.wX rfl rfl rfl (by omega) (DK aio)) ?_;by_cases c77:(r76:Int)=1
  ·refine Lv aG (fu c77)<|aC<|aN<|Wl<|aT h4<|Lv (pf A 9) (je F 9)<|jd K 9 (aD nd) fun w5 rR s6 z3 => ?_;obtain⟨L,eV1⟩ : ∃ V:EvM,V=⟨d.o,d.seq,d.deps,d.kind,nd,d.dst,d.aS,d.req,d.of⟩:=⟨_,rfl⟩;have Lu:gU L:=(by rw[eV1]; exact⟨t.o,t.seq,t.deps,t.kind,Pw,t.dst,t.aS,t.req,t.of⟩);have aqk:L.o=(o:Int)+1/\L.seq=(M.ml o).s.known o+1/\L.deps=(M.ml o).s.known:=(by rw[eV1]; exact hd0);have aql:oz L:=(by rw[eV1]; exact⟨X.aS,X.req⟩);have nR:aQ w5 A 14 (bU L) 32:=rR.congr (fun j C=>by rw[eV1]; exact Ei _ _ j C);have fV:=gZ s6 K.ty;have sw:=kF fV mO;have vL:=nK.cZ s6 (by omega);have b7:=s6.below J J.size (by omega);refine aC<|Wl<|Lv (pf G 6) (je Y 6)<|Lv (.int .u16 (x.aS:Int)) (aL sw.aH 6)<|Lv (au x.aS) (dA rfl rfl (by kernel_rfl) Tryz.underlying2 (iI (by omega) rfl))<|Lv (pf A 11) (je F 11)<|jd nR 11 (au x.aS) fun w6 rA s7 z4 => ?_;obtain⟨V2,eV2⟩ : ∃ V:EvM,V=⟨L.o,L.seq,L.deps,L.kind,L.node,L.dst,(x.aS:Int),L.req,L.of⟩:=⟨_,rfl⟩;have aqm:gU V2:=(by rw[eV2]; exact⟨Lu.o,Lu.seq,Lu.deps,Lu.kind,Lu.node,Lu.dst,(show wF (x.aS:Int)from⟨by omega,by omega⟩),Lu.req,Lu.of⟩);have aqn:V2.o=(o:Int)+1/\V2.seq=(M.ml o).s.known o+1/\V2.deps=(M.ml o).s.known:=(by rw[eV2]; exact aqk);have aqo:oz V2:=(by rw[eV2]; exact⟨by show(x.aS:Int)<=65536; omega,aql.req⟩);have qU:aQ w6 A 14 (bU V2) 32:=rA.congr (fun j C=>by rw[eV2]; exact FL _ _ j C);have tV:=vL.cZ s7 (by omega);have b8:=s7.below b7 b7.size (by omega);refine Ln<|bQ<|sN<|ay<|Lv (.agg (aA 14 (bU V2))) (fP qU.aH 0 (ha:=F))<|fA tV 0 (ha:=I) (h1:=(jf _)) fun w7 rD s8 z5 => ?_;have rE:aQ w7 U 14 (bU V2) 32:=aU rD;have qV:=qU.cZ s8 (by omega);have b9:=s8.below b8 b8.size (by omega);refine aC (Wr (⟨.agg (aA 14 (bU V2)),rV Tryz.results38 ⟨_,I,aX rE.aH (by kernel_rfl) (by kernel_rfl)⟩,?_⟩));exact⟨V2,aqm,aqo,by rw[<- eo]; exact aqn,rfl,b9⟩
  refine Lv aF (fQ c77)<|aC<|aK<|Wk<|sN<|Wl<|Lv (pf G 6) (je Y 6)<|Lv (.int .u16 (x.aS:Int)) (aL mO.aH 6)<|Lv (au x.aS) (dA rfl rfl (by kernel_rfl) Tryz.underlying2 (iI (by omega) rfl))<|Lv (pf A 11) (je F 11)<|jd K 11 (au x.aS) fun w8 qw s9 z6 => ?_;obtain⟨V3,eV3⟩ : ∃ V:EvM,V=⟨d.o,d.seq,d.deps,d.kind,d.node,d.dst,(x.aS:Int),d.req,d.of⟩:=⟨_,rfl⟩;have aqp:gU V3:=by rw[eV3]; exact⟨t.o,t.seq,t.deps,t.kind,t.node,t.dst,(show wF (x.aS:Int)from⟨by omega,by omega⟩),t.req,t.of⟩
  have aqr:V3.o=(o:Int)+1/\V3.seq=(M.ml o).s.known o+1/\V3.deps=(M.ml o).s.known:=by rw[eV3]; exact hd0
  have aqs:oz V3:=by rw[eV3]; exact⟨by show(x.aS:Int)<=65536; omega,X.req⟩
  have qx:aQ w8 A 14 (bU V3) 32:=qw.congr (fun j C=>by rw[eV3]; exact FL _ _ j C);have qF:=nK.cZ s9 (by omega);have b10:=s9.below J J.size (by omega);refine Ln<|bQ<|sN<|ay<|Lv (.agg (aA 14 (bU V3))) (fP qx.aH 0 (ha:=F))<|fA qF 0 (ha:=I) (h1:=(jf _)) fun w9 vM s10 z7 => ?_;have oo:aQ w9 U 14 (bU V3) 32:=aU vM;have m64:=qx.cZ s10 (by omega);have b11:=s10.below b10 b10.size (by omega);refine aC (Wr (⟨.agg (aA 14 (bU V3)),rV Tryz.results38 ⟨_,I,aX oo.aH (by kernel_rfl) (by kernel_rfl)⟩,?_⟩));exact⟨V3,aqp,aqs,by rw[<- eo]; exact aqr,rfl,b11⟩
 refine Lv aF (fQ c73)<|av aF<|aC<|aK<|ay ?_;by_cases c85:d.kind=2
 ·refine Lv aG (fu c85)<|av aG<|aC<|aN<|ay<|aT h4<|Lv (pf A 9) (je F 9)<|jd K 9 (aD nd) fun sV wB s11 z8 => ?_;obtain⟨P,eV4⟩ : ∃ V:EvM,V=⟨d.o,d.seq,d.deps,d.kind,nd,d.dst,d.aS,d.req,d.of⟩:=⟨_,rfl⟩;have Lx:gU P:=by rw[eV4]; exact⟨t.o,t.seq,t.deps,t.kind,Pw,t.dst,t.aS,t.req,t.of⟩
  have aqt:P.o=(o:Int)+1/\P.seq=(M.ml o).s.known o+1/\P.deps=(M.ml o).s.known:=by rw[eV4]; exact hd0
  have aqu:oz P:=by rw[eV4]; exact⟨X.aS,X.req⟩
  have vN:aQ sV A 14 (bU P) 32:=wB.congr (fun j C=>by rw[eV4]; exact Ei _ _ j C);have ze:=gZ s11 K.ty;have wC:=kF ze mO;have wD:=nK.cZ s11 (by omega);have b12:=s11.below J J.size (by omega);refine aC<|Wl<|Lv (pf G 6) (je Y 6)<|Lv (.int .u16 (x.aS:Int)) (aL wC.aH 6)<|Lv (au x.aS) (dA rfl rfl (by kernel_rfl) Tryz.underlying2 (iI (by omega) rfl))<|Lv (au ((x.aS:Int)+1)) eO<|Lv (pf A 11) (je F 11)<|jd vN 11 (au ((x.aS:Int)+1)) fun EC tF s12 z9 => ?_;obtain⟨V5,eV5⟩ : ∃ V:EvM,V=⟨P.o,P.seq,P.deps,P.kind,P.node,P.dst,(x.aS:Int)+1,P.req,P.of⟩:=⟨_,rfl⟩;have aqv:gU V5:=by rw[eV5]; exact⟨Lx.o,Lx.seq,Lx.deps,Lx.kind,Lx.node,Lx.dst,(show wF ((x.aS:Int)+1)from⟨by omega,by omega⟩),Lx.req,Lx.of⟩
  have aqw:V5.o=(o:Int)+1/\V5.seq=(M.ml o).s.known o+1/\V5.deps=(M.ml o).s.known:=by rw[eV5]; exact aqt
  have aqx:oz V5:=by rw[eV5]; exact⟨by show(x.aS:Int)+1<=65536; omega,aqu.req⟩
  have uI:aQ EC A 14 (bU V5) 32:=tF.congr (fun j C=>by rw[eV5]; exact FL _ _ j C);have xq:=wD.cZ s12 (by omega);have b13:=s12.below b12 b12.size (by omega);refine Ln<|bQ<|sN<|ay<|Lv (.agg (aA 14 (bU V5))) (fP uI.aH 0 (ha:=F))<|fA xq 0 (ha:=I) (h1:=(jf _)) fun zL vO s13 z10 => ?_;have yN:aQ zL U 14 (bU V5) 32:=aU vO;have xE:=uI.cZ s13 (by omega);have b14:=s13.below b13 b13.size (by omega);refine aC (Wr (⟨.agg (aA 14 (bU V5)),rV Tryz.results38 ⟨_,I,aX yN.aH (by kernel_rfl) (by kernel_rfl)⟩,?_⟩));exact⟨V5,aqv,aqx,by rw[<- eo]; exact aqw,rfl,b14⟩
 refine Lv aF (fQ c85)<|av aF<|aC<|aK<|ay ?_;by_cases c94:d.kind=3
 ·refine Lv aG (fu c94)<|av aG<|aC<|aN<|ay<|aT h4<|Lv (pf A 9) (je F 9)<|jd K 9 (aD nd) fun DV xW BJ z11 => ?_;obtain⟨Q,eV6⟩ : ∃ V:EvM,V=⟨d.o,d.seq,d.deps,d.kind,nd,d.dst,d.aS,d.req,d.of⟩:=⟨_,rfl⟩;have LA:gU Q:=by rw[eV6]; exact⟨t.o,t.seq,t.deps,t.kind,Pw,t.dst,t.aS,t.req,t.of⟩
  have aqy:Q.o=(o:Int)+1/\Q.seq=(M.ml o).s.known o+1/\Q.deps=(M.ml o).s.known:=by rw[eV6]; exact hd0
  have aqz:oz Q:=by rw[eV6]; exact⟨X.aS,X.req⟩
  have xX:aQ DV A 14 (bU Q) 32:=xW.congr (fun j C=>by rw[eV6]; exact Ei _ _ j C);have acR:=gZ BJ K.ty;have xu:=kF acR mO;have xG:=nK.cZ BJ (by omega);have b15:=BJ.below J J.size (by omega);refine aC<|ay<|Lv (pf G 6) (je Y 6)<|Lv (.int .u16 (x.aS:Int)) (aL xu.aH 6)<|Lv (au x.aS) (dA rfl rfl (by kernel_rfl) Tryz.underlying2 (iI (by omega) rfl))<|Lv (au ((x.aS:Int)+1)) eO<|Lv (pf A 11) (je F 11)<|jd xX 11 (au ((x.aS:Int)+1)) fun Du wE s15 z12 => ?_;obtain⟨R,eV7⟩ : ∃ V:EvM,V=⟨Q.o,Q.seq,Q.deps,Q.kind,Q.node,Q.dst,(x.aS:Int)+1,Q.req,Q.of⟩:=⟨_,rfl⟩;have LB:gU R:=by rw[eV7]; exact⟨LA.o,LA.seq,LA.deps,LA.kind,LA.node,LA.dst,(show wF ((x.aS:Int)+1)from⟨by omega,by omega⟩),LA.req,LA.of⟩
  have aqA:R.o=(o:Int)+1/\R.seq=(M.ml o).s.known o+1/\R.deps=(M.ml o).s.known:=by rw[eV7]; exact aqy
  have aqB:oz R:=by rw[eV7]; exact⟨by show(x.aS:Int)+1<=65536; omega,aqz.req⟩
  have xY:aQ Du A 14 (bU R) 32:=wE.congr (fun j C=>by rw[eV7]; exact FL _ _ j C);have aip:=gZ s15 xX.ty;have zM:=kF aip xu;have xZ:=xG.cZ s15 (by omega);have b16:=s15.below b15 b15.size (by omega);refine aC<|Wl<|Lv (pf G 7) (je Y 7)<|Lv (.int .u8 (x.req:Int)) (aL zM.aH 7)<|Lv (aD x.req) (dA rfl rfl (by kernel_rfl) Tryz.underlying28 (jN (by omega) rfl))<|Lv (aD ((x.req:Int)+1)) eO<|Lv (pf A 12) (je F 12)<|jd xY 12 (aD ((x.req:Int)+1)) fun Ow AO s16 z13 => ?_;obtain⟨V8,eV8⟩ : ∃ V:EvM,V=⟨R.o,R.seq,R.deps,R.kind,R.node,R.dst,R.aS,(x.req:Int)+1,R.of⟩:=⟨_,rfl⟩;have aqC:gU V8:=by rw[eV8]; exact⟨LB.o,LB.seq,LB.deps,LB.kind,LB.node,LB.dst,LB.aS,(show kH ((x.req:Int)+1)from⟨by omega,by omega⟩),LB.of⟩
  have aqD:V8.o=(o:Int)+1/\V8.seq=(M.ml o).s.known o+1/\V8.deps=(M.ml o).s.known:=by rw[eV8]; exact aqA
  have aqE:oz V8:=by rw[eV8]; exact⟨aqB.aS,by show(x.req:Int)+1<=256; omega⟩
  have AP:aQ Ow A 14 (bU V8) 32:=AO.congr (fun j C=>by rw[eV8]; exact Wz _ _ j C);have zN:=xZ.cZ s16 (by omega);have b17:=s16.below b16 b16.size (by omega);refine Ln<|bQ<|sN<|ay<|Lv (.agg (aA 14 (bU V8))) (fP AP.aH 0 (ha:=F))<|fA zN 0 (ha:=I) (h1:=(jf _)) fun w16 zO JK z14 => ?_;have AQ:aQ w16 U 14 (bU V8) 32:=aU zO;have Dy:=AP.cZ JK (by omega);have b18:=JK.below b17 b17.size (by omega);refine aC (Wr (⟨.agg (aA 14 (bU V8)),rV Tryz.results38 ⟨_,I,aX AQ.aH (by kernel_rfl) (by kernel_rfl)⟩,?_⟩));exact⟨V8,aqC,aqE,by rw[<- eo]; exact aqD,rfl,b18⟩
 refine Lv aF (fQ c94)<|av aF<|aC<|aK<|ay ?_;by_cases aiq:d.kind=4
 ·refine Lv aG (fu aiq)<|av aG<|aC<|aN<|ay<|Lv (pf G 7) (je Y 7)<|Lv (.int .u8 (x.req:Int)) (aL mO.aH 7)<|Lv (aD x.req) (dA rfl rfl (by kernel_rfl) Tryz.underlying28 (jN (by omega) rfl))<|Lv (aD ((x.req:Int)+1)) eO<|Lv (pf A 12) (je F 12)<|jd K 12 (aD ((x.req:Int)+1)) fun GN BO Md z15 => ?_;obtain⟨S,eV9⟩ : ∃ V:EvM,V=⟨d.o,d.seq,d.deps,d.kind,d.node,d.dst,d.aS,(x.req:Int)+1,d.of⟩:=⟨_,rfl⟩;have LC:gU S:=by rw[eV9]; exact⟨t.o,t.seq,t.deps,t.kind,t.node,t.dst,t.aS,(show kH ((x.req:Int)+1)from⟨by omega,by omega⟩),t.of⟩
  have aqF:S.o=(o:Int)+1/\S.seq=(M.ml o).s.known o+1/\S.deps=(M.ml o).s.known:=by rw[eV9]; exact hd0
  have air:oz S:=by rw[eV9]; exact⟨X.aS,by show(x.req:Int)+1<=256; omega⟩
  have CV:aQ GN A 14 (bU S) 32:=BO.congr (fun j C=>by rw[eV9]; exact Wz _ _ j C);have ais:=gZ Md K.ty;have zS:=kF ais mO;have F5:=nK.cZ Md (by omega);have b19:=Md.below J J.size (by omega);refine aC<|Wl<|Lv (pf G 8) (je Y 8)<|Lv (.int .u8 (x.of:Int)) (aL zS.aH 8)<|Lv (aD x.of) (dA rfl rfl (by kernel_rfl) Tryz.underlying28 (jN (by omega) rfl))<|Lv (aD ((x.of:Int)+1)) eO<|Lv (pf A 13) (je F 13)<|jd CV 13 (aD ((x.of:Int)+1)) fun Td D6 s19 z16 => ?_;obtain⟨Xr,Zn⟩ : ∃ V:EvM,V=⟨S.o,S.seq,S.deps,S.kind,S.node,S.dst,S.aS,S.req,(x.of:Int)+1⟩:=⟨_,rfl⟩;have ait:gU Xr:=by rw[Zn]; exact⟨LC.o,LC.seq,LC.deps,LC.kind,LC.node,LC.dst,LC.aS,LC.req,(show kH ((x.of:Int)+1)from⟨by omega,by omega⟩)⟩
  have aiu:Xr.o=(o:Int)+1/\Xr.seq=(M.ml o).s.known o+1/\Xr.deps=(M.ml o).s.known:=by rw[Zn]; exact aqF
  have aiv:oz Xr:=by rw[Zn]; exact⟨air.aS,air.req⟩
  have F6:aQ Td A 14 (bU Xr) 32:=D6.congr (fun j C=>by rw[Zn]; exact aif _ _ j C);have wM:=F5.cZ s19 (by omega);have b20:=s19.below b19 b19.size (by omega);refine Ln<|bQ<|sN<|ay<|Lv (.agg (aA 14 (bU Xr))) (fP F6.aH 0 (ha:=F))<|fA wM 0 (ha:=I) (h1:=(jf _)) fun Qd yg s20 z17 => ?_;have wN:aQ Qd U 14 (bU Xr) 32:=aU yg;have pY:=F6.cZ s20 (by omega);have L9:=s20.below b20 b20.size (by omega);refine aC (Wr (⟨.agg (aA 14 (bU Xr)),rV Tryz.results38 ⟨_,I,aX wN.aH (by kernel_rfl) (by kernel_rfl)⟩,?_⟩));exact⟨Xr,ait,aiv,by rw[<- eo]; exact aiu,rfl,L9⟩
 refine Lv aF (fQ aiq)<|av aF<|aC<|aK<|ay ?_;by_cases aiw:d.kind=5
 ·refine Lv aG (fu aiw)<|av aG<|aC<|aN<|ay<|aT h4<|Lv (pf A 9) (je F 9)<|jd K 9 (aD nd) fun Tg oZ s21 z18 => ?_;obtain⟨N,Zo⟩ : ∃ V:EvM,V=⟨d.o,d.seq,d.deps,d.kind,nd,d.dst,d.aS,d.req,d.of⟩:=⟨_,rfl⟩;have Di:gU N:=by rw[Zo]; exact⟨t.o,t.seq,t.deps,t.kind,Pw,t.dst,t.aS,t.req,t.of⟩
  have aix:N.o=(o:Int)+1/\N.seq=(M.ml o).s.known o+1/\N.deps=(M.ml o).s.known:=by rw[Zo]; exact hd0
  have aiy:oz N:=by rw[Zo]; exact⟨X.aS,X.req⟩
  have qJ:aQ Tg A 14 (bU N) 32:=oZ.congr (fun j C=>by rw[Zo]; exact Ei _ _ j C);have aiz:=gZ s21 K.ty;have qb:=kF aiz mO;have rG:=nK.cZ s21 (by omega);have Ma:=s21.below J J.size (by omega);refine aC<|ay<|Lv (pf G 6) (je Y 6)<|Lv (.int .u16 (x.aS:Int)) (aL qb.aH 6)<|Lv (au x.aS) (dA rfl rfl (by kernel_rfl) Tryz.underlying2 (iI (by omega) rfl))<|Lv (au ((x.aS:Int)+1)) eO<|Lv (pf A 11) (je F 11)<|jd qJ 11 (au ((x.aS:Int)+1)) fun w21 sK s22 z19 => ?_;obtain⟨O,Zp⟩ : ∃ V:EvM,V=⟨N.o,N.seq,N.deps,N.kind,N.node,N.dst,(x.aS:Int)+1,N.req,N.of⟩:=⟨_,rfl⟩;have Dj:gU O:=by rw[Zp]; exact⟨Di.o,Di.seq,Di.deps,Di.kind,Di.node,Di.dst,(show wF ((x.aS:Int)+1)from⟨by omega,by omega⟩),Di.req,Di.of⟩
  have aiA:O.o=(o:Int)+1/\O.seq=(M.ml o).s.known o+1/\O.deps=(M.ml o).s.known:=by rw[Zp]; exact aix
  have aaA:oz O:=by rw[Zp]; exact⟨by show(x.aS:Int)+1<=65536; omega,aiy.req⟩
  have vg:aQ w21 A 14 (bU O) 32:=sK.congr (fun j C=>by rw[Zp]; exact FL _ _ j C);have aiB:=gZ s22 qJ.ty;have rH:=kF aiB qb;have uy:=rG.cZ s22 (by omega);have SS:=s22.below Ma Ma.size (by omega);refine aC ?_;obtain⟨W,er6⟩ : ∃ r,r=x.dst % 6:=⟨_,rfl⟩;have hr6:W<6:=by rw[er6]; exact K_ _ (by omega)
  refine Wl<|Lv (pf G 5) (je Y 5)<|Lv (.int .u8 (x.dst:Int)) (aL rH.aH 5)<|Lv (au x.dst) (dA rfl rfl (by kernel_rfl) Tryz.underlying3 (iI (by omega) rfl))<|Lv (au W) (Fx.wX rfl rfl rfl (by omega) (DK er6))<|Lv (au ((W:Int)+1)) eO<|Lv (pf A 10) (je F 10)<|jd vg 10 (au ((W:Int)+1)) fun w22 zf s23 z20 => ?_;obtain⟨Xt,Zq⟩ : ∃ V:EvM,V=⟨O.o,O.seq,O.deps,O.kind,O.node,(W:Int)+1,O.aS,O.req,O.of⟩:=⟨_,rfl⟩;have aiD:gU Xt:=by rw[Zq]; exact⟨Dj.o,Dj.seq,Dj.deps,Dj.kind,Dj.node,(show wF ((W:Int)+1)from⟨by omega,by omega⟩),Dj.aS,Dj.req,Dj.of⟩
  have aiE:Xt.o=(o:Int)+1/\Xt.seq=(M.ml o).s.known o+1/\Xt.deps=(M.ml o).s.known:=by rw[Zq]; exact aiA
  have aiF:oz Xt:=by rw[Zq]; exact⟨aaA.aS,aaA.req⟩
  have vk:aQ w22 A 14 (bU Xt) 32:=zf.congr (fun j C=>by rw[Zq]; exact Wy _ _ j C);have BP:=uy.cZ s23 (by omega);have SV:=s23.below SS SS.size (by omega);refine Ln<|bQ<|sN<|ay<|Lv (.agg (aA 14 (bU Xt))) (fP vk.aH 0 (ha:=F))<|fA BP 0 (ha:=I) (h1:=(jf _)) fun w23 xH s24 z21 => ?_;have uz:aQ w23 U 14 (bU Xt) 32:=aU xH;have yh:=vk.cZ s24 (by omega);have b25:=s24.below SV SV.size (by omega);refine aC (Wr (⟨.agg (aA 14 (bU Xt)),rV Tryz.results38 ⟨_,I,aX uz.aH (by kernel_rfl) (by kernel_rfl)⟩,?_⟩));exact⟨Xt,aiD,aiF,by rw[<- eo]; exact aiE,rfl,b25⟩
 refine Lv aF (fQ aiw)<|av aF<|aC<|aK<|ay ?_;by_cases aiG:d.kind=6
 ·refine Lv aG (fu aiG)<|av aG<|aC<|aN ?_;obtain⟨W,er6⟩ : ∃ r,r=x.dst % 6:=⟨_,rfl⟩;have hr6:W<6:=by rw[er6]; exact K_ _ (by omega)
  refine Wl<|Lv (pf G 5) (je Y 5)<|Lv (.int .u8 (x.dst:Int)) (aL mO.aH 5)<|Lv (au x.dst) (dA rfl rfl (by kernel_rfl) Tryz.underlying3 (iI (by omega) rfl))<|Lv (au W) (Fx.wX rfl rfl rfl (by omega) (DK er6))<|Lv (au ((W:Int)+1)) eO<|Lv (pf A 10) (je F 10)<|jd K 10 (au ((W:Int)+1)) fun w24 yj Z8 z22 => ?_;obtain⟨Xu,Zr⟩ : ∃ V:EvM,V=⟨d.o,d.seq,d.deps,d.kind,d.node,(W:Int)+1,d.aS,d.req,d.of⟩:=⟨_,rfl⟩;have aiH:gU Xu:=by rw[Zr]; exact⟨t.o,t.seq,t.deps,t.kind,t.node,(show wF ((W:Int)+1)from⟨by omega,by omega⟩),t.aS,t.req,t.of⟩
  have aiI:Xu.o=(o:Int)+1/\Xu.seq=(M.ml o).s.known o+1/\Xu.deps=(M.ml o).s.known:=by rw[Zr]; exact hd0
  have aiJ:oz Xu:=by rw[Zr]; exact⟨X.aS,X.req⟩
  have uD:aQ w24 A 14 (bU Xu) 32:=yj.congr (fun j C=>by rw[Zr]; exact Wy _ _ j C);have Jc:=nK.cZ Z8 (by omega);have b26:=Z8.below J J.size (by omega);refine Ln<|bQ<|sN<|ay<|Lv (.agg (aA 14 (bU Xu))) (fP uD.aH 0 (ha:=F))<|fA Jc 0 (ha:=I) (h1:=(jf _)) fun w25 EN s26 z23 => ?_;have AX:aQ w25 U 14 (bU Xu) 32:=aU EN;have Gg:=uD.cZ s26 (by omega);have b27:=s26.below b26 b26.size (by omega);refine aC (Wr (⟨.agg (aA 14 (bU Xu)),rV Tryz.results38 ⟨_,I,aX AX.aH (by kernel_rfl) (by kernel_rfl)⟩,?_⟩));exact⟨Xu,aiH,aiJ,by rw[<- eo]; exact aiI,rfl,b27⟩
 refine Lv aF (fQ aiG)<|av aF<|aC<|aK<|Wk<|bQ<|sN<|ay<|Lv (.agg (aA 14 (bU d))) (fP K.aH 0 (ha:=F))<|fA nK 0 (ha:=I) (h1:=(jf _)) fun w26 BR s27 z24 => ?_;have zT:aQ w26 U 14 (bU d) 32:=aU BR;have KJ:=K.cZ s27 (by omega);have b28:=s27.below J J.size (by omega);refine aC (Wr (⟨.agg (aA 14 (bU d)),rV Tryz.results38 ⟨_,I,aX zT.aH (by kernel_rfl) (by kernel_rfl)⟩,?_⟩));exact⟨d,t,X,by rw[<- eo]; exact hd0,rfl,b28⟩
theorem Rt.Ra{L:fZ}{v:EvM}(h:bK L v=0):bR v=true:=by
 unfold bK at h;split at h; · cases h
 rename_i h1; simpa using h1
structure Rt.DoR(o:Nat)(x:Gp)(M M':WM)(v:EvM):Prop where
 n:M'.n=M.n
 oth : ∀ q,q≠o->M'.ml q=M.ml q
 c:(v=zeroE/\M'.an=M.an/\M'.ev=M.ev/\((M'.ml o).core=(M.ml o).core\/x.meet=true/\(M'.ml o).core=Fu M.ev M.an (M.ml (x.other % M.n)).s.known (M.ml o).core))\/(x.meet=false/\M'.an=M.an+1/\M'.ev=aI M.ev M.an v/\bK (M.ml o).core v=0/\(M'.ml o).core=dN (M.ml o).core v/\v.o=(o:Int)+1/\v.seq=(M.ml o).s.known o+1/\v.deps=(M.ml o).s.known)
theorem Rt.Cv{L:fZ}{v:EvM}(h:bK L v=0):(dN L v).known=aI L.known (aO v) (L.known (aO v)+1):=by
 rcases rO L v with ⟨_,a⟩|⟨h1,_⟩
 ·exact a
 exact N_ h h1
theorem Rt.LD:gU zeroE:=by
 have z:kH 0:=⟨by decide,by decide⟩;have y:wF 0:=⟨by decide,by decide⟩;exact⟨y,z,fun _ _=>z,⟨by decide,by decide⟩,z,y,y,z,z⟩
def Xv(p:Nat)(M:WM)(k:Nat):Prop:=k=p\/(Value.slice M.la M.n M.lc).ownBlock=some k\/(Value.slice M.aa M.an M.ac).ownBlock=some k
def Zt(w:World)(p:Nat)(M a:WM):Prop := ∀ k,Xv p a k->Xv p M k\/w.heap.size<=k
theorem oC.ge{w:World}{B p T:Nat}{M:WM}(h:oC w B p M T) : ∀ k,Xv p M k->B<=k/\k<w.heap.size:=fun k b=>by
 rcases b with rfl|e|e
 ·exact⟨h.pB,h.c.lt⟩
 ·exact h.l.ge e
 ·exact h.a.ge e
theorem oC.NQ{w w':World}{B p T:Nat}{M:WM}(h:oC w B p M T)(a:B<=w.heap.size)(c:jT (Xv p M) w w'):Below B w w':=Fx.jT.below (Below.refl B w) c (fun k b=>(h.ge k b).1) a
theorem oC.BF{w w':World}{B p T:Nat}{M:WM}(h:oC w B p M T)(d:jT (Xv p M) w w'):iU [44,72,32] w w':=Fx.iU.R6 d fun k b=>by
 rcases b with rfl|e|e
 ·exact⟨_,h.c.ty,by decide⟩
 ·exact⟨_,h.l.ty e,by decide⟩
 ·exact⟨_,h.a.ty e,by decide⟩
theorem Zt.app{w b:World}{p g:Nat}{M a:WM}(i:(Value.slice M.aa M.an M.ac).ownBlock=some g\/g=b.heap.size)(l:w.heap.size<=b.heap.size)(h1:a.la=M.la:=by rfl)(c:a.n=M.n:=by rfl)(d:a.lc=M.lc:=by rfl)(f:(Value.slice a.aa a.an a.ac).ownBlock=some g:=by rfl):Zt w p M a:=fun k j=>by
 rcases j with h|h|h
 ·exact .inl (.inl h)
 ·rw[h1,c,d]at h; exact .inl (.inr (.inl h))
 ·have e:g=k:=C_ (f.symm.trans h)
  rcases i with h5|h5
  ·exact .inl (.inr (.inr (e ▸ h5)))
  ·exact .inr (by omega)
theorem oC.mono{w:World}{B p T T':Nat}{M:WM}(h:oC w B p M T)(a:T<=T'):oC w B p M T' := { h with inv:=fun i b=>(h.inv i b).mono a }
set_option maxRecDepth 20000 in
set_option maxHeartbeats 2000000 in
theorem aiK(M:WM)(B p T:Nat)(x:Gp)(w:World)(d:oC w B p M T)(hB:B<=w.heap.size)(hx:Ii x)(han:M.an<=60)(hT:T<=890000) :
 Calls Tryz.prog 13 #[(pt p),.agg (aA 9 (Gq x))] w fun e w' => ∃ v,e = .returned (.agg (aA 14 (bU v)))/\gU v /\ ∃ O,oC w' B p O (T+3660)/\DoR (x.who % M.n) x M O v/\O.an<=M.an+1/\(x.meet=true->O.an=M.an)/\jT (Xv p M) w w'/\Zt w p M O:=by
 have hWc:=d.c;have hWl:=d.l;have hWa:=d.a;have hWg:=d.g;have hn1:=d.n1;have hn6:=d.n6;have hpB:=d.pB;have lpp:p<w.heap.size:=hWc.lt;have hxw:=hx.who;have hxo:=hx.other;have hxk:=hx.kind;have hxn:=hx.node;have hxt:=hx.dst;have hxa:=hx.aS;have hxr:=hx.req;have hxf:=hx.of;refine Kent Tryz.func13 94 ?_;refine ay<|qD fun g1 w1 lK m1 s1 z1 => ?_;have⟨m2,f,m4,m5,m6⟩:=uj s1.old hWc hWl hWa hWg d;have b1:=(uM (Xv p M) w).then s1 (.inr (uM (Xv p M) w).size);have sU:w.heap.size<=g1:=by rw[lK]; exact(uM (Xv p M) w).size
 have nP:=bZ lK hWc.lt;have uq:=m1.lt;refine uh 14 (fun b=>if b<1 then au 0 else if b<8 then aD 0 else if b<9 then .int .u8 (0)else if b<10 then aD 0 else if b<12 then au 0 else aD 0) fun R w2 ad m7 s2 z2 => ?_;have⟨m8,m9,m10,m11,m12,m13⟩:=um s2.old m2 f m4 m5 m6 m1;have b2:=b1.then s2 (.inr b1.size);have pV:=iV ad b1.size;have KW:=bZ ad m2.lt;have FH:(.slice M.aa (M.an) (M.ac):Value).ownBlock≠some R:=by rw[ad]; exact m4.jm (A_ _)
 have Aa:=bZ ad m1.lt;have zy:=m7.lt;refine aC<|Ws ?_;obtain⟨o,Q⟩ : ∃ r,r=x.who % M.n:=⟨_,rfl⟩;have ho:o<M.n:=by rw[Q]; exact K_ _ (by omega)
 refine xR<|aW (pt g1)<|Qv (.int .u8 (x.who:Int)) (fun D C=>aL (m13.aH.dr C) 0)<|Qv (au x.who) (fun D C=>dA rfl rfl (by kernel_rfl) Tryz.underlying3 (iI (by omega) rfl))<|aW (pt p)<|aW (pt p)<|aW (pt p)<|Qv (.slice M.la (M.n) (M.lc)) (fun D C=>aL (m8.aH.dr C) 0)<|aW (au M.n)<|Qv (au o) (fun D C=>Fx.wX rfl rfl rfl (by omega) (DK Q))<|aW (au o)<|Qn ?_;rintro _ ⟨qd,rfl⟩;obtain⟨Dv,oV⟩ : ∃ D,D=World.drewN w2 qd:=⟨_,rfl⟩;rw[<- oV];have s3:Stp w2.heap.size w2 Dv:=by rw[oV]; exact Sb (jM w2 qd)
 have⟨m14,m15,m16,m17,m18,Y,m20⟩:=jQ s3.old m8 m9 m10 m11 m12 m13 m7;have Z:=b2.then s3 (.inr b2.size);clear oV;refine sN<|Ws<|ay<|av (pf g1 1) ?_;by_cases H:x.meet=true
 ·refine Lv aG (aL Y.aH 1 ((show _=Value.bool x.meet from rfl).trans (M_ Value.bool H)))<|aC<|aN<|Ws ?_;obtain⟨A,aeu⟩ : ∃ r,r=x.other % M.n:=⟨_,rfl⟩;have axd:A<M.n:=by rw[aeu]; exact K_ _ (by omega)
  have Zl:=m17 A (by omega);have FM:=Zl.c;have Zm:=m17 o (by omega);refine jV [0,1,2,4,5,6,7,9,12,13,14,16,17,18,20,23,24,25,3,8,10,11,15,19,21,22,26,27,28,29,30,31,32,33,34,35,36,37] [0,0,0,1,0,0,0,0,4,0,0,4,0,0,0,4,0,0,0,4,0,4,0,0,0,0,4,0,0,0,4,0,0,0,4,2,0,3] [(37,3,[3]),(35,8,[11,10,8]),(37,8,[8]),(35,11,[11]),(37,11,[11]),(35,15,[15]),(37,15,[15]),(35,19,[34,33,32,31,30,29,19]),(37,19,[19]),(35,21,[34,33,32,31,30,29,28,22,21]),(37,21,[21]),(35,26,[34,33,32,31,30,29,28,27,26]),(37,26,[26]),(35,30,[34,33,32,31,30]),(37,30,[30]),(35,34,[34]),(37,34,[34]),(36,35,[35]),(37,35,[35])] fun pQ dR iG => ?_;have s4:Stp Dv.heap.size Dv pQ:=Sb dR;have⟨G,m22,m23,m24,nk,og,oh,om⟩:=ng dR m14 m15 m16 m17 Y m20 FM Zm;have b4:=Z.then s4 (.inr Z.size);refine bf (pt p)<|bf (pt p)<|bf (pt p)<|bf (au o)<|bf (pt p)<|bf (pt p)<|bf (pt p)<|bf (au o)<|bf (pt p)<|bf (pt p)<|bf (pf p 1)<|bf (pt p)<|bf (pt p)<|bf (pt p)<|bf (pf g1 2)<|bf (pt p)<|bf (pt p)<|bf (pt p)<|Rd (v := .slice M.la (M.n) (M.lc)) (by rfl) (by rfl) (uN _) (fun D C=>bF (x:=JR (.slice M.la (M.n) (M.lc)) (.slice M.aa (M.an) (M.ac))) rfl rfl (by kernel_rfl) (G.aH.below C (by have:=G.lt; omega)) (i:=0) (by omega) (by omega) rfl) ?_;refine Rs (.slice M.la (M.n) (M.lc)) (aL G.aH 0) ?_;obtain⟨S,J⟩:=m22.addr (by omega);have nI:Fx.Own pQ B 72 1 (bM S M.n M.lc) M.n (Ie M.pl):=m22.dL (M_ (fun q=>Value.slice q M.n M.lc) J);refine Rp (pf S o) (fun _=>dh 1 (hx:=(rfl.trans (M_ (fun q=>Value.slice q (M.n) (M.lc)) J))))<|Rs (pt (M.pl o)) (aL nI.aH o) ?_;refine Rs (.slice M.aa (M.an) (M.ac)) (aL G.aH 1) ?_;refine Rs (.slice M.la (M.n) (M.lc)) (aL G.aH 0) ?_;refine Rs (.int .u8 (x.other:Int)) (aL nk.aH 2) ?_;refine Rp (au x.other) (fun D=>dA rfl rfl (by kernel_rfl) Tryz.underlying3 (iI (by omega) rfl))<|Rs (.slice M.la (M.n) (M.lc)) (aL G.aH 0) ?_;refine bf (au M.n)<|Rp (au A) (fun D=>Fx.wX rfl rfl rfl (by omega) (DK aeu))<|Rp (pf S A) (fun _=>dh 1 (hx:=(rfl.trans (M_ (fun q=>Value.slice q (M.n) (M.lc)) J))))<|Rs (pt (M.pl A)) (aL nI.aH A) ?_;refine bf (pt (M.pl A))<|bf (pt (M.pl A))<|bf (pf (M.pl A) 12)<|Rs (.agg (aA 6 (rv .u64 ((M.ml A).s.known)))) (fP oh.aH 12 (fun j W=>lZ _ (by omega) (kr _ W (by omega)))) ?_;refine BA<|mE (YF (M.ml o) B (M.pl o) T M.aa M.an M.ac M.ev ((M.ml A).s.known) _ om (d.inv o (by omega)) m23.arr d.wf d.may d.sm han hT) ?_;rintro e9 w3 ⟨t,f,E,hlc,hI3,hL1,hb1⟩;refine⟨(pt t),E,?_⟩;clear E;have s5:=Sb hb1;have⟨oF,lX,m32,nQ,pU⟩:=uj hb1 G m23 m24 og nI;have b5:=b4.then s5 (.inr b4.size);refine Ln ⟨s5.old,?_⟩;refine Rp (pf S o) (fun _=>dh 1 (hx:=(rfl.trans (M_ (fun q=>Value.slice q (M.n) (M.lc)) J))))<|gQ<|qp pU o (pt t) fun w4 qQ s6 z3 => ?_;have fV:=gZ s6 pU.J2;have⟨qR,oP,rQ,mO,sZ⟩:=sj fV oF lX m32 nQ hL1;have b6:=b5.then s6 (.inl (.inr (.inl (by rw[J]; rfl))));have rR:Fx.Own w4 B 72 1 (bM S M.n M.lc) M.n (Ie (aI M.pl o t)):=qQ.congr (fun F _=>congrFun Wv F);refine Ln<|bS<|ay<|av (.agg (aA 14 (fun b=>if b<1 then au 0 else if b<8 then aD 0 else if b<9 then .int .u8 (0)else if b<10 then aD 0 else if b<12 then au 0 else aD 0)))<|fA mO 0 (h1:=(fun F _=>by show((fun b=>if b<1 then au 0 else if b<8 then aD 0 else if b<9 then .int .u8 (0)else if b<10 then aD 0 else if b<12 then au 0 else aD 0:Nat->Value) F).oneCell'=true; simp only[]; repeat (first|rfl|split))) fun w5 nR s7 z4 => ?_
  have sw:aQ w5 R 14 (fun b=>if b<1 then au 0 else if b<8 then aD 0 else if b<9 then .int .u8 (0)else if b<10 then aD 0 else if b<12 then au 0 else aD 0) 32:=aU nR;have jJ:=gZ s7 mO.ty;have vL:=kF jJ qR;have rA:=oP.cZ s7 FH;have⟨qU,rD,rE⟩:=Dp jJ rQ sZ rR;have b7:=b6.then s7 (.inr pV);refine aC (Wr (sR (⟨.agg (aA 14 (fun b=>if b<1 then au 0 else if b<8 then aD 0 else if b<9 then .int .u8 (0)else if b<10 then aD 0 else if b<12 then au 0 else aD 0)),rV Tryz.results13 ⟨_,rfl,aX sw.aH (by kernel_rfl) (by kernel_rfl)⟩,?_⟩)));have tu:Fx.Own w5 B 72 1 (.slice M.la (M.n) (M.lc)) M.n (Ie (aI M.pl o t)):=rE.dL (M_ (fun q=>Value.slice q M.n M.lc) J.symm);exact⟨zeroE,M_ (fun z=>Ending.returned (Value.agg z)) (Fx.eX (y:=bU zeroE) fun j W=>by rcases j with _|_|_|_|_|_|_|_|_|_|_|_|_|_|j <;> first|rfl|omega),LD,{ M with pl:=aI M.pl o t,ml:=aI M.ml o f },{ c:=vL,l:=tu,a:=rA,g:=qU.put rD,inv:=(fun i U=>by show Inv (aI M.ml o f i).core _; unfold aI; split; exact hI3; exact(d.inv i U).mono (by omega)),wf:=d.wf,may:=d.may,sm:=d.sm,cz:=d.cz.learn (o:=o) (by omega) (L:=(M.ml o).core) rfl (fun q u=>by show(aI M.ml o f q).s.known=_; unfold aI; rw[b_ u]) (by show(aI M.ml o f o).s.known=_; unfold aI; rw[d_ rfl]; exact M_ fZ.known hlc),pB:=hpB,n1:=hn1,n6:=hn6 },(by rw[<- Q]; exact⟨rfl,fun q u=>by show aI M.ml o f q=_; unfold aI; rw[b_ u],.inl ⟨rfl,rfl,rfl,.inr ⟨H,by rw[<- aeu]; show(aI M.ml o f o).core=_; unfold aI; rw[d_ rfl]; exact hlc⟩⟩⟩),(by show M.an<=M.an+1; omega),(fun _=>rfl),b7,fun _ h => .inl h⟩
 rw[U_]at H;refine Lv aF (aL Y.aH 1 ((show _=Value.bool x.meet from rfl).trans (M_ Value.bool H)))<|aC<|aK<|Wk<|sN<|ay<|av (pt p)<|Lv (.agg (aA 9 (Gq x))) (fP Y.aH 0)<|mE (Zk M B p T x _ m18 hx) ?_;rintro e9 w6 ⟨V,hV,hVs,hVd,E,hb2⟩;refine⟨_,E,?_⟩;clear E;rw[<- Q]at hVd;have s8:=Sb hb2;have⟨qV,qw,qx,xD,vM,oo⟩:=um hb2 m14 m15 m16 m17 Y m20;have b8:=Z.then s8 (.inr Z.size);refine uh 14 (fun b=>if b<1 then au 0 else if b<8 then aD 0 else if b<9 then .int .u8 (0)else if b<10 then aD 0 else if b<12 then au 0 else aD 0) fun g3 w7 ae tC s9 z5 => ?_;have⟨m64,wB,vN,wC,wD,tF⟩:=um s9.old qV qw qx xD vM oo;have b9:=b8.then s9 (.inr b8.size);have za:=iV ae b8.size;have aqI:=bZ ae qV.lt;have NR:(.slice M.aa (M.an) (M.ac):Value).ownBlock≠some g3:=by rw[ae]; exact qx.jm (A_ _)
 have⟨aqJ,aqK⟩:=vY ae vM.lt oo.lt;have I4:=tC.lt;refine fA tC 0 (h1:=(jf _)) fun w8 uI s10 z6 => ?_;have uV:aQ w8 g3 14 (bU V) 32:=aU uI;have qE:=gZ s10 tC.ty;have⟨xq,vO⟩:=xS qE m64 wB;have yN:=vN.cZ s10 NR;have⟨uW,xE⟩:=xS qE wC wD;have xW:=tF.cZ s10 (by omega);have b10:=b9.then s10 (.inr za);refine aC<|Ws ?_;have aqL:=uW o (by omega);refine jV [0,1,2,4,3,5,6,7,8,9,10,11,12,13] [0,0,0,4,0,0,4,4,3,0,0,0,0,0] [(8,3,[6,5,3]),(8,6,[6]),(8,7,[7]),(9,8,[8]),(10,8,[9,8]),(11,8,[9,8]),(12,8,[8]),(13,8,[8])] fun CP gJ nO => ?_;have s11:Stp w8.heap.size w8 CP:=Sb gJ;have⟨xX,xu,xG,wE,xY,zM,xZ,AO⟩:=ng gJ xq vO yN uW xE xW uV aqL;have b11:=b10.then s11 (.inr b10.size);refine bf (pt p)<|bf (pt p)<|bf (pt p)<|bf (au o)<|Rs (.slice M.la (M.n) (M.lc)) (aL xX.aH 0) ?_;obtain⟨JO,K⟩:=xu.addr (by omega);have AP:Fx.Own CP B 72 1 (bM JO M.n M.lc) M.n (Ie M.pl):=xu.dL (M_ (fun q=>Value.slice q M.n M.lc) K);refine Rp (pf JO o) (fun _=>dh 1 (hx:=(rfl.trans (M_ (fun q=>Value.slice q (M.n) (M.lc)) K))))<|Rs (pt (M.pl o)) (aL AP.aH o) ?_;refine Rs (.agg (aA 14 (bU V))) (fP xZ.aH 0) ?_;refine gQ<|mE (OP (M.ml o) B (M.pl o) T V _ AO hV (d.inv o (by omega)).w (by omega)) ?_;rintro e9 w9 ⟨t,f,E,hc3,hL2,hb3⟩;refine⟨.tuple #[(pt t),au (bK (M.ml o).core V)],E,?_⟩;clear E;have s12:=Sb hb3;have⟨Aj,zN,zO,AQ,ED,Dy,BO⟩:=jQ hb3 xX xG wE xY zM xZ AP;have b12:=b11.then s12 (.inr b11.size);refine Ln<|bf (.tuple #[(pt t),au (bK (M.ml o).core V)])<|bf (pt t)<|bf (au (bK (M.ml o).core V))<|bf (pt t)<|bf (au (bK (M.ml o).core V))<|bS<|Ws<|ay<|av (au (bK (M.ml o).core V)) ?_;by_cases I:(bK (M.ml o).core V)=0
 ·refine Lv aF (jP I)<|aC<|aK<|Wk<|sN<|ay<|av (pt p)<|av (pt p)<|av (pt p)<|Lv (.slice M.la (M.n) (M.lc)) (aL Aj.aH 0)<|av (au o)<|av (pt t)<|Lv (pf JO o) (dh 1 (hx:=(rfl.trans (M_ (fun q=>Value.slice q (M.n) (M.lc)) K))))<|qp BO o (pt t) fun sV CV s13 z7 => ?_;have wz:=gZ s13 BO.J2;have⟨zS,F5,D6,F6,Gf,wM,yg⟩:=Sc wz Aj zN zO AQ ED Dy hL2;have b13:=b12.then s13 (.inl (.inr (.inl (by rw[K]; rfl))));have wN:Fx.Own sV B 72 1 (bM JO M.n M.lc) M.n (Ie (aI M.pl o t)):=CV.congr (fun F _=>congrFun Wv F);refine aC<|Ws ?_;have uw:Fx.Own sV B 72 1 (.slice M.la (M.n) (M.lc)) M.n (Ie (aI M.pl o t)):=wN.dL (M_ (fun q=>Value.slice q M.n M.lc) K.symm);refine Aw [0,1,2,3,4,5,6,7,8,9,10] [0,0,0,0,1,4,2,2,0,0,3] (iU [32]) vX Fx.iU.trans (fM := [(10,4,[4]),(6,5,[5]),(7,5,[6,5]),(10,5,[5]),(7,6,[6]),(8,6,[6]),(9,6,[6]),(10,6,[6]),(8,7,[7]),(9,7,[7]),(10,7,[7])]) (by kernel_rfl) (by kernel_rfl) (by kernel_rfl) (by kernel_rfl) (by kernel_rfl) fun Rv lW AJ => ?_;have BJ:Stp sV.heap.size sV Rv:=Sb lW;have⟨pY,oZ,qJ,qb,rG,sK,vg,rH⟩:=ng lW zS F5 D6 F6 Gf wM yg uw;have b14:=b13.then BJ (.inr b13.size);refine bf (pt p)<|bf (pt p)<|bf (pt p)<|bf (pf p 1)<|Rd (v := .slice M.aa (M.an) (M.ac)) (by rfl) (by rfl) (vX _) (fun D C=>bF (x:=JR (.slice M.la (M.n) (M.lc)) (.slice M.aa (M.an) (M.ac))) rfl rfl (by kernel_rfl) (pY.kM C (by decide)).aH (i:=1) (by omega) (by omega) rfl) ?_;refine Rs (.agg (aA 14 (bU V))) (fP sK.aH 0) ?_;refine BA<|xI (vs := [(0,.agg (aA 14 (bU V)))]) (s:=14) (zc:=fun b=>if b<1 then au 0 else if b<8 then aD 0 else if b<9 then .int .u8 (0)else if b<10 then aD 0 else if b<12 then au 0 else aD 0) (y:=bI (fun j=>(fun b=>if b<1 then au 0 else if b<8 then aD 0 else if b<9 then .int .u8 (0)else if b<10 then aD 0 else if b<12 then au 0 else aD 0) (j % 14)) (0*14) 14 (bU V)) (by rfl) rfl rfl Tryz.underlying42 (by kernel_rfl) (by rfl) (by rfl) (by kernel_rfl) (by rw[aZ (off:=0*14) (s:=14) (y:=bU V) rfl (bJ _ _) (by rfl)]; rfl) rfl fun g4 EC af uy s15 z8 => ?_;have⟨zf,vk,zh,xH,uz,qK,yh⟩:=jQ s15.old pY oZ qJ rG sK vg rH;have b15:=b14.then s15 (.inr b14.size);have UU:=iV af b14.size;have Yo:=bZ af pY.lt;have Yp:(.slice M.aa (M.an) (M.ac):Value).ownBlock≠some g4:=by rw[af]; exact oZ.jm (A_ _)
  have⟨akB,akC,Yq⟩:=IQ af qb.lt rG.lt sK.lt;have Rx:=uy.lt;refine Ln ⟨Fx.iU.of_below s15.old,?_⟩;refine BA<|yG (B:=B) (s:=14) (bytes:=112) (k:=M.an) (m:=1) (v := .slice M.aa (M.an) (M.ac)) (x:=evX M.ev) (by rfl) rfl rfl rfl Tryz.underlying42 (by kernel_rfl) (by kernel_rfl) rfl rfl vk uy.aH (wL (fun j=>(show(bU V j).oneCell'=true by unfold bU; repeat (first|rfl|split)))) (by omega) (by omega) (by omega) (m_ hB b15.size) fun N ab zL ho1 hg1 sS hlt1 => ?_
  have xC:=yI hg1 vk;have⟨uD,BQ⟩:=xS xC zf zh;have EN:=xH.grown hg1 FH;have akD:R≠N:=fun e=>sS.elim (fun P=>FH (by rw[e]; exact P)) (fun P=>by have:=xH.lt; omega);have AX:=uz.grown hg1 NR;have akE:g3≠N:=fun e=>sS.elim (fun P=>NR (by rw[e]; exact P)) (fun P=>by have:=uz.lt; omega);have⟨EO,Gg⟩:=xS xC qK yh;have yj:Fx.Own zL B 32 14 (bM N (M.an+1) ab) (M.an+1) (evX (aI M.ev M.an V)):=(ho1.congr (fun j W=>aeo j W));have b16:jT (Xv p M) w zL:=Fx.jT.grow b15 hg1 (fun q u => .inl (.inr (.inr u)));refine Ln ⟨xC,?_⟩;refine bf (pt p)<|bf (pf p 1)<|gQ<|jd uD 1 (bM N (M.an+1) ab) fun DV BR s16 z9 => ?_;have zT:aQ DV p 2 (JR (.slice M.la (M.n) (M.lc)) (bM N (M.an+1) ab)) 44:=BR.congr (aib _ _ _);have ze:=gZ s16 uD.ty;have⟨Jj,EP,ER,Gi,Gj,BS⟩:=R9 ze BQ EN AX EO Gg yj;have b17:=b16.then s16 (.inl (.inl rfl));refine Ln<|bS<|ay<|Lv (.agg (aA 14 (bU V))) (fP ER.aH 0)<|fA EP 0 (h1:=(jf _)) fun Du ES JK z10 => ?_;have BU:aQ Du R 14 (bU V) 32:=aU ES;have AV:=gZ JK EP.ty;have Fa:=kF AV Jj;have zU:=ER.cZ JK (by omega);have⟨BX,AY⟩:=xS AV Gi Gj;have Jd:=BS.abd JK (by omega);have Uw:=kF AV zT;have b18:=b17.then JK (.inr pV);refine aC (Wr (⟨.agg (aA 14 (bU V)),rV Tryz.results13 ⟨_,rfl,aX BU.aH (by kernel_rfl) (by kernel_rfl)⟩,?_⟩));have hinv:Inv f.core (T+3660):=by rw[hc3]; exact(Ho hVs (d.inv o (by omega))).mono (by omega)
  have eRo:aO V=o:=by unfold aO; omega
  have hk3:f.s.known=aI (M.ml o).s.known o ((M.ml o).s.known o+1):=(M_ fZ.known hc3).trans (by rw[Cv I,eRo]; rfl);exact⟨V,rfl,hV,{ M with pl:=aI M.pl o t,ml:=aI M.ml o f,an:=M.an+1,aa:=some ⟨N,0,none⟩,ac:=ab,ev:=aI M.ev M.an V },{ c:=Uw,l:=AY,a:=Jd,g:=Fa.put BX,inv:=(fun i U=>by show Inv (aI M.ml o f i).core _; unfold aI; split; exact hinv; exact(d.inv i U).mono (by omega)),wf:=(fun k X=>by have hk2:k<M.an+1:=X; show gU (aI M.ev M.an V k); unfold aI; split; exact hV; exact d.wf k (by omega)),may:=(fun k X=>by have hk2:k<M.an+1:=X; show bR (aI M.ev M.an V k)=true; unfold aI; split; exact Ra I; exact d.may k (by omega)),sm:=(fun k X=>by have hk2:k<M.an+1:=X; show oz (aI M.ev M.an V k); unfold aI; split; exact hVs; exact d.sm k (by omega)),cz:=d.cz.event (o:=o) (by omega) (jO I) eRo hVd.2.2 (fun q u=>by show(aI M.ml o f q).s.known=_; unfold aI; rw[b_ u]) (by show(aI M.ml o f o).s.known=_; unfold aI; rw[d_ rfl]; exact hk3),pB:=hpB,n1:=hn1,n6:=hn6 },(by rw[<- Q]; exact⟨rfl,fun q u=>by show aI M.ml o f q=_; unfold aI; rw[b_ u],.inr ⟨H,rfl,rfl,I,by show(aI M.ml o f o).core=_; unfold aI; rw[d_ rfl]; exact hc3,hVd⟩⟩),A_ _,(fun u=>by rw[H]at u; cases u),b18,Zt.app sS b15.size⟩
 refine Lv aG (mY I)<|aC<|aN<|ay<|av (.agg (aA 14 (fun b=>if b<1 then au 0 else if b<8 then aD 0 else if b<9 then .int .u8 (0)else if b<10 then aD 0 else if b<12 then au 0 else aD 0)))<|fA ED 0 (h1:=(fun F _=>by show((fun b=>if b<1 then au 0 else if b<8 then aD 0 else if b<9 then .int .u8 (0)else if b<10 then aD 0 else if b<12 then au 0 else aD 0:Nat->Value) F).oneCell'=true; simp only[]; repeat (first|rfl|split))) fun Ow UY Md z11 => ?_
 have Ux:aQ Ow R 14 (fun b=>if b<1 then au 0 else if b<8 then aD 0 else if b<9 then .int .u8 (0)else if b<10 then aD 0 else if b<12 then au 0 else aD 0) 32:=aU UY;have EL:=gZ Md ED.ty;have Uy:=kF EL Aj;have acK:=zN.cZ Md FH;have Uz:=kF EL zO;have UA:=Dy.cZ Md (by omega);have Qx:=kF EL BO;have b19:=b12.then Md (.inr pV);refine aC (Wr (sR (⟨.agg (aA 14 (fun b=>if b<1 then au 0 else if b<8 then aD 0 else if b<9 then .int .u8 (0)else if b<10 then aD 0 else if b<12 then au 0 else aD 0)),rV Tryz.results13 ⟨_,rfl,aX Ux.aH (by kernel_rfl) (by kernel_rfl)⟩,?_⟩)));have UD:Fx.Own Ow B 72 1 (.slice M.la (M.n) (M.lc)) M.n (Ie M.pl):=Qx.dL (M_ (fun q=>Value.slice q M.n M.lc) K.symm);exact⟨zeroE,M_ (fun z=>Ending.returned (Value.agg z)) (Fx.eX (y:=bU zeroE) fun j W=>by rcases j with _|_|_|_|_|_|_|_|_|_|_|_|_|_|j <;> first|rfl|omega),LD,M,{ c:=Uy,l:=UD,a:=acK,g:=Uz,inv:=fun i U=>(d.inv i U).mono (by omega),wf:=d.wf,may:=d.may,sm:=d.sm,cz:=d.cz,pB:=hpB,n1:=hn1,n6:=hn6 },⟨rfl,fun _ _=>rfl,.inl ⟨rfl,rfl,rfl,.inl rfl⟩⟩,by omega,(fun _=>rfl),b19,fun _ h => .inl h⟩
theorem aiL(M:WM)(B p T:Nat)(x:Gp)(w:World)(c:oC w B p M T)(b:B<=w.heap.size)(hx:Ii x)(m:M.an<=60)(l:T<=890000) :
 Calls Tryz.prog 13 #[(pt p),.agg (aA 9 (Gq x))] w fun e w' => ∃ v,e = .returned (.agg (aA 14 (bU v)))/\gU v /\ ∃ a,oC w' B p a (T+3660)/\DoR (x.who % M.n) x M a v/\a.an<=M.an+1/\(x.meet=true->a.an=M.an)/\Below B w w' :=
 (aiK M B p T x w c b hx m l).mono fun _ _ ⟨v,d,f,a,g,h,i,j,k,_⟩=>⟨v,d,f,a,g,h,i,j,c.NQ b k⟩
end Go.Proofs.YtahbiajdgealnaaGreatDoor
namespace Go.Proofs.YtahbiajdgealnaaGreatDoor
open Go.RowKit Go.WideShapes Go.ChangeShapes Go.Deep Rt
def WB:Value->Bool | .bool b=>b|_=>false
theorem RB.int{k:IntKind}{v:Value}(h:RB (some k) v):v = .int k (intOf v)/\(Lit.int k (intOf v)).wf=true:=by
 obtain⟨n,rfl,a⟩:=h; exact⟨rfl,a⟩
theorem RB.bool{v:Value}(h:RB none v):v = .bool (WB v):=by
 obtain⟨b,rfl⟩:=h; rfl
theorem wf_u8{n:Int}(h:(Lit.int .u8 n).wf=true):0<=n/\n<=255:=by simp[Lit.wf,IntKind.min,IntKind.max,IntKind.bits,IntKind.signed]at h; omega
theorem wf_u16{n:Int}(h:(Lit.int .u16 n).wf=true):0<=n/\n<=65535:=by simp[Lit.wf,IntKind.min,IntKind.max,IntKind.bits,IntKind.signed]at h; omega
theorem NS{n:Int}(h:(Lit.int .u8 n).wf=true) : ∃ m:Nat,n=(m:Int)/\m<=255:=by
 have:=wf_u8 h; exact⟨n.toNat,by omega,by omega⟩
theorem Zu{n:Int}(h:(Lit.int .u16 n).wf=true) : ∃ m:Nat,n=(m:Int)/\m<=65535:=by
 have:=wf_u16 h; exact⟨n.toNat,by omega,by omega⟩
theorem Fx.mM.congr{w:World}{a:Option Addr}{n s:Nat}{x y:Nat->Value}(h:Fx.mM w a n s x)(e : ∀ p,p<n*s->x p=y p):Fx.mM w a n s y:=fun f=>by
 obtain⟨b,j,d,g⟩:=h f;exact⟨b,j,d,fun i c=>by rw[<- e i c]; exact g i c⟩
def WE:List (Option IntKind) := [some .u8,none,some .u8,some .u8,some .u8,some .u8,some .u16,some .u8,some .u8]
def WG(X:Nat->Value):Gp:=⟨(intOf (X 0)).toNat,WB (X 1),(intOf (X 2)).toNat,(intOf (X 3)).toNat,(intOf (X 4)).toNat,(intOf (X 5)).toNat,(intOf (X 6)).toNat,(intOf (X 7)).toNat,(intOf (X 8)).toNat⟩
theorem LG{X:Nat->Value}(h : ∀(j:Nat) (k:Option IntKind),WE[j]? = some k->RB k (X j)):Ii (WG X) /\ ∀ j,j<9->X j=Gq (WG X) j:=by
 have a : ∀ j,WE[j]? = some (some .u8)->X j = .int .u8 ((intOf (X j)).toNat:Int)/\(intOf (X j)).toNat<=255:=fun j d=>by
  obtain⟨e,b⟩:=(h j _ d).int;have:=wf_u8 b;exact⟨by rw[Int.toNat_of_nonneg this.1]; exact e,by omega⟩
 have c:X 6 = .int .u16 ((intOf (X 6)).toNat:Int)/\(intOf (X 6)).toNat<=65535:=by
  obtain⟨e,b⟩:=(h 6 (some .u16) rfl).int;have:=wf_u16 b;exact⟨by rw[Int.toNat_of_nonneg this.1]; exact e,by omega⟩
 refine⟨⟨(a 0 rfl).2,(a 2 rfl).2,(a 3 rfl).2,(a 4 rfl).2,(a 5 rfl).2,c.2,(a 7 rfl).2,(a 8 rfl).2⟩,fun j d => ?_⟩
 rcases j with _|_|_|_|_|_|_|_|_|j
 ·exact(a 0 rfl).1
 ·exact(h 1 none rfl).bool
 ·exact(a 2 rfl).1
 ·exact(a 3 rfl).1
 ·exact(a 4 rfl).1
 ·exact(a 5 rfl).1
 ·exact c.1
 ·exact(a 7 rfl).1
 ·exact(a 8 rfl).1
 omega
section
variable {H:Type} {enc:TypeId × Value->H} {P:Program} {w:World}
theorem Rb{t e:TypeId}{a:Option Addr}{len cap D:Nat}{d:DataW H}{r:List MemPlace}(q:P.underlying t=some (.slice e))(b:yC P D e=some WE)(l:P.cellsOf e=9)
 (h:DataW.Trod enc P w 0 (fun _=>true) true t (.slice a len cap) d r) : ∃ g:Nat->Gp,(∀ i,i<len->Ii (g i))/\Fx.mM w a len 9 (Fx.flat 9 fun k=>Gq (g k)):=by
 obtain⟨v,n⟩:=h;obtain⟨s,x,u,f,_,_,X,c,m⟩:=Q9 q b l (by decide) n;simp[Value.cells]at f;obtain⟨rfl,rfl,rfl⟩:=f;exact⟨fun i=>WG (X i),fun i o=>(LG (c i o)).1,m.congr (Fx.bL fun k b j p=>(LG (c k b)).2 j p)⟩
end
end Go.Proofs.YtahbiajdgealnaaGreatDoor
namespace Go.Proofs.YtahbiajdgealnaaGreatDoor
open Go.RowKit Rt
open Fx (Lv sN Ln Ws Wl Wr Wk sR Wb Wx Wo Ag xI yG gZ yI vU yF rv aA aQ bI aM ev aU flat dB aX iQ aZ mM bL bJ cells_one bP iy bO bQ cu cB gL gF qm gP)
theorem Zv{B:Nat}{a b c:World}(h:Below a.heap.size a b)(e:Below B b c)(d:a.heap.size<=B):Below a.heap.size a c:=h.trans (e.mono d)
theorem vP.Om{w w':World}{B p:Nat}{m:lS}{e:List TypeId}(h:vP w B p m)(b:Fx.F4 e w w')(k:(KF.all fun T => !e.contains T)=true):vP w' B p m:=by
 have a : ∀ d∈KF,e.contains d=false:=fun d f=>by
  have:=List.all_eq_true.1 k d f
  simpa using this
 exact { h with
  c:=h.c.Om b (a _ (by decide)),n:=h.n.Om b (a _ (by decide)),g:=h.g.Om b (a _ (by decide)),tc:=h.tc.Om b (a _ (by decide)),t:=h.t.Om b (a _ (by decide)),r:=⟨fun i j=>(h.r.1 i j).Om b (a _ (by decide)),h.r.2⟩ }
section
namespace Rt
structure Ab where
 inn:Nat->Bool
 left:Nat->Bool
 own:Nat->Int
 has:Int->Bool
 par:Int->Int
 R:Int->Nat->Int
 gh:Int->Int->Bool
 g:Int->Int->Nat->Int
 ask:Int->Int->Bool
def Ab.up(A:Ab)(x:Int):Nat->Int
 | 0=>x
 | i+1=>A.par (A.up x i)
def Ab.on(A:Ab)(x y:Int):Bool:=A.has y&&(List.range 6).any fun i=>decide (A.up x i=y)
def qZ(v:EvM):Int:=jk v.o v.seq
def aV(v:EvM):Nat:=(v.o-1).toNat
def dV(v:EvM):Nat:=(v.dst-1).toNat
def Ab.dl(A:Ab)(v:EvM)(y:Int)(p:Nat):Int :=
 if v.kind=1 then(if y=qZ v/\p=aV v then v.aS else 0)
 else if v.kind=2 then(if y=v.node/\p=aV v then v.aS else 0)
 else if v.kind=3 then(if A.on v.node y=true/\p=6+aV v then v.aS else 0)
 else if v.kind=4 then(if A.on (A.g v.o v.of 2) y=true/\p=12+aV v then A.g v.o v.of 3 else 0)
 else if v.kind=5 then(if y=v.node/\p=18+(6*aV v+dV v)then v.aS else 0)
 else 0
def Ab.qO(A:Ab)(v:EvM):Ab where
 inn:=fun j=>A.inn j || (decide (v.kind=6)&&decide (j=dV v))
 left:=fun j=>A.left j || (decide (v.kind=7)&&decide (j=aV v))
 own:=fun j=>A.own j+if v.kind=1/\j=aV v then 1 else 0
 has:=fun y=>A.has y || (decide (v.kind=1)&&decide (y=qZ v))
 par:=fun y=>if v.kind=1/\y=qZ v then v.node else A.par y
 R:=fun y p=>A.R y p+A.dl v y p
 gh:=fun o r=>A.gh o r || (decide (v.kind=3)&&(decide (o=v.o)&&decide (r=v.req)))
 g:=fun o r j=>if v.kind=3/\o=v.o/\r=v.req then(if j=2 then v.node else if j=3 then v.aS else 0)else if v.kind=4/\o=v.o/\r=v.of/\j=4 then v.req else A.g o r j
 ask:=fun o r=>A.ask o r || ((decide (v.kind=3) || decide (v.kind=4))&&(decide (o=v.o)&&decide (r=v.req)))
structure Ab.Ok(A:Ab):Prop where
 z:A.has 0=false
 p : ∀ y,A.has y=true->A.par y=0\/A.has (A.par y)=true
 p0 : ∀ y,A.has y=false->A.par y=0
 g : ∀ o r,A.gh o r=true->A.has (A.g o r 2)=true
 r0 : ∀ y p,A.has y=false->A.R y p=0
structure Ab.Pre(A:Ab)(v:EvM):Prop where
 n1:v.kind=1->A.has (qZ v)=false/\qZ v≠0/\(v.node=0\/A.has v.node=true)
 n2:v.kind=2->A.has v.node=true
 n3:v.kind=3->A.has v.node=true/\A.gh v.o v.req=false
 n4:v.kind=4->A.gh v.o v.of=true
 n5:v.kind=5->A.has v.node=true
section
variable {A B:Ab} {u v:EvM} {y:Int}
theorem Ab.Ij(h:A.Ok){x:Int}(hx:A.has x=true) : ∀ i,A.up x i=0\/A.has (A.up x i)=true
 | 0 => .inr hx
 | i+1=>by
   show A.par (A.up x i)=0\/A.has (A.par (A.up x i))=true
   rcases Ab.Ij h hx i with e|e
   ·left; rw[e]; exact h.p0 0 h.z
   ·exact h.p _ e
theorem Ab.Bo(hy:A.has y=true):(A.qO v).has y=true:=by show(A.has y || _)=true; rw[hy]; rfl
theorem Ab.Px(c:A.Pre v)(hy:A.has y=true):(A.qO v).par y=A.par y:=by
 show(if v.kind=1/\y=qZ v then v.node else A.par y)=A.par y;rw[b_];rintro ⟨a,b⟩;have:=(c.n1 a).1;rw[<- b,hy]at this; cases this
theorem Ab.WH(c:A.Pre v):(A.qO v).par 0=A.par 0:=by
 show(if v.kind=1/\(0:Int)=qZ v then v.node else A.par 0)=A.par 0;rw[b_];rintro ⟨a,b⟩;exact(c.n1 a).2.1 b.symm
theorem Ab.WI(h:A.Ok)(a:A.Pre v){x:Int}(hx:A.has x=true) : ∀ i,(A.qO v).up x i=A.up x i
 | 0=>rfl
 | i+1=>by
   show(A.qO v).par ((A.qO v).up x i)=A.par (A.up x i);rw[Ab.WI h a hx i]
   rcases Ab.Ij h hx i with e|e
   ·rw[e]; exact Ab.WH a
   ·exact Ab.Px a e
theorem Ab.WJ(h:A.Ok)(b:A.Pre v){x:Int}(hx:A.has x=true)(y:Int):(A.qO v).on x y=A.on x y:=by
 unfold Ab.on;have e:((List.range 6).any fun i=>decide ((A.qO v).up x i=y))=((List.range 6).any fun i=>decide (A.up x i=y)):=by
  congr 1; funext i; rw[Ab.WI h b hx i]
 rw[e]
 cases hc:(List.range 6).any fun i=>decide (A.up x i=y)
 ·rw[J_,J_]
 rw[Bool.and_true,Bool.and_true];obtain⟨i,_,a⟩:=List.any_eq_true.1 hc;have a:=h_ a;show(A.has y || (decide (v.kind=1)&&decide (y=qZ v)))=A.has y
 cases hy:A.has y
 ·rcases Ab.Ij h hx i with e0|e0
  ·rw[a]at e0
   cases c1:decide (v.kind=1)
   ·rfl
   have:=(b.n1 (h_ c1)).2.1;rw[g_ (show ¬ y=qZ v by rw[e0]; exact fun q=>this q.symm)]; rfl
  rw[a,hy]at e0; cases e0
 rfl
theorem Ab.LH(f:A.Pre v){o r:Int}(d:A.gh o r=true)(j:Nat)(e:j≠4):(A.qO v).g o r j=A.g o r j:=by
 show(if v.kind=3/\o=v.o/\r=v.req then(if j=2 then v.node else if j=3 then v.aS else 0)else if v.kind=4/\o=v.o/\r=v.of/\j=4 then v.req else A.g o r j)=A.g o r j;rw[b_,b_]
 ·exact fun q=>e q.2.2.2
 rintro ⟨a,b,c⟩;have:=(f.n3 a).2;rw[<- b,<- c,d]at this; cases this
theorem Ab.aev{o r:Int}(a:A.gh o r=true):(A.qO v).gh o r=true:=by show(A.gh o r || _)=true; rw[a]; rfl
theorem Ab.aew(h:A.Ok)(b:A.Pre v):(A.qO v).Ok where
 z:=by
  show(A.has 0 || (decide (v.kind=1)&&decide ((0:Int)=qZ v)))=false;rw[h.z,Bool.false_or]
  cases c1:decide (v.kind=1)
  ·rfl
  ·rw[g_ (fun q=>(b.n1 (h_ c1)).2.1 q.symm)]; rfl
 p:=fun y a=>by
  have a:(A.has y || (decide (v.kind=1)&&decide (y=qZ v)))=true:=a;show(if v.kind=1/\y=qZ v then v.node else A.par y)=0\/(A.qO v).has (if v.kind=1/\y=qZ v then v.node else A.par y)=true;by_cases c:v.kind=1/\y=qZ v
  ·rw[d_ c];exact(b.n1 c.1).2.2.imp id Ab.Bo
  ·rw[b_ c];have u:A.has y=true:=by
    rcases D_.1 a with q|q
    ·exact q
    ·rw[T_]at q; exact N_ ⟨h_ q.1,h_ q.2⟩ c
   exact(h.p y u).imp id Ab.Bo
 p0:=fun y a=>by
  have a:(A.has y || (decide (v.kind=1)&&decide (y=qZ v)))=false:=a;rw[Bool.or_eq_false_iff]at a;show(if v.kind=1/\y=qZ v then v.node else A.par y)=0;rw[b_]
  ·exact h.p0 y a.1
  ·rintro ⟨s,t⟩;rw[f_ s,f_ t]at a; cases a.2
 g:=fun o r d=>by
  have d:(A.gh o r || (decide (v.kind=3)&&(decide (o=v.o)&&decide (r=v.req))))=true:=d;by_cases c:v.kind=3/\o=v.o/\r=v.req
  ·have:(A.qO v).g o r 2=v.node:=(by show(if v.kind=3/\o=v.o/\r=v.req then _ else _)=v.node; rw[d_ c]; rfl);rw[this]; exact Ab.Bo (b.n3 c.1).1
  ·have k:A.gh o r=true:=by
    rcases D_.1 d with q|q
    ·exact q
    ·rw[T_,T_]at q; exact N_ ⟨h_ q.1,h_ q.2.1,h_ q.2.2⟩ c
   rw[Ab.LH b k 2 (by decide)];exact Ab.Bo (h.g o r k)
 r0:=fun y p a=>by
  have a:(A.has y || (decide (v.kind=1)&&decide (y=qZ v)))=false:=a;rw[Bool.or_eq_false_iff]at a;show A.R y p+A.dl v y p=0;rw[h.r0 y p a.1,Int.zero_add];have l : ∀ x,A.on x y=false:=fun x=>by unfold Ab.on; rw[a.1]; rfl
  unfold Ab.dl;by_cases f:v.kind=1
  ·rw[d_ f,b_];rintro ⟨e,_⟩; rw[f_ f,f_ e]at a; cases a.2
  rw[b_ f];by_cases i:v.kind=2
  ·rw[d_ i,b_];rintro ⟨e,_⟩; rw[e,b.n2 i]at a; cases a.1
  rw[b_ i];by_cases m:v.kind=3
  ·rw[d_ m,b_]; rw[l]; exact fun q=>by cases q.1
  rw[b_ m];by_cases n:v.kind=4
  ·rw[d_ n,b_]; rw[l]; exact fun q=>by cases q.1
  rw[b_ n];by_cases j:v.kind=5
  ·rw[d_ j,b_];rintro ⟨e,_⟩; rw[e,b.n5 j]at a; cases a.1
  rw[b_ j]
theorem Ab.WK(h:A.Ok)(c:A.Pre u)(i:A.Pre v)(y:Int)(p:Nat):(A.qO u).dl v y p=A.dl v y p:=by
 unfold Ab.dl;by_cases d:v.kind=1
 ·rw[d_ d,d_ d]
 rw[b_ d,b_ d];by_cases e:v.kind=2
 ·rw[d_ e,d_ e]
 rw[b_ e,b_ e];by_cases a:v.kind=3
 ·rw[d_ a,d_ a,Ab.WJ h c (i.n3 a).1]
 rw[b_ a,b_ a];by_cases b:v.kind=4
 ·have f:=i.n4 b;rw[d_ b,d_ b,Ab.LH c f 2 (by decide),Ab.LH c f 3 (by decide),Ab.WJ h c (h.g _ _ f)]
 rw[b_ b,b_ b]
theorem Ab.Rc(h1:A.inn=B.inn)(a:A.left=B.left)(b:A.own=B.own)(c:A.has=B.has)(d:A.par=B.par)(e:A.R=B.R)(f:A.gh=B.gh)(h:A.g=B.g)(i:A.ask=B.ask):A=B:=by
 cases A; cases B; simp only at h1 a b c d e f h i; subst h1 a b c d e f h i; rfl
theorem Ab.WL(h:A.Ok)(b:A.Pre u)(d:A.Pre v)(k:u.o≠v.o)(i:u.kind=1->v.kind=1->qZ u≠qZ v):(A.qO u).qO v=(A.qO v).qO u:=by
 apply Ab.Rc
 ·funext j; exact Bool.or_right_comm _ _ _
 ·funext j; exact Bool.or_right_comm _ _ _
 ·funext j; exact Int.add_right_comm _ _ _
 ·funext y; exact Bool.or_right_comm _ _ _
 ·funext y
  show(if v.kind=1/\y=qZ v then v.node else if u.kind=1/\y=qZ u then u.node else A.par y)=(if u.kind=1/\y=qZ u then u.node else if v.kind=1/\y=qZ v then v.node else A.par y);by_cases c:v.kind=1/\y=qZ v
  ·rw[d_ c,d_ c,b_];rintro ⟨e,f⟩;exact i e c.1 (f.symm.trans c.2)
  rw[b_ c,b_ c]
 ·funext y p
  show A.R y p+A.dl u y p+(A.qO u).dl v y p=A.R y p+A.dl v y p+(A.qO v).dl u y p;rw[Ab.WK h b d,Ab.WK h d b,Int.add_right_comm]
 ·funext o r; exact Bool.or_right_comm _ _ _
 ·funext o r j
  show(if v.kind=3/\o=v.o/\r=v.req then _ else if v.kind=4/\o=v.o/\r=v.of/\j=4 then v.req else if u.kind=3/\o=u.o/\r=u.req then _ else if u.kind=4/\o=u.o/\r=u.of/\j=4 then u.req else A.g o r j) =
   (if u.kind=3/\o=u.o/\r=u.req then _ else if u.kind=4/\o=u.o/\r=u.of/\j=4 then u.req else if v.kind=3/\o=v.o/\r=v.req then _ else if v.kind=4/\o=v.o/\r=v.of/\j=4 then v.req else A.g o r j)
  by_cases c:o=v.o
  ·have a : ¬ o=u.o:=fun q=>k (q.symm.trans c);rw[b_ (show ¬ (u.kind=3/\o=u.o/\r=u.req)from fun q=>a q.2.1),b_ (show ¬ (u.kind=4/\o=u.o/\r=u.of/\j=4)from fun q=>a q.2.1),b_ (show ¬ (u.kind=3/\o=u.o/\r=u.req)from fun q=>a q.2.1),b_ (show ¬ (u.kind=4/\o=u.o/\r=u.of/\j=4)from fun q=>a q.2.1)]
  rw[b_ (show ¬ (v.kind=3/\o=v.o/\r=v.req)from fun q=>c q.2.1),b_ (show ¬ (v.kind=4/\o=v.o/\r=v.of/\j=4)from fun q=>c q.2.1),b_ (show ¬ (v.kind=3/\o=v.o/\r=v.req)from fun q=>c q.2.1),b_ (show ¬ (v.kind=4/\o=v.o/\r=v.of/\j=4)from fun q=>c q.2.1)]
 funext o r; exact Bool.or_right_comm _ _ _
end
end Rt
end
section
namespace Rt
def Ae(x:Nat->Int)(a:Nat):Int:=x a-x (6+a)+x (12+a)+(x (18+(6*0+a))+x (18+(6*1+a))+x (18+(6*2+a))+x (18+(6*3+a))+x (18+(6*4+a))+x (18+(6*5+a)))-(x (18+(6*a+0))+x (18+(6*a+1))+x (18+(6*a+2))+x (18+(6*a+3))+x (18+(6*a+4))+x (18+(6*a+5)))
structure Ab.Rf(A:Ab)(v:EvM):Prop where
 inn:A.inn (aV v)=true
 left:A.left (aV v)=false
 pre:A.Pre v
 k1:v.kind=1->A.own (aV v)<5/\v.aS<=140737488355328 /\ ¬ ∀ i,i<4->A.has (A.up v.node i)=true
 k2:v.kind=2->A.R v.node (aV v)+v.aS<=140737488355328
 k3:v.kind=3->A.ask v.o v.req=false /\ ∀ y,A.on v.node y=true->v.aS<=Ae (A.R y) (aV v)
 k4:v.kind=4->A.ask v.o v.req=false/\A.g v.o v.of 4=0 /\ ∀ y,A.on (A.g v.o v.of 2) y=true->A.g v.o v.of 3<=A.R y (6+aV v)-A.R y (12+aV v)
 k5:v.kind=5->A.inn (dV v)=true/\v.aS<=Ae (A.R v.node) (aV v)
def aiM(a p:Nat):Prop:=p=a\/p=6+a\/p=12+a \/ ∃ k,k<6/\p=18+(6*a+k)
structure Ab.Le(A B:Ab)(a:Nat):Prop where
 inn : ∀ j,A.inn j=true->B.inn j=true
 left:B.left a=A.left a
 own:B.own a=A.own a
 has : ∀ y,A.has y=true->B.has y=true
 hid : ∀ s,1<=s/\s<1099511627776->B.has (jk ((a:Int)+1) s)=A.has (jk ((a:Int)+1) s)
 par : ∀ y,A.has y=true->B.par y=A.par y
 R1 : ∀ y p,A.has y=true->aiM a p->B.R y p=A.R y p
 R2 : ∀ y k,A.has y=true->k<6->A.R y (18+(6*k+a))<=B.R y (18+(6*k+a))
 gh : ∀ o r,A.gh o r=true->B.gh o r=true /\ ∀ j,j≠4->B.g o r j=A.g o r j
 gho : ∀ r,B.gh ((a:Int)+1) r=A.gh ((a:Int)+1) r
 go : ∀ r,B.g ((a:Int)+1) r 4=A.g ((a:Int)+1) r 4
 ask : ∀ r,B.ask ((a:Int)+1) r=A.ask ((a:Int)+1) r
structure Mg(v:EvM):Prop where
 o:1<=v.o/\v.o<=6
 seq:1<=v.seq/\v.seq<1099511627776
 aS:0<=v.aS
 dst:v.kind=5->1<=v.dst/\v.dst<=6
section
variable {A B:Ab} {u v:EvM} {a:Nat} {x y:Int}
theorem Mg.reg(h:Mg v):v.o=(aV v:Int)+1/\aV v<6:=by have:=h.o; unfold aV; omega
theorem Mg.id(h:Mg v):qZ v=1099511627776*v.o+v.seq:=by
 unfold qZ jk; rw[d_ ⟨h.o.1,h.o.2,h.seq.1,h.seq.2⟩]
theorem Mg.ne(a:Mg u)(b:Mg v)(h:u.o≠v.o):qZ u≠qZ v:=by
 rw[a.id,b.id]; have:=a.seq; have:=b.seq; have:=a.o; have:=b.o; omega
theorem Ab.Le.refl(A:Ab)(a:Nat):A.Le A a:=⟨fun _ h=>h,rfl,rfl,fun _ h=>h,fun _ _=>rfl,fun _ _=>rfl,fun _ _ _ _=>rfl,fun _ _ _ _=>O_ _,fun _ _ h=>⟨h,fun _ _=>rfl⟩,fun _=>rfl,fun _=>rfl,fun _=>rfl⟩
theorem Ab.Le.up(h:A.Le B a)(b:A.Ok)(c:B.Ok)(hx:A.has x=true) : ∀ i,B.up x i=A.up x i
 | 0=>rfl
 | i+1=>by
   show B.par (B.up x i)=A.par (A.up x i);rw[h.up b c hx i]
   rcases Ab.Ij b hx i with e|e
   ·rw[e,b.p0 0 b.z,c.p0 0 c.z]
   ·exact h.par _ e
theorem Ab.Le.on(h:A.Le B a)(c:A.Ok)(d:B.Ok)(hx:A.has x=true)(y:Int):B.on x y=A.on x y:=by
 unfold Ab.on;have e:((List.range 6).any fun i=>decide (B.up x i=y))=((List.range 6).any fun i=>decide (A.up x i=y)):=by
  congr 1; funext i; rw[h.up c d hx i]
 rw[e]
 cases hc:(List.range 6).any fun i=>decide (A.up x i=y)
 ·rw[J_,J_]
 rw[Bool.and_true,Bool.and_true];obtain⟨i,_,b⟩:=List.any_eq_true.1 hc;have b:=h_ b
 rcases Ab.Ij c hx i with e0|e0
 ·rw[b]at e0; rw[e0,c.z,d.z]
 rw[b]at e0; rw[e0,h.has _ e0]
theorem Ab.NT(h:A.on x y=true):A.has y=true:=by unfold Ab.on at h; rw[T_]at h; exact h.1
theorem Ab.Le.loc(h:A.Le B a)(ha:a<6)(hy:A.has y=true):Ae (A.R y) a<=Ae (B.R y) a:=by
 have o : ∀ k,k<6->B.R y (18+(6*a+k))=A.R y (18+(6*a+k)):=fun k b=>h.R1 y _ hy (.inr (.inr (.inr ⟨k,b,rfl⟩)));unfold Ae;rw[h.R1 y a hy (.inl rfl),h.R1 y (6+a) hy (.inr (.inl rfl)),h.R1 y (12+a) hy (.inr (.inr (.inl rfl))),o 0 (by omega),o 1 (by omega),o 2 (by omega),o 3 (by omega),o 4 (by omega),o 5 (by omega)];have:=h.R2 y 0 hy (by omega); have:=h.R2 y 1 hy (by omega); have:=h.R2 y 2 hy (by omega); have:=h.R2 y 3 hy (by omega); have:=h.R2 y 4 hy (by omega); have:=h.R2 y 5 hy (by omega);omega
theorem Ab.Le.okE(h:A.Le B (aV v))(l:A.Ok)(m:B.Ok)(t:Mg v)(a:A.Rf v):B.Rf v:=by
 obtain⟨c,p⟩:=t.reg;have P:=a.pre;have w : ∀ r,B.gh v.o r=A.gh v.o r:=fun r=>by rw[c]; exact h.gho r
 have s : ∀ r,B.ask v.o r=A.ask v.o r:=fun r=>by rw[c]; exact h.ask r
 refine⟨h.inn _ a.inn,h.left.trans a.left,⟨fun k => ?_,fun k=>h.has _ (P.n2 k),fun k=>⟨h.has _ (P.n3 k).1,(w _).trans (P.n3 k).2⟩,fun k=>(w _).trans (P.n4 k),fun k=>h.has _ (P.n5 k)⟩,fun k => ?_,fun k => ?_,fun k => ?_,fun k => ?_,fun k=>⟨h.inn _ (a.k5 k).1,S_ (a.k5 k).2 (h.loc p (P.n5 k))⟩⟩
 ·obtain⟨d,f,j⟩:=P.n1 k;refine⟨?_,f,j.imp (fun q=>q) (h.has _)⟩;have:=h.hid v.seq t.seq;rw[<- c]at this;exact this.trans d
 ·obtain⟨d,f,j⟩:=a.k1 k;refine⟨by rw[h.own]; exact d,f,fun q=>j fun i x => ?_⟩;have n:=q i x
  rcases(P.n1 k).2.2 with e|e
  ·exfalso;have:B.up v.node 0=0:=e;have:=q 0 (by omega);rw[‹B.up v.node 0=0›,m.z]at this; cases this
  rw[h.up l m e i]at n
  rcases Ab.Ij l e i with e0|e0
  ·rw[e0,m.z]at n; cases n
  exact e0
 ·rw[h.R1 _ _ (P.n2 k) (.inl rfl)]; exact a.k2 k
 ·refine⟨(s _).trans (a.k3 k).1,fun y b => ?_⟩;rw[h.on l m (P.n3 k).1]at b;exact S_ ((a.k3 k).2 y b) (h.loc p (Ab.NT b))
 obtain⟨d,f,j⟩:=a.k4 k;have u:=(h.gh _ _ (P.n4 k)).2;refine⟨(s _).trans d,by rw[c,h.go,<- c]; exact f,fun y b => ?_⟩;rw[u 2 (by decide),h.on l m (l.g _ _ (P.n4 k))]at b;rw[u 3 (by decide),h.R1 _ _ (Ab.NT b) (.inr (.inl rfl)),h.R1 _ _ (Ab.NT b) (.inr (.inr (.inl rfl)))];exact j y b
end
end Rt
end
section
namespace Rt
section
variable {A B:Ab} {u v:EvM} {a:Nat} {x y:Int}
theorem Ab.Le.dl(h:A.Le B a)(f:A.Ok)(j:B.Ok)(i:A.Pre u)(y:Int)(p:Nat):B.dl u y p=A.dl u y p:=by
 unfold Ab.dl;by_cases d:u.kind=1
 ·rw[d_ d,d_ d]
 rw[b_ d,b_ d];by_cases e:u.kind=2
 ·rw[d_ e,d_ e]
 rw[b_ e,b_ e];by_cases c:u.kind=3
 ·rw[d_ c,d_ c,h.on f j (i.n3 c).1]
 rw[b_ c,b_ c];by_cases b:u.kind=4
 ·have k:=h.gh _ _ (i.n4 b);rw[d_ b,d_ b,k.2 2 (by decide),k.2 3 (by decide),h.on f j (f.g _ _ (i.n4 b))]
 rw[b_ b,b_ b]
theorem or_mono{p q c:Bool}(h:p=true->q=true)(a:(p || c)=true):(q || c)=true:=by
 cases c
 ·rw[I_]at a ⊢; exact h a
 rw[Bool.or_true]
theorem Ab.Le.both(h:A.Le B a)(f:A.Ok)(i:B.Ok)(n:A.Pre u)(w:B.Pre u):(A.qO u).Le (B.qO u) a:=by
 have m : ∀ y,(A.qO u).has y=true->A.has y=true\/(A.has y=false/\B.has y=false/\u.kind=1/\y=qZ u):=fun y b=>by
  have b:(A.has y || (decide (u.kind=1)&&decide (y=qZ u)))=true:=b
  cases hc:A.has y
  ·right;rw[hc,Bool.false_or,T_]at b;have k:=h_ b.1; have e:=h_ b.2;exact⟨rfl,e ▸ (w.n1 k).1,k,e⟩
  ·exact .inl rfl
 refine⟨fun j d=>or_mono (h.inn j) d,?_,?_,fun y b=>or_mono (h.has y) b,fun s x => ?_,fun y b => ?_,fun y p b v => ?_,fun y k b t => ?_,fun o r l=>⟨or_mono (fun q=>(h.gh o r q).1) l,fun j d => ?_⟩,fun r => ?_,fun r => ?_,fun r => ?_⟩
 ·show(B.left a || _)=(A.left a || _); rw[h.left]
 ·show B.own a+_=A.own a+_; rw[h.own]
 ·show(B.has _ || _)=(A.has _ || _); rw[h.hid s x]
 ·show(if u.kind=1/\y=qZ u then u.node else B.par y)=(if u.kind=1/\y=qZ u then u.node else A.par y)
  rcases m y b with q|⟨_,_,k,e⟩
  ·rw[h.par y q]
  rw[d_ ⟨k,e⟩,d_ ⟨k,e⟩]
 ·show B.R y p+B.dl u y p=A.R y p+A.dl u y p;rw[h.dl f i n]
  rcases m y b with q|⟨q1,q2,_,_⟩
  ·rw[h.R1 y p q v]
  rw[f.r0 y p q1,i.r0 y p q2]
 ·show A.R y _+A.dl u y _<=B.R y _+B.dl u y _;rw[h.dl f i n]
  rcases m y b with q|⟨q1,q2,_,_⟩
  ·have:=h.R2 y k q t; omega
  rw[f.r0 y _ q1,i.r0 y _ q2]; exact O_ _
 ·show(if u.kind=3/\o=u.o/\r=u.req then(if j=2 then u.node else if j=3 then u.aS else 0)else if u.kind=4/\o=u.o/\r=u.of/\j=4 then u.req else B.g o r j)=(if u.kind=3/\o=u.o/\r=u.req then(if j=2 then u.node else if j=3 then u.aS else 0)else if u.kind=4/\o=u.o/\r=u.of/\j=4 then u.req else A.g o r j);by_cases c:u.kind=3/\o=u.o/\r=u.req
  ·rw[d_ c,d_ c]
  rw[b_ c,b_ c,b_ (show ¬ (u.kind=4/\o=u.o/\r=u.of/\j=4)from fun q=>d q.2.2.2),b_ (show ¬ (u.kind=4/\o=u.o/\r=u.of/\j=4)from fun q=>d q.2.2.2)];have l:(A.gh o r || (decide (u.kind=3)&&(decide (o=u.o)&&decide (r=u.req))))=true:=l
  rcases D_.1 l with q|q
  ·exact(h.gh o r q).2 j d
  rw[T_,T_]at q; exact N_ ⟨h_ q.1,h_ q.2.1,h_ q.2.2⟩ c
 ·show(B.gh _ r || _)=(A.gh _ r || _); rw[h.gho r]
 ·show(if u.kind=3/\(a:Int)+1=u.o/\r=u.req then(if 4=2 then u.node else if 4=3 then u.aS else 0)else if u.kind=4/\(a:Int)+1=u.o/\r=u.of/\4=4 then u.req else B.g _ r 4)=(if u.kind=3/\(a:Int)+1=u.o/\r=u.req then(if 4=2 then u.node else if 4=3 then u.aS else 0)else if u.kind=4/\(a:Int)+1=u.o/\r=u.of/\4=4 then u.req else A.g _ r 4);rw[h.go r]
 show(B.ask _ r || _)=(A.ask _ r || _); rw[h.ask r]
theorem Ab.aex(d:Mg u)(r:aV u≠a)(ha:a<6){p:Nat}(b:aiM a p)(y:Int):A.dl u y p=0:=by
 obtain⟨n,s⟩:=d.reg;have j:p≠aV u:=by rcases b with e|e|e|⟨k,hk,e⟩ <;> omega
 have l:p≠6+aV u:=by rcases b with e|e|e|⟨k,hk,e⟩ <;> omega
 have m:p≠12+aV u:=by rcases b with e|e|e|⟨k,hk,e⟩ <;> omega
 unfold Ab.dl;by_cases f:u.kind=1
 ·rw[d_ f,b_ fun q=>j q.2]
 rw[b_ f];by_cases g:u.kind=2
 ·rw[d_ g,b_ fun q=>j q.2]
 rw[b_ g];by_cases h:u.kind=3
 ·rw[d_ h,b_ fun q=>l q.2]
 rw[b_ h];by_cases i:u.kind=4
 ·rw[d_ i,b_ fun q=>m q.2]
 rw[b_ i];by_cases c:u.kind=5
 ·have o:=d.dst c;rw[d_ c,b_];rintro ⟨_,q⟩;unfold dV at q
  rcases b with e|e|e|⟨k,hk,e⟩ <;> omega
 rw[b_ c]
theorem Ab.aiN(a:Mg u){p:Nat}(d:18<=p)(y:Int):0<=A.dl u y p:=by
 obtain⟨b,e⟩:=a.reg;have c:=a.aS;unfold Ab.dl;split
 ·split <;> omega
 split
 ·split <;> omega
 split
 ·split <;> omega
 split
 ·rw[b_ fun q=>by omega]; omega
 split
 ·split <;> omega
 omega
theorem Ab.Le.step(h:A.Le B a)(x:B.Ok)(c:Mg u)(m:B.Pre u)(e:aV u≠a)(ha:a<6):A.Le (B.qO u) a:=by
 obtain⟨w,z⟩:=c.reg;have no : ¬ (a:Int)+1=u.o:=by omega
 refine⟨fun j d => ?_,?_,?_,fun y b=>Ab.Bo (h.has y b),fun s f => ?_,fun y b=>(Ab.Px m (h.has y b)).trans (h.par y b),fun y p b l => ?_,fun y k b v => ?_,fun o r t => ?_,fun r => ?_,fun r => ?_,fun r => ?_⟩
 ·show(B.inn j || _)=true; rw[h.inn j d]; rfl
 ·show(B.left a || (decide (u.kind=7)&&decide (a=aV u)))=A.left a;rw[g_ (show ¬ a=aV u from fun q=>e q.symm),J_,I_]; exact h.left
 ·show B.own a+(if u.kind=1/\a=aV u then 1 else 0)=A.own a;rw[b_ fun q=>e q.2.symm,E_]; exact h.own
 ·show(B.has _ || (decide (u.kind=1)&&decide (jk ((a:Int)+1) s=qZ u)))=_;rw[g_ (show ¬ jk ((a:Int)+1) s=qZ u from fun q=>by
   rw[c.id]at q; unfold jk at q; rw[d_ ⟨by omega,by omega,f.1,f.2⟩]at q; have:=c.seq; omega),J_,I_]
  exact h.hid s f
 ·show B.R y p+B.dl u y p=A.R y p;rw[Ab.aex c e ha l,E_]; exact h.R1 y p b l
 ·show A.R y _<=B.R y _+B.dl u y _;have:=h.R2 y k b v;have:=Ab.aiN (A:=B) c (p:=18+(6*k+a)) (by omega) y;omega
 ·obtain⟨i,n⟩:=h.gh o r t;exact⟨Ab.aev i,fun j d=>(Ab.LH m i j d).trans (n j d)⟩
 ·show(B.gh _ r || (decide (u.kind=3)&&(decide ((a:Int)+1=u.o)&&decide (r=u.req))))=_;rw[g_ no,Bool.false_and,J_,I_]; exact h.gho r
 ·show(if u.kind=3/\(a:Int)+1=u.o/\r=u.req then(if 4=2 then u.node else if 4=3 then u.aS else 0)else if u.kind=4/\(a:Int)+1=u.o/\r=u.of/\4=4 then u.req else B.g _ r 4)=_;rw[b_ fun q=>no q.2.1,b_ fun q=>no q.2.1]; exact h.go r
 show(B.ask _ r || ((decide (u.kind=3) || decide (u.kind=4))&&(decide ((a:Int)+1=u.o)&&decide (r=u.req))))=_;rw[g_ no,Bool.false_and,J_,I_]; exact h.ask r
end
end Rt
end
section
namespace Rt
def vG(K:Nat->Int)(v:EvM):Bool:=decide (v.seq<=K (aO v))
def fI(ev:Nat->EvM)(K:Nat->Int)(A0:Ab):Nat->Ab
 | 0=>A0
 | n+1=>if vG K (ev n)=true then(fI ev K A0 n).qO (ev n)else fI ev K A0 n
structure Evs(A0:Ab)(ev:Nat->EvM)(an:Nat):Prop where
 ok0:A0.Ok
 rd : ∀ k,k<an->dD (gY ev k) (ev k)=true
 g : ∀ k,k<an->Mg (ev k)
 dc : ∀ k,k<an->OW ev an (ev k).deps
 tk : ∀ k,k<an->(fI ev (ev k).deps A0 k).Rf (ev k)
section
variable {A0:Ab} {ev:Nat->EvM} {an n m i j k:Nat} {K K1 K2:Nat->Int}
theorem mU{v:EvM}:vG K v=true<->v.seq<=K (aO v):=by unfold vG; exact Q_
theorem Evs.seq(h:Evs A0 ev an)(a:k<an):(ev k).seq=gY ev k (aO (ev k))+1:=(Gl (h.rd k a)).2.1
theorem Evs.mono(h:Evs A0 ev an)(a:j<an)(c:k<an)(e:aO (ev j)=aO (ev k))(b:j<k):(ev j).seq<(ev k).seq:=by
 rw[h.seq a,h.seq c];have:=Ed (ev:=ev) b;rw[e]at this ⊢; omega
theorem Evs.uniq(h:Evs A0 ev an)(b:j<an)(c:k<an)(a:aO (ev j)=aO (ev k))(d:(ev j).seq=(ev k).seq):j=k:=by
 rcases Nat.lt_trichotomy j k with q|q|q
 ·have:=h.mono b c a q; omega
 ·exact q
 have:=h.mono c b a.symm q; omega
theorem Evs.ahead(h:Evs A0 ev an)(a:j<an)(b:k<an)(e:vG (ev k).deps (ev j)=true):j<k:=by
 have e:=mU.1 e;have d:=(Gl (h.rd k b)).2.2 (aO (ev j)) (h.g j a).reg.2;rw[h.seq a]at e;by_cases c:j<k
 ·exact c
 have:=cnt_mono (ev:=ev) (i:=aO (ev j)) (show k<=j by omega); omega
theorem lJ(e:vG K (ev n)=true):fI ev K A0 (n+1)=(fI ev K A0 n).qO (ev n):=by show(if _ then _ else _)=_; rw[d_ e]
theorem lU(e:vG K (ev n)=false):fI ev K A0 (n+1)=fI ev K A0 n:=by show(if _ then _ else _)=_; rw[b_ (by rw[e]; decide)]
theorem Jw(h:Evs A0 ev an)(a:Nat)(ha:a<6)(f : ∀ i,i<6->K1 i<=K2 i) : ∀ m,m<=an->(∀ i,i<=m->(fI ev K1 A0 i).Ok)->(∀ i,i<=m->(fI ev K2 A0 i).Ok)->(∀ i,i<m->vG K1 (ev i)=true->(fI ev K1 A0 i).Rf (ev i))->(∀ i,i<m->vG K2 (ev i)=true->(fI ev K2 A0 i).Rf (ev i)) ->
 (∀ i,i<m->aO (ev i)=a->vG K2 (ev i)=true->vG K1 (ev i)=true)->(fI ev K1 A0 m).Le (fI ev K2 A0 m) a
 | 0,_,_,_,_,_,_=>Ab.Le.refl _ _
 | m+1,hm,o1,o2,v1,v2,ho=>by
   have d:=Jw h a ha f m (by omega) (fun i c=>o1 i (by omega)) (fun i c=>o2 i (by omega)) (fun i c=>v1 i (by omega)) (fun i c=>v2 i (by omega)) (fun i c=>ho i (by omega))
   cases c1:vG K1 (ev m)with
   | true =>
     have b:vG K2 (ev m)=true:=mU.2 (S_ (mU.1 c1) (f _ (h.g m (by omega)).reg.2));rw[lJ c1,lJ b];exact d.both (o1 m (by omega)) (o2 m (by omega)) (v1 m (by omega) c1).pre (v2 m (by omega) b).pre
   | false =>
     rw[lU c1]
     cases b:vG K2 (ev m)with
     | true =>
       rw[lJ b];exact d.step (o2 m (by omega)) (h.g m (by omega)) (v2 m (by omega) b).pre (fun e=>by have:=ho m (by omega) e b; rw[c1]at this; cases this) ha
     | false=>rw[lU b]; exact d
theorem vH(h:Evs A0 ev an) : ∀ n,n<=an -> ∀ K,OW ev an K->(∀ i,i<=n->(fI ev K A0 i).Ok) /\ ∀ i,i<n->vG K (ev i)=true->(fI ev K A0 i).Rf (ev i)
 | 0,_,K,_=>⟨fun i a=>(show i=0 by omega) ▸ h.ok0,fun i a=>N_ a (z_ _)⟩
 | n+1,hn,K,hc=>by
   obtain⟨o,v⟩:=vH h n (by omega) K hc;have f:vG K (ev n)=true->(fI ev K A0 n).Rf (ev n):=fun c=>by
    obtain⟨l,r⟩:=vH h n (by omega) (ev n).deps (h.dc n (by omega));have d:=h.g n (by omega);have p:=Jw h (aV (ev n)) d.reg.2 (hc.cl n (by omega) (mU.1 c)) n (by omega) l o r v (fun i a e t=>by
     have u:=h.mono (j:=i) (k:=n) (by omega) (by omega) e a;have b:=(Gl (h.rd n (by omega))).1;refine mU.2 ?_;have m:(ev n).deps (aO (ev n))=(ev n).seq-1:=by
      unfold bR at b; simp only[T_,decide_eq_true_eq]at b; exact b.1.1.1.2
     rw[show aO (ev i)=aO (ev n)from e,m]; omega)
    exact p.okE (l n (A_ _)) (o n (A_ _)) d (h.tk n (by omega))
   have s : ∀ i,i<n+1->vG K (ev i)=true->(fI ev K A0 i).Rf (ev i):=fun i a e=>by
    by_cases q:i=n
    ·subst q; exact f e
    ·exact v i (by omega) e
   refine⟨fun i a => ?_,s⟩;by_cases q:i=n+1
   ·subst q
    cases c:vG K (ev n)with
    | true=>rw[lJ c]; exact Ab.aew (o n (A_ _)) (f c).pre
    | false=>rw[lU c]; exact o n (A_ _)
   ·exact o i (by omega)
end
end Rt
end
section
namespace Rt
section
variable {A0:Ab} {ev:Nat->EvM} {an n m i j k:Nat} {K:Nat->Int}
theorem Cw(h:Evs A0 ev an)(a:j<an) : ∀ m,j<=m->m<=an->fI ev (ev j).deps A0 m=fI ev (ev j).deps A0 j
 | 0,h1,_=>by obtain rfl:j=0:=(by omega); rfl
 | m+1,h1,h2=>by
   by_cases e:j=m+1
   ·rw[e]
   ·have c:vG (ev j).deps (ev m)=false:=by
     cases q:vG (ev j).deps (ev m)with
     | true=>have:=h.ahead (show m<an by omega) a q; omega
     | false=>rfl
    rw[lU c];exact Cw h a m (by omega) (by omega)
theorem WO{v:EvM}(h:bR v=true):v.deps (aO v)=v.seq-1:=by
 unfold bR at h; simp only[T_,decide_eq_true_eq]at h; exact h.1.1.1.2
theorem Ik(h:Evs A0 ev an)(l:OW ev an K)(b:j<an)(hr:dD K (ev j)=true)(h1:j<=m)(a:m<=an):(fI ev K A0 m).Rf (ev j):=by
 obtain⟨f,q⟩:=vH h m a (ev j).deps (h.dc j b);obtain⟨o,v⟩:=vH h m a K l;obtain⟨n,s,p⟩:=Gl hr;have c:=h.g j b;have d:=Jw h (aV (ev j)) c.reg.2 p m a f o q v (fun i r e k=>by
  refine mU.2 ?_;have:=mU.1 k;rw[show aO (ev i)=aO (ev j)from e]at this ⊢;rw[WO n]; omega)
 rw[Cw h b m h1 a]at d;exact d.okE (by rw[<- Cw h b m h1 a]; exact f m (A_ _)) (o m (A_ _)) c (h.tk j b)
def Jy(K:Nat->Int)(v:EvM):Nat->Int:=aI K (aO v) (K (aO v)+1)
theorem WQ(h:Evs A0 ev an)(a:j<an)(hr:dD K (ev j)=true)(hi:i<an)(b:i≠j):vG (Jy K (ev j)) (ev i)=vG K (ev i):=by
 have d:=(Gl hr).2.1;have:vG (Jy K (ev j)) (ev i)=true<->vG K (ev i)=true:=by
  rw[mU,mU];unfold Jy aI;split
  ·rename_i e;rw[e];constructor
   ·intro q;by_cases c:(ev i).seq<=K (aO (ev j))
    ·exact c
    ·exact N_ (h.uniq hi a e (by omega)) b
   ·intro q; omega
  ·exact Iff.rfl
 cases c1:vG (Jy K (ev j)) (ev i) <;> cases c2:vG K (ev i) <;> simp_all
theorem FN(h:Evs A0 ev an)(a:j<an)(hr:dD K (ev j)=true) : ∀ m,m<=j->fI ev (Jy K (ev j)) A0 m=fI ev K A0 m
 | 0,_=>rfl
 | m+1,hm=>by
   have e:=WQ h a hr (show m<an by omega) (show m≠j by omega)
   cases c:vG K (ev m)with
   | true=>rw[lJ (e.trans c),lJ c,FN h a hr m (by omega)]
   | false=>rw[lU (e.trans c),lU c,FN h a hr m (by omega)]
theorem Il(h:Evs A0 ev an)(b:OW ev an K)(a:j<an)(hr:dD K (ev j)=true) : ∀ m,j<m->m<=an->fI ev (Jy K (ev j)) A0 m=(fI ev K A0 m).qO (ev j)
 | 0,h1,_=>N_ h1 (z_ _)
 | m+1,h1,h2=>by
   have r:=(Gl hr).2.1;by_cases e:m=j
   ·subst e;have l:vG (Jy K (ev m)) (ev m)=true:=mU.2 (by unfold Jy aI; rw[d_ rfl]; omega);have n:vG K (ev m)=false:=by
     cases q:vG K (ev m)with
     | true=>have:=mU.1 q; omega
     | false=>rfl
    rw[lJ l,lU n,FN h a hr m (A_ _)]
   ·have k:=Il h b a hr m (by omega) (by omega);have f:=WQ h a hr (show m<an by omega) e
    cases c:vG K (ev m)with
    | true =>
      obtain⟨o,v⟩:=vH h (m+1) h2 K b;rw[lJ (f.trans c),lJ c,k];have i:(ev j).o≠(ev m).o:=fun q=>by
       have d:aO (ev j)=aO (ev m):=(by unfold aO; rw[q]);have s:=h.mono a (show m<an by omega) d (by omega);have p:=mU.1 c;rw[<- d]at p; omega
      exact Ab.WL (o m (by omega)) (Ik h b a hr (by omega) (by omega)).pre (v m (by omega) c).pre i (fun _ _=>Mg.ne (h.g j a) (h.g m (by omega)) i)
    | false=>rw[lU (f.trans c),lU c,k]
theorem Zw(h:Evs A0 ev an)(b:OW ev an K)(a:j<an)(hr:dD K (ev j)=true):fI ev (Jy K (ev j)) A0 an=(fI ev K A0 an).qO (ev j):=Il h b a hr an a (A_ _)
end
end Rt
end
section
namespace Rt
def eT(m:dU):Ab where
 inn:=m.inn
 left:=m.left
 own:=m.own
 has:=m.T.has
 par:=m.T.par
 R:=bA m
 gh:=iK m
 g:=fun o r j=>if iK m o r=true/\2<=j/\j<=4 then m.g (fE m o r) j else 0
 ask:=gW m
section
variable {m:dU} {T:dJ} {x y:Int} {v:EvM}
theorem Im{x p:Nat->Int} : ∀ {n:Nat} {k:Int},dP x n k=false->iC x p n k=0
 | 0,k,_=>rfl
 | n+1,k,h=>by
   have h:(dP x n k || decide (x n=k))=false:=h;rw[Bool.or_eq_false_iff]at h;show(if x n=k then p n else iC x p n k)=0;rw[b_ (j_ h.2)];exact Im h.1
def LJ(T:dJ)(x:Int):Nat->Int
 | 0=>x
 | i+1=>T.par (LJ T x i)
theorem FP(T:dJ)(x:Int) : ∀ i,LJ T x (i+1)=LJ T (T.par x) i
 | 0=>rfl
 | i+1=>by show T.par (LJ T x (i+1))=T.par (LJ T (T.par x) i); rw[FP T x i]
theorem Rh(h:T.has x=false):T.path x = []:=by
 have : ¬ T.has x=true:=by rw[h]; decide
 cases e:T.path x with
 | nil=>rfl
 | cons a l=>exact N_ (show jy T.x T.p T.n 4 x = []from kU h) (by rw[show jy T.x T.p T.n 4 x=T.path x from rfl,e]; exact fun q=>by cases q)
theorem Ej(g:T.ok) : ∀ n x,(T.path x).length<=n->(∀ i,i<(T.path x).length->(T.path x).getD i 0=LJ T x i/\T.has (LJ T x i)=true)/\T.has (LJ T x (T.path x).length)=false
 | 0,x,hn=>by
   have e:T.path x = []:=List.length_eq_zero_iff.1 (by omega);rw[e];refine⟨fun i d=>N_ d (z_ _),?_⟩
   cases c:T.has (LJ T x [].length)with
   | false=>rfl
   | true=>rw[dJ.step g (show T.has x=true from c)]at e; cases e
 | n+1,x,hn=>by
   cases c:T.has x with
   | false =>
     rw[Rh c];exact⟨fun i d=>N_ d (z_ _),c⟩
   | true =>
     have f:=dJ.step g c;have k:(T.path x).length=(T.path (T.par x)).length+1:=(by rw[f]; rfl);obtain⟨h,j⟩:=Ej g n (T.par x) (by omega);refine⟨fun i d => ?_,by rw[k,FP]; exact j⟩
     cases i with
     | zero=>rw[f]; exact⟨rfl,c⟩
     | succ i =>
       rw[FP];obtain⟨a,b⟩:=h i (by omega);refine⟨?_,b⟩;rw[f];exact a
theorem FQ(m:dU)(x:Int) : ∀ i,(eT m).up x i=LJ m.T x i
 | 0=>rfl
 | i+1=>by show m.T.par ((eT m).up x i)=m.T.par (LJ m.T x i); rw[FQ m x i]
theorem LK(a:T.ok){k:Nat}(h:T.has (LJ T x k)=false) : ∀ i,k<=i->T.has (LJ T x i)=false
 | 0,hi=>by obtain rfl:k=0:=(by omega); exact h
 | i+1,hi=>by
   by_cases e:k=i+1
   ·rw[<- e]; exact h
   ·have:=LK a h i (by omega);have b:T.par (LJ T x i)=0:=Im this;show T.has (T.par (LJ T x i))=false;rw[b]; exact Br.XL a
theorem Cx(j:m.T.ok)(x y:Int):(eT m).on x y=true<->y∈m.T.path x:=by
 obtain⟨h,n⟩:=Ej j _ x (A_ _);have o:=dJ.uf (T:=m.T) (k:=x);unfold Ab.on;rw[T_,List.any_eq_true,List.mem_iff_getElem];constructor
 ·rintro ⟨l,i,d,e⟩;have e:=h_ e;rw[FQ]at e;have f:i<(m.T.path x).length:=by
   by_cases c:i<(m.T.path x).length
   ·exact c
   ·have:=LK j n i (by omega);rw[e]at this;rw[show(eT m).has y=m.T.has y from rfl,this]at l; cases l
  refine⟨i,f,?_⟩;have:=(h i f).1;rw[r_,o_ f]at this;exact this.trans e
 rintro ⟨i,d,e⟩;obtain⟨a,b⟩:=h i d;rw[r_,o_ d]at a;have g:LJ m.T x i=y:=a.symm.trans e;refine⟨by rw[<- g]; exact b,i,P_.2 (by omega),f_ (by rw[FQ]; exact g)⟩
end
end Rt
end
section
namespace Rt
theorem yV{x:Nat->Int}{n:Int}{b:Bool}{a:Int}{off:Nat}(h:(bT x n b a off).2=0):may x=true/\1<=n/\n<=1125899906842624/\b=true/\a=0/\x off+n<=1125899906842624/\(bT x n b a off).1=upd x off (x off+n):=by
 rcases nW x n b a off with ⟨_,c,_⟩|⟨⟨hm,h1,c,hr,he,hx⟩,heq⟩
 ·exact N_ h c
 exact⟨hm,h1,c,hr,he,hx,by rw[heq]⟩
section
variable {m:dU} {x y:Int} {v:EvM}
theorem FT(b:m.T.ok){k:Int}(d:m.T.has k=true)(r:Nat->Int)(y:Int):bA (Cg m k r) y=if y=k then r else bA m y:=by
 unfold bA;show(if m.T.has y=true then aM m.R (m.idx k) r (m.idx y)else H9)=_;by_cases e:y=k
 ·subst e; rw[d_ d,d_ rfl]; unfold aM; rw[d_ rfl]
 rw[b_ e];by_cases c:m.T.has y=true
 ·rw[d_ c,d_ c];unfold aM;rw[b_]
  ·rfl
  intro q;have a:=(dU.Df b c).2;rw[q,(dU.Df b d).2]at a;exact e a.symm
 rw[b_ c,b_ c]
open Classical in
theorem Jz(a:m.T.ok)(f:(Nat->Int)->(Nat->Int) × Int)(x y:Int):bA (qM m f (m.T.path x)) y=if y∈m.T.path x then(f (bA m y)).1 else bA m y:=by
 unfold bA;show(if m.T.has y=true then(if m.T.x (m.idx y)∈m.T.path x then(f (m.R (m.idx y))).1 else m.R (m.idx y))else H9)=_;by_cases c:m.T.has y=true
 ·rw[d_ c,d_ c,(dU.Df a c).2]; rfl
 rw[b_ c,b_ c,b_ fun q=>c (dJ.lH a rfl y q)]
theorem vI(b:m.T.ok){f:(Nat->Int)->(Nat->Int) × Int}(h:dz m f (m.T.path x)=0)(hy:y∈m.T.path x):(f (bA m y)).2=0:=by
 obtain⟨i,a,e⟩:=List.getElem_of_mem hy;have:=FE h i a;rw[r_,o_ a]at this;rw[<- e];unfold bA;rw[d_ (dJ.lH b rfl _ (R_ a))];exact this
theorem Cy(h:bR v=true):v.o=(aV v:Int)+1/\aV v<6/\v.o.toNat-1=aV v:=by
 have:=nX h; unfold aV; omega
theorem JA{x:Nat->Int}{off:Nat}{n:Int}(p:Nat):upd x off (x off+n) p=x p+if p=off then n else 0:=by
 unfold upd;by_cases e:p=off
 ·subst e; rw[d_ rfl,d_ rfl]
 rw[b_ e,b_ e,E_]
theorem aey(f:m.T.ok)(k:bR v=true)(j:v.kind=1)(a:iY m v=0)(y:Int)(p:Nat):bA (Da m v) y p=bA m y p+(eT m).dl v y p:=by
 have d:m.T.has (nG v)=false:=by
  unfold iY at a;split at a
  ·cases a
  ·exact(Ey a).2.1
 have h:qZ v=nG v:=rM k;unfold Ab.dl;rw[d_ j,h];unfold bA;show(if(m.T.put (nG v) v.node).has y=true then aM m.R m.T.n (upd (fun _=>0) (aO v) v.aS) (zk (aM m.T.x m.T.n (nG v)) (m.T.n+1) y)else H9) p=_;rw[dJ.jD];by_cases e:nG v=y
 ·subst e;rw[f_ rfl,Bool.or_true,d_ rfl,d,b_ (by decide),Ll _ _ _ (fun i g e=>by have:=dJ.zF g; rw[e,d]at this; cases this)]
  unfold aM;rw[d_ rfl];show upd (fun _=>0) (aO v) v.aS p=0+_;unfold upd;rw[Int.zero_add];by_cases c:p=aO v
  ·rw[d_ c,d_ ⟨rfl,c⟩]
  rw[b_ c,b_ (fun q=>c q.2)]
 rw[g_ e,I_,b_ (show ¬ (y=nG v/\p=aV v)from fun q=>e q.1.symm),E_];by_cases c:m.T.has y=true
 ·rw[d_ c,d_ c,Lm _ _ e];have b:=(dU.Df f c).1;have b:zk m.T.x m.T.n y<m.T.n:=b;unfold aM;rw[b_ (by omega)];rfl
 rw[b_ c,b_ c]
theorem Zx(f:m.T.ok)(g:bR v=true)(d:v.kind=2)(a:jE m v=0)(y:Int)(p:Nat):bA (uH m v) y p=bA m y p+(eT m).dl v y p:=by
 have b:m.T.has v.node=true:=by
  unfold jE at a
  cases c:m.T.has v.node with
  | true=>rfl
  | false=>rw[d_ c]at a; cases a
 unfold Ab.dl;rw[b_ (by rw[d]; decide),d_ d];unfold uH;rw[FT f b];by_cases e:y=v.node
 ·subst e;rw[d_ rfl,JA];unfold bA;rw[d_ b];show m.R (m.idx v.node) p+(if p=aO v then v.aS else 0)=m.R (m.idx v.node) p+_;by_cases c:p=aO v
  ·rw[d_ c,d_ ⟨rfl,c⟩]
  rw[b_ c,b_ (fun q=>c q.2)]
 rw[b_ e,b_ (fun q=>e q.1),E_]
theorem aez(j:m.T.ok)(z:bR v=true)(f:v.kind=5)(d:kK m v=0)(y:Int)(p:Nat):bA (CZ m v) y p=bA m y p+(eT m).dl v y p:=by
 have g:m.T.has v.node=true/\(sO m v).2=0:=by
  unfold kK at d
  cases c:m.T.has v.node with
  | true =>
    rw[b_ (by rw[c]; decide)]at d;split at d
    ·cases d
    ·exact⟨rfl,d⟩
  | false=>rw[d_ c]at d; cases d
 obtain⟨a,b,s,t,w,x,u,l,n,o,r,k⟩:=AZ g.2;have h:aV v=a:=by unfold aV; omega
 have i:dV v=b:=by unfold dV; omega
 unfold Ab.dl;rw[b_ (by rw[f]; decide),b_ (by rw[f]; decide),b_ (by rw[f]; decide),b_ (by rw[f]; decide),d_ f,h,i];unfold CZ;rw[FT j g.1];by_cases e:y=v.node
 ·subst e;rw[d_ rfl];unfold sO;rw[k,JA];unfold bA;rw[d_ g.1];show m.R (m.idx v.node) p+(if p=18+a*6+b then v.aS else 0)=m.R (m.idx v.node) p+_;by_cases c:p=18+a*6+b
  ·rw[d_ c,d_ ⟨rfl,by omega⟩]
  rw[b_ c,b_ (fun q=>c (by omega))]
 rw[b_ e,b_ (fun q=>e q.1),E_]
theorem WR(a:m.T.ok){f:(Nat->Int)->(Nat->Int) × Int}{x:Int}{n:Int}{off:Nat}(b : ∀ y,y∈m.T.path x->(f (bA m y)).1=upd (bA m y) off (bA m y off+n))(y:Int)(p:Nat):bA (qM m f (m.T.path x)) y p=bA m y p+if(eT m).on x y=true/\p=off then n else 0:=by
 rw[Jz a];by_cases c:y∈m.T.path x
 ·rw[d_ c,b y c,JA];by_cases e:p=off
  ·rw[d_ e,d_ ⟨(Cx a x y).2 c,e⟩]
  rw[b_ e,b_ (fun q=>e q.2)]
 rw[b_ c,b_ (fun q=>c ((Cx a x y).1 q.1)),E_]
theorem aeA(d:m.T.ok)(g:bR v=true)(b:v.kind=3)(a:jK m v=0)(y:Int)(p:Nat):bA (kL m v) y p=bA m y p+(eT m).dl v y p:=by
 have e:dz m (fun x=>bC x v.o v.aS) (m.T.path v.node)=0:=by
  unfold jK at a;split at a
  ·cases a
  split at a
  ·cases a
  exact a
 unfold Ab.dl;rw[b_ (by rw[b]; decide),b_ (by rw[b]; decide),d_ b];refine WR d (f:=fun x=>bC x v.o v.aS) (x:=v.node) (fun y h => ?_) y p;have c:(bC (bA m y) v.o v.aS).2=0:=vI d e h;unfold bC at c;show(bC (bA m y) v.o v.aS).1=_;unfold bC;rw[(yV c).2.2.2.2.2.2,(Cy g).2.2]
theorem aeB(i:m.T.ok)(l:bR v=true)(b:v.kind=4)(a:jo m v=0)(y:Int)(p:Nat):bA (iF m v) y p=bA m y p+(eT m).dl v y p:=by
 have d:iK m v.o v.of=true/\dz m (fun x=>bG x v.o (m.g (fE m v.o v.of) 3)) (m.T.path (m.g (fE m v.o v.of) 2))=0:=by
  unfold jo at a;split at a
  ·cases a
  split at a
  ·cases a
  rename_i c;refine⟨?_,a⟩
  cases e:iK m v.o v.of with
  | true=>rfl
  | false=>exact N_ (.inl e) c
 have j:(eT m).g v.o v.of 2=m.g (fE m v.o v.of) 2:=d_ ⟨d.1,by decide,by decide⟩;have k:(eT m).g v.o v.of 3=m.g (fE m v.o v.of) 3:=d_ ⟨d.1,by decide,by decide⟩;unfold Ab.dl;rw[b_ (by rw[b]; decide),b_ (by rw[b]; decide),b_ (by rw[b]; decide),d_ b,j,k];refine WR i (f:=fun x=>bG x v.o (m.g (fE m v.o v.of) 3)) (x:=m.g (fE m v.o v.of) 2) (fun y n => ?_) y p;have h:(bG (bA m y) v.o (m.g (fE m v.o v.of) 3)).2=0:=vI i d.2 n;unfold bG at h;show(bG (bA m y) v.o (m.g (fE m v.o v.of) 3)).1=_;unfold bG;rw[(yV h).2.2.2.2.2.2,(Cy l).2.2]
theorem LM{m':dU}(a:m'.an=m.an+1)(b:m'.ao=aM m.ao m.an v.o)(c:m'.ar=aM m.ar m.an v.req)(o r:Int):gW m' o r=(gW m o r || (decide (o=v.o)&&decide (r=v.req))):=by
 have:gW m' o r=true<->(gW m o r=true\/(v.o=o/\v.req=r)):=by unfold gW; rw[a,b,c]; exact FJ
 rw[Bool.eq_iff_iff,this,Bool.or_eq_true,T_,Q_,Q_];exact⟨fun h=>h.imp id fun q=>⟨q.1.symm,q.2.symm⟩,fun h=>h.imp id fun q=>⟨q.1.symm,q.2.symm⟩⟩
theorem WS{k1 k2:Nat->Int}{n:Nat}{a b o r:Int}(h : ¬ (a=o/\b=r)):wU (aM k1 n a) (aM k2 n b) (n+1) o r=wU k1 k2 n o r:=by
 have d : ∀ k,k<=n->wU (aM k1 n a) (aM k2 n b) k o r=wU k1 k2 k o r:=fun k=>by
  induction k with
  | zero=>intro _; rfl
  | succ k ih =>
    intro e;show(if aM k1 n a k=o/\aM k2 n b k=r then k else _)=(if k1 k=o/\k2 k=r then k else _);rw[ih (by omega)];have c : ¬ k=n:=(by omega);rw[show aM k1 n a k=k1 k from b_ c,show aM k2 n b k=k2 k from b_ c]
 show(if aM k1 n a n=o/\aM k2 n b n=r then n else wU (aM k1 n a) (aM k2 n b) n o r)=_;rw[d n (A_ _)];rw[show aM k1 n a n=a from d_ rfl,show aM k2 n b n=b from d_ rfl,b_ h]
theorem WT{k1 k2:Nat->Int}{n:Nat}{a b:Int}:wU (aM k1 n a) (aM k2 n b) (n+1) a b=n:=by
 show(if aM k1 n a n=a/\aM k2 n b n=b then n else _)=_;unfold aM;rw[d_ ⟨d_ rfl,d_ rfl⟩]
theorem yX(g:Nat->Nat->Int)(n:Nat)(r:Nat->Int)(j:Nat):(fun i=>aM g n r i j)=aM (fun i=>g i j) n (r j):=by
 funext i; unfold aM; split <;> rfl
end
end Rt
end
section
namespace Rt
section
variable {m:dU} {x y:Int} {v:EvM}
theorem jr{b c:Bool}(h:c=false):b=(b || c):=by rw[h,I_]
theorem JU{k:Int}(h:v.kind≠k){c:Bool}:(decide (v.kind=k)&&c)=false:=by rw[g_ h]; rfl
theorem WU(i:m.T.ok)(e:bR v=true)(a:v.kind=1)(h:iY m v=0):eT (Da m v)=(eT m).qO v:=by
 have d:qZ v=nG v:=rM e;have b:v.kind≠3:=by rw[a]; decide
 have f:v.kind≠4:=by rw[a]; decide
 have k:v.kind≠6:=by rw[a]; decide
 have l:v.kind≠7:=by rw[a]; decide
 apply Ab.Rc
 ·funext j; exact jr (JU k)
 ·funext j; exact jr (JU l)
 ·funext j
  show aI m.own (aO v) (m.own (aO v)+1) j=m.own j+if v.kind=1/\j=aV v then 1 else 0;unfold aI;by_cases c:j=aO v
  ·rw[d_ c,d_ ⟨a,c⟩,c]
  rw[b_ c,b_ (fun q=>c q.2),E_]
 ·funext y
  show(m.T.put (nG v) v.node).has y=(m.T.has y || (decide (v.kind=1)&&decide (y=qZ v)));rw[dJ.jD,d,f_ a,Bool.true_and]
  congr 1
  exact decide_eq_decide.2 ⟨Eq.symm,Eq.symm⟩
 ·funext y
  show(m.T.put (nG v) v.node).par y=if v.kind=1/\y=qZ v then v.node else m.T.par y;rw[dJ.tO,d];by_cases c:nG v=y
  ·rw[d_ c,d_ ⟨a,c.symm⟩]
  rw[b_ c,b_ (fun q=>c q.2.symm)]
 ·funext y p; exact aey i e a h y p
 ·funext o r; exact jr (JU b)
 ·funext o r j
  show(eT m).g o r j=if v.kind=3/\_ then _ else if v.kind=4/\_ then _ else _;rw[b_ (fun q=>b q.1),b_ (fun q=>f q.1)]
 funext o r
 show gW m o r=(gW m o r || ((decide (v.kind=3) || decide (v.kind=4))&&_));rw[g_ b,g_ f];exact jr rfl
theorem LP{m':dU}(e:m'.inn=m.inn)(f:m'.left=m.left)(h:m'.own=m.own)(c:m'.T=m.T)(i : ∀ o r,iK m' o r=iK m o r)(k:(eT m').g=(eT m).g)(l : ∀ o r,gW m' o r=gW m o r)(a:v.kind≠1)(b:v.kind≠3)(d:v.kind≠4)(s:v.kind≠6)(t:v.kind≠7)
 (n : ∀ y p,bA m' y p=bA m y p+(eT m).dl v y p):eT m'=(eT m).qO v:=by
 apply Ab.Rc
 ·funext j; rw[show(eT m').inn j=m.inn j from congrFun e j]; exact jr (JU s)
 ·funext j; rw[show(eT m').left j=m.left j from congrFun f j]; exact jr (JU t)
 ·funext j
  rw[show(eT m').own j=m.own j from congrFun h j];show m.own j=m.own j+if v.kind=1/\j=aV v then 1 else 0;rw[b_ (fun q=>a q.1),E_]
 ·funext y; rw[show(eT m').has y=m.T.has y from by rw[<- c]; rfl]; exact jr (JU a)
 ·funext y
  rw[show(eT m').par y=m.T.par y from by rw[<- c]; rfl];show _=if v.kind=1/\y=qZ v then v.node else m.T.par y;rw[b_ (fun q=>a q.1)]
 ·funext y p; exact n y p
 ·funext o r; rw[show(eT m').gh o r=iK m o r from i o r]; exact jr (JU b)
 ·funext o r j
  rw[k];show(eT m).g o r j=if v.kind=3/\_ then _ else if v.kind=4/\_ then _ else _;rw[b_ (fun q=>b q.1),b_ (fun q=>d q.1)]
 funext o r
 rw[show(eT m').ask o r=gW m o r from l o r];show gW m o r=(gW m o r || ((decide (v.kind=3) || decide (v.kind=4))&&_));rw[g_ b,g_ d];exact jr rfl
theorem Ri(c:m.T.ok)(d:bR v=true)(a:v.kind=2)(b:jE m v=0):eT (uH m v)=(eT m).qO v :=
 LP rfl rfl rfl rfl (fun _ _=>rfl) rfl (fun _ _=>rfl) (by rw[a]; decide) (by rw[a]; decide) (by rw[a]; decide) (by rw[a]; decide) (by rw[a]; decide) (Zx c d a b)
theorem WV(c:m.T.ok)(d:bR v=true)(a:v.kind=5)(b:kK m v=0):eT (CZ m v)=(eT m).qO v :=
 LP rfl rfl rfl rfl (fun _ _=>rfl) rfl (fun _ _=>rfl) (by rw[a]; decide) (by rw[a]; decide) (by rw[a]; decide) (by rw[a]; decide) (by rw[a]; decide) (aez c d a b)
theorem JC{k1 k2:Nat->Int}{a b:Int} : ∀ {n:Nat},Bl k1 k2 n a b=true->wU k1 k2 n a b<n
 | 0,h=>by cases h
 | n+1,h=>by
   unfold wU;by_cases c:k1 n=a/\k2 n=b
   ·rw[d_ c]; omega
   ·rw[b_ c];obtain⟨j,g,d,f⟩:=lI.1 h;by_cases e:j=n
    ·subst e; exact N_ ⟨d,f⟩ c
    ·have:=JC (sQ (show j<n by omega) d f); omega
theorem Zy(h1:v.kind≠1)(a:v.kind≠2)(b:v.kind≠3)(c:v.kind≠4)(d:v.kind≠5)(A:Ab)(y:Int)(p:Nat):A.dl v y p=0:=by
 unfold Ab.dl;rw[b_ h1,b_ a,b_ b,b_ c,b_ d]
theorem Io{A B:Ab}(h1:v.kind≠1)(n:v.kind≠2)(a:v.kind≠3)(b:v.kind≠4)(s:v.kind≠5)(c : ∀ j,B.inn j=(A.inn j || (decide (v.kind=6)&&decide (j=dV v))))(d : ∀ j,B.left j=(A.left j || (decide (v.kind=7)&&decide (j=aV v))))(e:B.own=A.own)(f:B.has=A.has)(h:B.par=A.par)(i:B.R=A.R)(k:B.gh=A.gh)(l:B.g=A.g)(m:B.ask=A.ask):B=A.qO v:=by
 apply Ab.Rc
 ·funext j; exact c j
 ·funext j; exact d j
 ·funext j; rw[e]; show A.own j=A.own j+if v.kind=1/\j=aV v then 1 else 0; rw[b_ (fun q=>h1 q.1),E_]
 ·funext y; rw[f]; exact jr (JU h1)
 ·funext y; rw[h]; show _=if v.kind=1/\y=qZ v then v.node else A.par y; rw[b_ (fun q=>h1 q.1)]
 ·funext y p; rw[i]; show _=A.R y p+A.dl v y p; rw[Zy h1 n a b s,E_]
 ·funext o r; rw[k]; exact jr (JU a)
 ·funext o r j
  rw[l];show A.g o r j=if v.kind=3/\_ then _ else if v.kind=4/\_ then _ else _;rw[b_ (fun q=>a q.1),b_ (fun q=>b q.1)]
 funext o r
 rw[m];show A.ask o r=(A.ask o r || ((decide (v.kind=3) || decide (v.kind=4))&&_));rw[g_ a,g_ b];exact jr rfl
theorem LQ{f:Nat->Bool}{k j:Nat}{c:Bool}(a:c=true):aI f k true j=(f j || (c&&decide (j=k))):=by
 rw[a,Bool.true_and];unfold aI;by_cases e:j=k
 ·rw[d_ e,f_ e,Bool.or_true]
 rw[b_ e,g_ e,I_]
theorem WW(a:v.kind=6):eT (Hy m v)=(eT m).qO v :=
 Io (by rw[a]; decide) (by rw[a]; decide) (by rw[a]; decide) (by rw[a]; decide) (by rw[a]; decide) (fun j=>LQ (f_ a)) (fun j=>jr (JU (by rw[a]; decide))) rfl rfl rfl rfl rfl rfl rfl
theorem Rj(a:v.kind=7):eT (Ch m v)=(eT m).qO v :=
 Io (by rw[a]; decide) (by rw[a]; decide) (by rw[a]; decide) (by rw[a]; decide) (by rw[a]; decide) (fun j=>jr (JU (by rw[a]; decide))) (fun j=>LQ (k:=aO v) (f_ a)) rfl rfl rfl rfl rfl rfl rfl
theorem WX(z:m.T.ok)(A:Q0 m)(u:bR v=true)(b:v.kind=3)(k:jK m v=0):eT (kL m v)=(eT m).qO v:=by
 have G:qZ v=nG v:=rM u;have n:v.kind≠1:=by rw[b]; decide
 have C:v.kind≠4:=by rw[b]; decide
 have D:v.kind≠6:=by rw[b]; decide
 have E:v.kind≠7:=by rw[b]; decide
 have B:gW m v.o v.req=false:=by
  unfold jK at k
  cases c:gW m v.o v.req with
  | false=>rfl
  | true=>rw[d_ c]at k; cases k
 have F:iK m v.o v.req=false:=pJ fun i t e=>by
  have:=A i t;rw[e.1,e.2,B]at this; cases this
 have s : ∀ o r,iK (kL m v) o r=(iK m o r || (decide (o=v.o)&&decide (r=v.req))):=fun o r=>by
  have d:=yX m.g m.gn (qy v) 0;have f:=yX m.g m.gn (qy v) 1;have:iK (kL m v) o r=true<->(iK m o r=true\/(v.o=o/\v.req=r)):=by
   show Bl (fun i=>aM m.g m.gn (qy v) i 0) (fun i=>aM m.g m.gn (qy v) i 1) (m.gn+1) o r=true<->_;rw[d,f]; exact FJ
  rw[Bool.eq_iff_iff,this,Bool.or_eq_true,T_,Q_,Q_];exact⟨fun h=>h.imp id fun q=>⟨q.1.symm,q.2.symm⟩,fun h=>h.imp id fun q=>⟨q.1.symm,q.2.symm⟩⟩
 have x : ∀ o r,fE (kL m v) o r=wU (aM (fun i=>m.g i 0) m.gn v.o) (aM (fun i=>m.g i 1) m.gn v.req) (m.gn+1) o r:=fun o r=>by
  have d:=yX m.g m.gn (qy v) 0;have f:=yX m.g m.gn (qy v) 1;show wU (fun i=>aM m.g m.gn (qy v) i 0) (fun i=>aM m.g m.gn (qy v) i 1) (m.gn+1) o r=_;rw[d,f]; rfl
 apply Ab.Rc
 ·funext j; exact jr (JU D)
 ·funext j; exact jr (JU E)
 ·funext j
  show m.own j=m.own j+if v.kind=1/\j=aV v then 1 else 0;rw[b_ (fun q=>n q.1),E_]
 ·funext y; exact jr (JU n)
 ·funext y
  show m.T.par y=if v.kind=1/\y=qZ v then v.node else m.T.par y;rw[b_ (fun q=>n q.1)]
 ·funext y p; exact aeA z u b k y p
 ·funext o r
  show iK (kL m v) o r=(iK m o r || (decide (v.kind=3)&&(decide (o=v.o)&&decide (r=v.req))));rw[s,f_ b,Bool.true_and]
 ·funext o r j
  show(if iK (kL m v) o r=true/\2<=j/\j<=4 then(kL m v).g (fE (kL m v) o r) j else 0)=if v.kind=3/\o=v.o/\r=v.req then(if j=2 then v.node else if j=3 then v.aS else 0)else if v.kind=4/\_ then _ else(if iK m o r=true/\2<=j/\j<=4 then m.g (fE m o r) j else 0);rw[s,x];by_cases c:o=v.o/\r=v.req
  ·rw[d_ (show v.kind=3/\o=v.o/\r=v.req from⟨b,c⟩),c.1,c.2,WT,f_ (rfl:v.o=v.o),f_ (rfl:v.req=v.req),Bool.and_self,Bool.or_true];show(if true=true/\2<=j/\j<=4 then aM m.g m.gn (qy v) m.gn j else 0)=_;rw[show aM m.g m.gn (qy v) m.gn=qy v from d_ rfl];by_cases a:j=2
   ·rw[d_ a,a,d_ ⟨rfl,by decide,by decide⟩]; rfl
   rw[b_ a];by_cases l:j=3
   ·rw[d_ l,l,d_ ⟨rfl,by decide,by decide⟩]; rfl
   rw[b_ l];by_cases w:j=4
   ·rw[w,d_ ⟨rfl,by decide,by decide⟩]; rfl
   rw[b_ (by omega)]
  rw[b_ (show ¬ (v.kind=3/\o=v.o/\r=v.req)from fun q=>c q.2),b_ (show ¬ (v.kind=4/\o=v.o/\r=v.of/\j=4)from fun q=>C q.1),WS (fun q=>c ⟨q.1.symm,q.2.symm⟩)];have:(decide (o=v.o)&&decide (r=v.req))=false:=by
   cases e:(decide (o=v.o)&&decide (r=v.req))with
   | false=>rfl
   | true=>rw[T_,Q_,Q_]at e; exact N_ e c
  rw[this,I_];by_cases a:iK m o r=true/\2<=j/\j<=4
  ·rw[d_ a,d_ a];obtain⟨i,t,d,f⟩:=lI.1 a.1;have:wU (fun i=>m.g i 0) (fun i=>m.g i 1) m.gn o r<m.gn:=JC a.1;show aM m.g m.gn (qy v) _ j=_;unfold aM;rw[b_ (by omega)];rfl
  rw[b_ a,b_ a]
 funext o r
 show gW (kL m v) o r=(gW m o r || ((decide (v.kind=3) || decide (v.kind=4))&&(decide (o=v.o)&&decide (r=v.req))));rw[f_ b,Bool.true_or,Bool.true_and];exact LM rfl rfl rfl o r
theorem FU{k1 k2:Nat->Int}{a b:Int} : ∀ {n:Nat},Bl k1 k2 n a b=true->k1 (wU k1 k2 n a b)=a/\k2 (wU k1 k2 n a b)=b
 | 0,h=>by cases h
 | n+1,h=>by
   unfold wU;by_cases c:k1 n=a/\k2 n=b
   ·rw[d_ c]; exact c
   ·rw[b_ c];obtain⟨j,g,d,f⟩:=lI.1 h;by_cases e:j=n
    ·subst e; exact N_ ⟨d,f⟩ c
    ·exact FU (sQ (show j<n by omega) d f)
theorem WY(G:m.T.ok)(J:bR v=true)(a:v.kind=4)(b:jo m v=0):eT (iF m v)=(eT m).qO v:=by
 have k:v.kind≠1:=by rw[a]; decide
 have x:v.kind≠3:=by rw[a]; decide
 have K:v.kind≠6:=by rw[a]; decide
 have L:v.kind≠7:=by rw[a]; decide
 have f:iK m v.o v.of=true:=by
  unfold jo at b;split at b
  ·cases b
  split at b
  ·cases b
  rename_i c
  cases e:iK m v.o v.of with
  | true=>rfl
  | false=>exact N_ (.inl e) c
 have M:fE m v.o v.of<m.gn:=JC f;have h : ∀ i j,j≠4->aM m.g (fE m v.o v.of) (upd (m.g (fE m v.o v.of)) 4 v.req) i j=m.g i j:=fun i j H=>by
  unfold aM;by_cases c:i=fE m v.o v.of
  ·rw[d_ c,c]; unfold upd; rw[b_ H]
  ·rw[b_ c]
 have n:(fun i=>(iF m v).g i 0)=fun i=>m.g i 0:=by funext i; exact h i 0 (by decide)
 have s:(fun i=>(iF m v).g i 1)=fun i=>m.g i 1:=by funext i; exact h i 1 (by decide)
 have w : ∀ o r,iK (iF m v) o r=iK m o r:=fun o r=>by
  show Bl (fun i=>(iF m v).g i 0) (fun i=>(iF m v).g i 1) m.gn o r=_;rw[n,s]; rfl
 have F : ∀ o r,fE (iF m v) o r=fE m o r:=fun o r=>by
  show wU (fun i=>(iF m v).g i 0) (fun i=>(iF m v).g i 1) m.gn o r=_;rw[n,s]; rfl
 apply Ab.Rc
 ·funext j; exact jr (JU K)
 ·funext j; exact jr (JU L)
 ·funext j
  show m.own j=m.own j+if v.kind=1/\j=aV v then 1 else 0;rw[b_ (fun q=>k q.1),E_]
 ·funext y; exact jr (JU k)
 ·funext y
  show m.T.par y=if v.kind=1/\y=qZ v then v.node else m.T.par y;rw[b_ (fun q=>k q.1)]
 ·funext y p; exact aeB G J a b y p
 ·funext o r
  show iK (iF m v) o r=(iK m o r || (decide (v.kind=3)&&_));rw[w]; exact jr (JU x)
 ·funext o r j
  show(if iK (iF m v) o r=true/\2<=j/\j<=4 then(iF m v).g (fE (iF m v) o r) j else 0)=if v.kind=3/\o=v.o/\r=v.req then _ else if v.kind=4/\o=v.o/\r=v.of/\j=4 then v.req else(if iK m o r=true/\2<=j/\j<=4 then m.g (fE m o r) j else 0);rw[w,F,b_ (show ¬ (v.kind=3/\o=v.o/\r=v.req)from fun q=>x q.1)];show(if iK m o r=true/\2<=j/\j<=4 then aM m.g (fE m v.o v.of) (upd (m.g (fE m v.o v.of)) 4 v.req) (fE m o r) j else 0)=_;by_cases c:v.kind=4/\o=v.o/\r=v.of/\j=4
  ·rw[d_ c,c.2.1,c.2.2.1,c.2.2.2,d_ ⟨f,by decide,by decide⟩];unfold aM upd; rw[d_ rfl,d_ rfl]
  rw[b_ c];by_cases d:iK m o r=true/\2<=j/\j<=4
  ·rw[d_ d,d_ d];by_cases l:j=4
   ·have I:fE m o r≠fE m v.o v.of:=fun e=>c ⟨a,by
     obtain⟨z,A⟩:=FU d.1;obtain⟨B,C⟩:=FU f;have t:m.g (fE m o r) 0=o:=z;have D:m.g (fE m v.o v.of) 0=v.o:=B;have u:m.g (fE m o r) 1=r:=A;have E:m.g (fE m v.o v.of) 1=v.of:=C;rw[e]at t u;exact⟨t.symm.trans D,u.symm.trans E,l⟩⟩
    unfold aM; rw[b_ I]
   exact h _ j l
  rw[b_ d,b_ d]
 funext o r
 show gW (iF m v) o r=(gW m o r || ((decide (v.kind=3) || decide (v.kind=4))&&(decide (o=v.o)&&decide (r=v.req))));rw[f_ a,Bool.or_true,Bool.true_and];exact LM rfl rfl rfl o r
theorem WZ(c:m.T.ok)(j:Q0 m)(b:bR v=true)(a:eF m v=0):eT (iO m v)=(eT m).qO v:=by
 have k:=jh b;unfold eF at a;unfold iO;by_cases d:v.kind=1
 ·rw[d_ d]at a ⊢; exact WU c b d a
 rw[b_ d]at a ⊢;by_cases e:v.kind=2
 ·rw[d_ e]at a ⊢; exact Ri c b e a
 rw[b_ e]at a ⊢;by_cases f:v.kind=3
 ·rw[d_ f]at a ⊢; exact WX c j b f a
 rw[b_ f]at a ⊢;by_cases g:v.kind=4
 ·rw[d_ g]at a ⊢; exact WY c b g a
 rw[b_ g]at a ⊢;by_cases h:v.kind=5
 ·rw[d_ h]at a ⊢; exact WV c b h a
 rw[b_ h]at a ⊢;by_cases i:v.kind=6
 ·rw[d_ i]; exact WW i
 rw[b_ i]; exact Rj (by omega)
theorem Rl(c:m.T.ok)(d:Q0 m)(a:bV m v=0):eT (jL m v)=(eT m).qO v:=by
 have b:=WZ c d (qj a) (ql a).2.1;unfold jL;rw[d_ a];exact b
end
end Rt
end
section
namespace Rt
structure Ab.Sm(A:Ab)(N:Nat):Prop where
 r : ∀ y p,A.R y p<=65536*N
 g : ∀ o r,A.gh o r=true->1<=A.g o r 3/\A.g o r 3<=65536
structure RD(m:dU):Prop where
 n:(m.T.n:Int)=m.own 0+m.own 1+m.own 2+m.own 3+m.own 4+m.own 5
 o : ∀ a,a<6->m.own a<=5
section
variable {A:Ab} {m:dU} {L:fZ} {N S:Nat} {x y:Int} {v:EvM}
theorem Ab.Sm.dl(m:A.Sm S)(l:A.Pre v)(k:oz v)(y:Int)(p:Nat):A.dl v y p<=65536:=by
 have b:=k.aS;have a : ∀ {c:Prop} [Decidable c] {n:Int},n<=65536->(if c then n else 0)<=65536:=fun {c} _ {n} h=>by split <;> omega
 unfold Ab.dl;by_cases e:v.kind=1
 ·rw[d_ e]; exact a b
 rw[b_ e];by_cases f:v.kind=2
 ·rw[d_ f]; exact a b
 rw[b_ f];by_cases i:v.kind=3
 ·rw[d_ i]; exact a b
 rw[b_ i];by_cases d:v.kind=4
 ·rw[d_ d]; exact a (m.g _ _ (l.n4 d)).2
 rw[b_ d];by_cases j:v.kind=5
 ·rw[d_ j]; exact a b
 rw[b_ j]; decide
theorem Ab.Sm.qO(b:A.Sm S)(f:A.Pre v)(h:bR v=true)(d:oz v):(A.qO v).Sm (S+1) where
 r:=fun y p=>by
  have i:=b.r y p;have j:=b.dl f d y p;show A.R y p+A.dl v y p<=_;omega
 g:=fun o r a=>by
  have a:(A.gh o r || (decide (v.kind=3)&&(decide (o=v.o)&&decide (r=v.req))))=true:=a;by_cases c:v.kind=3/\o=v.o/\r=v.req
  ·have:(A.qO v).g o r 3=v.aS:=(by show(if v.kind=3/\o=v.o/\r=v.req then _ else _)=v.aS; rw[d_ c]; rfl);rw[this]; exact⟨(kZ h (.inr (.inl c.1))).1,d.aS⟩
  ·have e:A.gh o r=true:=by
    rcases D_.1 a with q|q
    ·exact q
    ·rw[T_,T_]at q; exact N_ ⟨h_ q.1,h_ q.2.1,h_ q.2.2⟩ c
   rw[Ab.LH f e 3 (by decide)];exact b.g o r e
theorem RD.row{m':dU}(h:RD m)(a:m'.T=m.T)(b:m'.own=m.own):RD m':=by
 cases m'; cases m; cases a; cases b; exact⟨h.n,h.o⟩
theorem RD.does(h:RD m)(l:bR v=true)(b:eF m v=0):RD (iO m v):=by
 unfold eF at b;unfold iO;by_cases c:v.kind=1
 ·rw[d_ c]at b ⊢;have q:m.own (aO v)<5:=by
   unfold iY at b;split at b
   ·cases b
   ·omega
  have r:=mR l;have p:=h.n;refine⟨?_,fun a k => ?_⟩
  ·show((m.T.n+1:Nat):Int)=aI m.own (aO v) (m.own (aO v)+1) 0+aI m.own (aO v) (m.own (aO v)+1) 1+aI m.own (aO v) (m.own (aO v)+1) 2+aI m.own (aO v) (m.own (aO v)+1) 3+aI m.own (aO v) (m.own (aO v)+1) 4+aI m.own (aO v) (m.own (aO v)+1) 5;unfold aI
   rcases(show aO v=0\/aO v=1\/aO v=2\/aO v=3\/aO v=4\/aO v=5 by omega)with e|e|e|e|e|e <;> rw[e] <;> simp <;> omega
  show aI m.own (aO v) (m.own (aO v)+1) a<=5;have:=h.o a k;unfold aI; split <;> omega
 rw[b_ c];by_cases d:v.kind=2
 ·rw[d_ d]; exact h.row rfl rfl
 rw[b_ d];by_cases f:v.kind=3
 ·rw[d_ f]; exact h.row rfl rfl
 rw[b_ f];by_cases g:v.kind=4
 ·rw[d_ g]; exact h.row rfl rfl
 rw[b_ g];by_cases i:v.kind=5
 ·rw[d_ i]; exact h.row rfl rfl
 rw[b_ i];by_cases j:v.kind=6
 ·rw[d_ j]; exact h.row rfl rfl
 rw[b_ j]; exact h.row rfl rfl
theorem RD.apply(h:RD m):RD (jL m v):=by
 unfold jL;by_cases c:bV m v=0
 ·rw[d_ c]; exact(h.does (qj c) (ql c).2.1).row rfl rfl
 rw[b_ c]; exact h
theorem aaB(x:Nat->Int)(a:Nat):Rt.L x a=Ae x a:=by
 have e : ∀ i,R x a i=x (18+(6*a+i)):=fun i=>by unfold R; congr 1; omega
 have b:R x 0 a=x (18+(6*0+a)):=by unfold R; congr 1; omega
 have c:R x 1 a=x (18+(6*1+a)):=by unfold R; congr 1; omega
 have d:R x 2 a=x (18+(6*2+a)):=by unfold R; congr 1; omega
 have f:R x 3 a=x (18+(6*3+a)):=by unfold R; congr 1; omega
 have g:R x 4 a=x (18+(6*4+a)):=by unfold R; congr 1; omega
 have h:R x 5 a=x (18+(6*5+a)):=by unfold R; congr 1; omega
 unfold Rt.L Ae;rw[e,e,e,e,e,e,b,c,d,f,g,h];unfold G C F;omega
theorem vJ{x:Nat->Int}(h:may x=true)(b:bR v=true):fT x v.o=Ae x (aV v):=by
 obtain⟨e,a,_⟩:=Cy b;rw[e,mJ h _ a,aaB]
theorem yD{x:Nat->Int}{n:Int}{b:Bool}{a:Int}{off:Nat}(h1:may x=true)(c:1<=n)(d:n<=1125899906842624)(e:b=true)(f:a=0)(g:x off+n<=1125899906842624):(bT x n b a off).2=0:=by
 rcases nW x n b a off with ⟨_,_,h⟩|⟨_,h⟩
 ·exact N_ ⟨h1,c,d,e,f,g⟩ h
 rw[h]
theorem Dk{f:(Nat->Int)->(Nat->Int) × Int}{r:Nat->Nat->Int} : ∀ {n:Nat},(∀ i,i<n->(f (r i)).2=0)->gN f r n=0
 | 0,_=>rfl
 | n+1,h=>Cn (Dk fun i a=>h i (by omega)) (h n (by omega))
theorem FV(c:m.T.ok){f:(Nat->Int)->(Nat->Int) × Int}{x:Int}(h : ∀ y,y∈m.T.path x->(f (bA m y)).2=0):dz m f (m.T.path x)=0 :=
 Dk fun i a=>by
  have b:(m.T.path x).getD i 0∈m.T.path x:=by
   rw[r_,o_ a]; exact R_ a
  have:=h _ b;unfold bA at this;rw[d_ (dJ.lH c rfl _ b)]at this;exact this
theorem Af(h:bR v=true)(b:v.kind=5):1<=v.dst/\v.dst<=6/\v.dst≠v.o:=by
 unfold bR at h;simp only[T_]at h;have a:=h.2;unfold dF at a;rw[b_ (by omega),b_ (by omega),b_ (by omega),b_ (by omega),d_ b,T_]at a;have:=a.2;unfold lY nS at this;simp at this;omega
theorem Py(a:bR v=true):gV v.o=true:=by have:=nX a; unfold gV; simp; omega
end
structure Tw(m:dU)(L:fZ)(N S:Nat):Prop where
 t:F9 m L N
 w:RD m
 s:(eT m).Sm S
 b:S<=1000000
section
variable {m:dU} {L:fZ} {N S:Nat} {x y:Int} {v:EvM}
theorem F9.may(h:F9 m L N)(hy:m.T.has y=true):may (bA m y)=true:=by
 obtain⟨i,a,e⟩:=(h.s.T.has y).1 hy;unfold bA;rw[d_ hy,<- e,h.s.row i a];exact h.i.may i a
theorem Tw.cell(h:Tw m L N S)(y:Int)(p:Nat):bA m y p<=65536000000:=by
 have:=h.s.r y p;have a:=h.b;show(eT m).R y p<=_;omega
theorem Tw.make(h:Tw m L N S)(s:bR v=true)(k:v.kind=1)(j:(eT m).Rf v):iY m v=0:=by
 obtain⟨a,b,c⟩:=j.pre.n1 k;obtain⟨d,e,f⟩:=j.k1 k;have r:qZ v=nG v:=rM s;rw[r]at a b;unfold iY;have d:m.own (aO v)<5:=d;rw[b_ (show ¬ (5<=m.own (aO v)\/140737488355328<v.aS) by omega)];show rz m.T.x m.T.p m.T.n (nG v) v.node=0;unfold rz;have a:dP m.T.x m.T.n (nG v)=false:=a;rw[b_ b,b_ (by rw[a]; decide)];rw[b_ (show ¬ (¬ v.node=0/\dP m.T.x m.T.n v.node=false)from fun q=>by
  rcases c with c|c
  ·exact q.1 c
  ·have c:dP m.T.x m.T.n v.node=true:=c;rw[q.2]at c; cases c)]
 rw[b_];rintro (q|q)
 ·have y:=h.w.n;have g:=h.w.o;have:=g 0 (by decide); have:=g 1 (by decide); have:=g 2 (by decide); have:=g 3 (by decide); have:=g 4 (by decide); have:=g 5 (by decide);omega
 obtain⟨u,_⟩:=Ej h.t.t _ v.node (A_ _);exact f fun i l=>by
  rw[FQ];exact(u i (n_ l q)).2
theorem Tw.make'(h:Tw m L N S)(k:bR v=true)(o:v.kind=1)(a:iY m v=0):(qZ v≠0/\(eT m).has (qZ v)=false/\(v.node=0\/(eT m).has v.node=true))/\(eT m).own (aV v)<5/\v.aS<=140737488355328 /\ ¬ ∀ i,i<4->(eT m).has ((eT m).up v.node i)=true:=by
 have j:qZ v=nG v:=rM k;unfold iY at a;by_cases c:5<=m.own (aO v)\/140737488355328<v.aS
 ·rw[d_ c]at a; cases a
 rw[b_ c]at a;obtain⟨d,e,f,n,g⟩:=Ey a;rw[j];refine⟨⟨d,e,f⟩,?_,by omega,fun q => ?_⟩
 ·show m.own (aO v)<5;omega
 obtain⟨_,l⟩:=Ej h.t.t _ v.node (A_ _);have:=q _ (show(m.T.path v.node).length<4 from g);rw[FQ]at this;have b:m.T.has (LJ m.T v.node (m.T.path v.node).length)=true:=this;rw[l]at b; cases b
theorem Tw.does(h:Tw m L N S)(c:bR v=true)(I:oz v)(j:(eT m).Rf v):eF m v=0:=by
 have k:=h.t.t;have P:=j.pre;have D:=Py c;have G : ∀ y p n,n<=65536->bA m y p+n<=1125899906842624:=fun y p n U=>by have:=h.cell y p; omega
 unfold eF;by_cases E:v.kind=1
 ·rw[d_ E]; exact h.make c E j
 rw[b_ E];by_cases A:v.kind=2
 ·rw[d_ A];have a:m.T.has v.node=true:=P.n2 A;have:=j.k2 A;have e:(eT m).R v.node (aV v)=m.R (m.idx v.node) (aO v):=by
   show bA m v.node (aV v)=_;unfold bA; rw[d_ a]; rfl
  rw[e]at this;unfold jE;rw[b_ (by rw[a]; decide),b_ (by omega)]
 rw[b_ A];by_cases w:v.kind=3
 ·rw[d_ w];have a:m.T.has v.node=true:=(P.n3 w).1;obtain⟨b,i⟩:=j.k3 w;have b:gW m v.o v.req=false:=b;have r:=kZ c (.inr (.inl w));unfold jK;rw[b_ (by rw[b]; decide),b_ (by rw[a]; decide)];refine FV (f:=fun x=>bC x v.o v.aS) k fun y u => ?_;have d:=h.t.may (dJ.lH k rfl y u);have:=i y ((Cx k _ y).2 u);have this:v.aS<=Ae (bA m y) (aV v):=this;refine yD d r.1 r.2 D ?_ (G y _ _ I.aS);unfold pX;rw[vJ d c,g_ (by omega)]; rfl
 rw[b_ w];by_cases z:v.kind=4
 ·rw[d_ z];have a:iK m v.o v.of=true:=P.n4 z;obtain⟨b,i,J⟩:=j.k4 z;have b:gW m v.o v.req=false:=b;have K:(eT m).g v.o v.of 2=m.g (fE m v.o v.of) 2:=d_ ⟨a,by decide,by decide⟩;have H:(eT m).g v.o v.of 3=m.g (fE m v.o v.of) 3:=d_ ⟨a,by decide,by decide⟩;have M:(eT m).g v.o v.of 4=m.g (fE m v.o v.of) 4:=d_ ⟨a,by decide,by decide⟩;have B:=h.s.g _ _ (P.n4 z);rw[K,H]at J;rw[H]at B;rw[M]at i;unfold jo;rw[b_ (by rw[b]; decide),b_ (show ¬ (iK m v.o v.of=false\/m.g (fE m v.o v.of) 4≠0)from fun q=>q.elim (fun q=>by rw[a]at q; cases q) (fun q=>q i))]
  refine FV (f:=fun x=>bG x v.o (m.g (fE m v.o v.of) 3)) k fun y u => ?_;have d:=h.t.may (dJ.lH k rfl y u);have:=J y ((Cx k _ y).2 u);have this:m.g (fE m v.o v.of) 3<=bA m y (6+aV v)-bA m y (12+aV v):=this;refine yD d B.1 (by omega) D ?_ (G y _ _ B.2);unfold qW C F;rw[(Cy c).2.2,g_ (by omega)]; rfl
 rw[b_ z];by_cases l:v.kind=5
 ·rw[d_ l];have a:m.T.has v.node=true:=P.n5 l;obtain⟨b,i⟩:=j.k5 l;have b:m.inn (v.dst-1).toNat=true:=b;have i:v.aS<=Ae (bA m v.node) (aV v):=i;have r:=kZ c (.inr (.inr l));have d:=h.t.may a;have O:bA m v.node=m.R (m.idx v.node):=by unfold bA; rw[d_ a]; rfl
  have Q:=Af c l;unfold kK;rw[b_ (by rw[a]; decide),b_ (by rw[b]; decide)];show(dn (m.R (m.idx v.node)) v.o v.dst v.aS).2=0;rw[<- O];refine yD d r.1 r.2 (by rw[D,show gV v.dst=true by unfold gV; simp; omega]; rfl) ?_ (G _ _ _ I.aS);unfold nU;rw[b_ (fun e=>Q.2.2 e.symm),vJ d c,g_ (by omega)]; rfl
 rw[b_ l];split <;> rfl
theorem Tw.okE(h:Tw m L N S)(D:bR v=true)(h1:m.inn (aO v)=true)(p:m.left (aO v)=false)(d:eF m v=0):(eT m).Rf v:=by
 have B:=h.t.t;unfold eF at d;have no : ∀ {k:Int} {P:Prop},v.kind≠k->v.kind=k->P:=fun a b=>N_ b a;by_cases r:v.kind=1
 ·rw[d_ r]at d;obtain⟨⟨H,I,J⟩,b⟩:=h.make' D r d;have n : ∀ {k:Int} {P:Prop},k≠1->v.kind=k->P:=fun a b=>N_ (b.symm.trans r) a;exact⟨h1,p,⟨fun _=>⟨I,H,J⟩,n (by decide),n (by decide),n (by decide),n (by decide)⟩,fun _=>b,n (by decide),n (by decide),n (by decide),n (by decide)⟩
 rw[b_ r]at d;by_cases w:v.kind=2
 ·rw[d_ w]at d;have n : ∀ {k:Int} {P:Prop},k≠2->v.kind=k->P:=fun a b=>N_ (b.symm.trans w) a;unfold jE at d
  cases f:m.T.has v.node with
  | false=>rw[d_ f]at d; cases d
  | true =>
    rw[b_ (by rw[f]; decide)]at d;have e:(eT m).R v.node (aV v)=m.R (m.idx v.node) (aO v):=by
     show bA m v.node (aV v)=_;unfold bA; rw[d_ f]; rfl
    refine⟨h1,p,⟨n (by decide),fun _=>f,n (by decide),n (by decide),n (by decide)⟩,n (by decide),fun _ => ?_,n (by decide),n (by decide),n (by decide)⟩;rw[e];by_cases c:140737488355328<m.R (m.idx v.node) (aO v)+v.aS
    ·rw[d_ c]at d; cases d
    ·omega
 rw[b_ w]at d;by_cases x:v.kind=3
 ·rw[d_ x]at d;have n : ∀ {k:Int} {P:Prop},k≠3->v.kind=k->P:=fun a b=>N_ (b.symm.trans x) a;unfold jK at d
  cases c1:gW m v.o v.req with
  | true=>rw[d_ c1]at d; cases d
  | false =>
    rw[b_ (by rw[c1]; decide)]at d
    cases f:m.T.has v.node with
    | false=>rw[d_ f]at d; cases d
    | true =>
      rw[b_ (by rw[f]; decide)]at d;have W:iK m v.o v.req=false:=pJ fun i u e=>by
       have:=h.t.s.ga i u;rw[e.1,e.2,c1]at this; cases this
      refine⟨h1,p,⟨n (by decide),n (by decide),fun _=>⟨f,W⟩,n (by decide),n (by decide)⟩,n (by decide),n (by decide),fun _=>⟨c1,fun y l => ?_⟩,n (by decide),n (by decide)⟩;have l:=(Cx B _ y).1 l;have q:(bC (bA m y) v.o v.aS).2=0:=vI B d l;unfold bC at q;have G:=yV q;have j:=G.2.2.2.2.1;unfold pX at j;rw[vJ G.1 D]at j;show v.aS<=Ae (bA m y) (aV v);by_cases c:Ae (bA m y) (aV v)<v.aS
      ·rw[f_ c]at j; cases j
      ·omega
 rw[b_ x]at d;by_cases z:v.kind=4
 ·rw[d_ z]at d;have n : ∀ {k:Int} {P:Prop},k≠4->v.kind=k->P:=fun a b=>N_ (b.symm.trans z) a;unfold jo at d
  cases c1:gW m v.o v.req with
  | true=>rw[d_ c1]at d; cases d
  | false =>
    rw[b_ (by rw[c1]; decide)]at d;by_cases A:iK m v.o v.of=false\/m.g (fE m v.o v.of) 4≠0
    ·rw[d_ A]at d; cases d
    ·rw[b_ A]at d;have f:iK m v.o v.of=true:=by
      cases e:iK m v.o v.of with
      | true=>rfl
      | false=>exact N_ (.inl e) A
     have U:m.g (fE m v.o v.of) 4=0:=Classical.byContradiction fun q=>A (.inr q);have K:(eT m).g v.o v.of 2=m.g (fE m v.o v.of) 2:=d_ ⟨f,by decide,by decide⟩;have M:(eT m).g v.o v.of 3=m.g (fE m v.o v.of) 3:=d_ ⟨f,by decide,by decide⟩;have O:(eT m).g v.o v.of 4=m.g (fE m v.o v.of) 4:=d_ ⟨f,by decide,by decide⟩;refine⟨h1,p,⟨n (by decide),n (by decide),n (by decide),fun _=>f,n (by decide)⟩,n (by decide),n (by decide),n (by decide),fun _=>⟨c1,O.trans U,fun y l => ?_⟩,n (by decide)⟩;rw[K]at l;rw[M];have l:=(Cx B _ y).1 l;have q:(bG (bA m y) v.o (m.g (fE m v.o v.of) 3)).2=0:=vI B d l;unfold bG at q;have G:=yV q;have j:=G.2.2.2.2.1;unfold qW C F at j;rw[(Cy D).2.2]at j;show m.g (fE m v.o v.of) 3<=bA m y (6+aV v)-bA m y (12+aV v);by_cases c:bA m y (6+aV v)-bA m y (12+aV v)<m.g (fE m v.o v.of) 3
     ·rw[f_ c]at j; cases j
     ·omega
 rw[b_ z]at d;by_cases E:v.kind=5
 ·rw[d_ E]at d;have n : ∀ {k:Int} {P:Prop},k≠5->v.kind=k->P:=fun a b=>N_ (b.symm.trans E) a;unfold kK at d
  cases f:m.T.has v.node with
  | false=>rw[d_ f]at d; cases d
  | true =>
    rw[b_ (by rw[f]; decide)]at d
    cases u:m.inn (v.dst-1).toNat with
    | false=>rw[d_ u]at d; cases d
    | true =>
      rw[b_ (by rw[u]; decide)]at d;have hm:=h.t.may f;have Q:bA m v.node=m.R (m.idx v.node):=(by unfold bA; rw[d_ f]; rfl);obtain⟨a,b,ha,hb,hne,ho,hd,X,Y,V,hM,heq⟩:=AZ d;refine⟨h1,p,⟨n (by decide),n (by decide),n (by decide),n (by decide),fun _=>f⟩,n (by decide),n (by decide),n (by decide),n (by decide),fun _=>⟨u,?_⟩⟩;show v.aS<=Ae (bA m v.node) (aV v);rw[Q,<- aaB,show aV v=a by unfold aV; omega];exact V
 have Z:=jh D;exact⟨h1,p,⟨no r,no w,no x,no z,no E⟩,no r,no w,no x,no z,no E⟩
theorem Pz{K:Nat->Int}(h:dD K v=true):mI K v=false:=by
 obtain⟨a,b,c⟩:=Gl h;unfold mI;rw[g_ (show ¬ v.seq<=K (v.o-1).toNat by have b:v.seq=K (v.o-1).toNat+1:=b; omega),J_]
theorem Tw.check(h:Tw m L N S)(i:oz v)(hr:dD m.known v=true):bV m v=0<->(eT m).Rf v:=by
 have f:=(Gl hr).1;constructor
 ·intro g;obtain⟨a,b,c,d⟩:=ql g;exact h.okE f c d b
 intro e;unfold bV;rw[b_ (by rw[f]; decide),b_ (by rw[Pz hr]; decide),b_ (by rw[hr]; decide),b_,h.does f i e];rintro (q|q)
 ·have:=e.inn; rw[show(eT m).inn (aV v)=m.inn (aO v)from rfl,q]at this; cases this
 have:=e.left; rw[show(eT m).left (aV v)=m.left (aO v)from rfl,q]at this; cases this
end
end Rt
end
section
namespace Rt
def Rm(k:Nat):Ab:=eT (yB k 0 0 0 0 0 0)
structure Ws(k:Nat)(ev:Nat->EvM)(an:Nat):Prop extends Evs (Rm k) ev an where
 sm : ∀ i,i<an->oz (ev i)
 an:an<=1000
structure uJ(k:Nat)(ev:Nat->EvM)(an:Nat)(L:fZ):Prop where
 ex : ∃ m N,F9 m L N/\RD m/\eT m=fI ev L.known (Rm k) an
 kc:OW ev an L.known
section
variable {ev ev':Nat->EvM} {an n k i j:Nat} {K:Nat->Int} {L L':fZ} {v:EvM} {m:dU} {N S:Nat} {A:Ab}
theorem aeC(h:bR v=true):Mg v:=by
 have a:=nX h;refine⟨⟨a.1,a.2.1⟩,a.2.2,?_,fun d=>⟨(Af h d).1,(Af h d).2.1⟩⟩;have i:=jh h;by_cases g:v.kind=2\/v.kind=3\/v.kind=5
 ·have:=(kZ h g).1; omega
 have c:pW v=true:=by unfold bR at h; simp only[T_]at h; exact h.1.2
 have b:dF v=true:=by unfold bR at h; simp only[T_]at h; exact h.2
 by_cases f:v.kind=1
 ·unfold dF at b;rw[d_ f]at b;simp at b;omega
 have e:v.aS=(kN v).aS:=by unfold pW at c; simp only[T_,decide_eq_true_eq]at c; exact c.1.1.2
 rw[e];unfold kN;rw[b_ f,b_ (by omega),b_ (by omega)];split
 ·exact O_ _
 rw[b_ (by omega)];split <;> exact O_ _
theorem aeD(k:Nat):(Rm k).Ok:=⟨rfl,fun _ h=>(nomatch h),fun _ _=>rfl,fun _ _ h=>(nomatch h),fun _ _ _=>rfl⟩
theorem aeE(k:Nat):(Rm k).Sm 0:=⟨fun _ _=>O_ _,fun _ _ h=>(nomatch h)⟩
theorem ow0(k:Nat):RD (yB k 0 0 0 0 0 0):=⟨rfl,fun _ _=>by show(0:Int)<=5; decide⟩
theorem Ab.Sm.mono{S':Nat}(h:A.Sm S)(a:S<=S'):A.Sm S':=⟨fun y p=>by have:=h.r y p; omega,h.g⟩
theorem Evs.cz(h:Evs A ev an):Cz 6 an ev (fun _=>gY ev an) where
 rd:=h.rd
 reg:=fun k a=>(h.g k a).reg.2
 own:=fun _ _=>rfl
 kc:=fun _ _=>⟨fun _ _=>O_ _,fun k a _ i b=>S_ ((Gl (h.rd k a)).2.2 i b) (cnt_mono (by omega))⟩
theorem Ws.fsm(W:Ws k ev an)(a:OW ev an K) : ∀ n,n<=an->(fI ev K (Rm k) n).Sm n
 | 0,_=>aeE k
 | n+1,hn=>by
   have b:=W.fsm a n (by omega)
   cases c:vG K (ev n)with
   | true =>
     rw[lJ c];exact b.qO ((vH W.toEvs (n+1) hn K a).2 n (by omega) c).pre (Gl (W.rd n (by omega))).1 (W.sm n (by omega))
   | false=>rw[lU c]; exact b.mono (by omega)
theorem uJ.tw(h:uJ k ev an L)(W:Ws k ev an) : ∃ m N,Tw m L N an/\eT m=fI ev L.known (Rm k) an:=by
 obtain⟨m,N,b,c,a⟩:=h.ex;exact⟨m,N,⟨b,c,by rw[a]; exact W.fsm h.kc an (A_ _),by have:=W.an; omega⟩,a⟩
theorem uJ.ready(h:uJ k ev an L)(W:Ws k ev an)(c:j<an)(hr:dD L.known (ev j)=true):bK L (ev j)=0:=by
 obtain⟨m,N,a,d⟩:=h.tw W;have b:=Ik W.toEvs h.kc c hr (show j<=an by omega) (A_ _);rw[<- d]at b;rw[<- (a.t.s.apply a.t.t a.t.i (ev j)).1];exact(a.check (W.sm j c) (by rw[a.t.s.known]; exact hr)).2 b
theorem uJ.apply(h:uJ k ev an L)(W:Ws k ev an)(b:j<an):uJ k ev an (dN L (ev j)):=by
 rcases rO L (ev j)with ⟨c,e⟩|⟨c,e⟩
 ·have d:=jO c;obtain⟨m,N,a,f,g⟩:=h.ex;have l:bV m (ev j)=0:=(a.s.apply a.t a.i (ev j)).1.trans c;refine⟨⟨jL m (ev j),N+1,a.apply (ev j),f.apply,?_⟩,by rw[e]; exact W.toEvs.cz.step h.kc b d⟩;rw[Rl a.t a.s.ga l,g,e];exact(Zw W.toEvs h.kc b d).symm
 rw[e]; exact h
theorem uJ.pass(W:Ws k ev an){a:Nat->Int}(h:uJ k ev an L) : ∀ j,j<=an->uJ k ev an (oH ev a L j)
 | 0,_=>h
 | j+1,hj=>by
   unfold oH;split
   ·exact(h.pass W j (by omega)).apply W (by omega)
   ·exact h.pass W j (by omega)
theorem uJ.iX(W:Ws k ev an){a:Nat->Int} : ∀ f L,uJ k ev an L->uJ k ev an (iX ev an a f L)
 | 0,L,hL=>by unfold Rt.iX; exact hL
 | f+1,L,hL=>by
   unfold Rt.iX;split
   ·exact hL.pass W an (A_ _)
   ·exact uJ.iX W f _ (hL.pass W an (A_ _))
theorem uJ.new(k:Nat)(ev:Nat->EvM)(an:Nat)(a : ∀ i,i<an->1<=(ev i).seq)(f:Nat):uJ k ev an (qH k f).core:=by
 have d : ∀ n,n<=an->fI ev (fun _=>0) (Rm k) n=Rm k:=fun n=>by
  induction n with
  | zero=>intro _; rfl
  | succ n ih =>
    intro h;have c:vG (fun _=>0) (ev n)=false:=g_ (show ¬ (ev n).seq<=0 by have:=a n (by omega); omega);rw[lU c]; exact ih (by omega)
 exact⟨⟨yB k 0 0 0 0 0 0,0,F9.new k,ow0 k,(d an (A_ _)).symm⟩,fun i b=>zZ an i,fun i b e j g=>N_ (show(ev i).seq<=0 from e) (by have:=a i b; omega)⟩
theorem CB(h : ∀ i,i<n->ev' i=ev i):fI ev' K A n=fI ev K A n:=by
 induction n with
 | zero=>rfl
 | succ n ih =>
   show(if vG K (ev' n)=true then(fI ev' K A n).qO (ev' n)else fI ev' K A n)=_;rw[ih fun i a=>h i (by omega),h n (by omega)]; rfl
theorem wV{v:EvM} : ∀ i,i<an->aI ev an v i=ev i:=fun i a=>b_ (by omega)
theorem wW{v:EvM}:aI ev an v an=v:=d_ rfl
theorem OW.more(h:OW ev an K)(g:bR v=true)(l:v.seq=gY ev an (aO v)+1):OW (aI ev an v) (an+1) K/\vG K v=false:=by
 have c : ¬ v.seq<=K (aO v):=by have:=h.le _ (mR g); omega
 refine⟨⟨fun i b => ?_,fun i b a j f => ?_⟩,g_ c⟩
 ·have:=h.le i b;have d:=cnt_mono (ev:=aI ev an v) (j:=an) (k:=an+1) (i:=i) (by omega);rw[Bc an (A_ _)]at d;omega
 by_cases e:i=an
 ·rw[e,wW]at a; exact N_ a c
 rw[wV i (by omega)]at a ⊢;exact h.cl i (by omega) a j f
theorem uJ.more(h:uJ k ev an L)(g:bR v=true)(f:v.seq=gY ev an (aO v)+1):uJ k (aI ev an v) (an+1) L:=by
 obtain⟨m,N,c,d,e⟩:=h.ex;obtain⟨a,b⟩:=h.kc.more g f;refine⟨⟨m,N,c,d,?_⟩,a⟩;rw[lU (by rw[wW]; exact b),CB wV];exact e
theorem Ws.more(W:Ws k ev an)(h:uJ k ev an L)(u:an<1000)(p:oz v)(n:bK L v=0)(d:v.deps=L.known)(f:v.seq=gY ev an (aO v)+1):Ws k (aI ev an v) (an+1):=by
 have o:=jO n;have c:=(Gl o).1;have q : ∀ j,j<=an -> ∀ i,gY (aI ev an v) j i=gY ev j i:=fun j a i=>Bc j a i;have l : ∀ j,j<=an->gY (aI ev an v) j=gY ev j:=fun j a=>funext (q j a);refine { ok0:=W.ok0,rd:=fun j a => ?_,g:=fun j a => ?_,dc:=fun j a => ?_,tk:=fun j a => ?_,sm:=fun j a => ?_,an:=by omega }
 ·by_cases e:j=an
  ·rw[e,wW,l an (A_ _)];exact Jm c f (by rw[d]; exact h.kc.le)
  rw[wV j (by omega),l j (by omega)]; exact W.rd j (by omega)
 ·by_cases e:j=an
  ·rw[e,wW]; exact aeC c
  rw[wV j (by omega)]; exact W.g j (by omega)
 ·by_cases e:j=an
  ·rw[e,wW,d]; exact(h.kc.more c f).1
  rw[wV j (by omega)]; exact((W.dc j (by omega)).more c f).1
 ·by_cases e:j=an
  ·rw[e,wW,d,CB wV];obtain⟨m,N,b,r⟩:=h.tw W;rw[<- r];exact(b.check p (by rw[b.t.s.known]; exact o)).1 ((b.t.s.apply b.t.t b.t.i v).1.trans n)
  rw[wV j (by omega),CB fun i w=>wV i (by omega)]; exact W.tk j (by omega)
 by_cases e:j=an
 ·rw[e,wW]; exact p
 rw[wV j (by omega)]; exact W.sm j (by omega)
theorem Ws.zero(k:Nat)(ev:Nat->EvM):Ws k ev 0 where
 ok0:=aeD k
 rd:=fun _ h=>N_ h (z_ _)
 g:=fun _ h=>N_ h (z_ _)
 dc:=fun _ h=>N_ h (z_ _)
 tk:=fun _ h=>N_ h (z_ _)
 sm:=fun _ h=>N_ h (z_ _)
 an:=by decide
end
structure WC(M:WM):Prop where
 w:Ws M.n M.ev M.an
 f : ∀ o,o<M.n->uJ M.n M.ev M.an (M.ml o).core
theorem WC.new{M:WM}(a:M.an=0)(h : ∀ i,(M.ml i).core=(qH M.n 0).core):WC M:=by
 refine⟨by rw[a]; exact .zero _ _,fun o c=>by rw[h,a]; exact .new _ _ _ (fun i b=>N_ b (z_ _)) 0⟩
theorem WC.do{w':World}{M k:WM}{B p T o:Nat}{x:Gp}{v:EvM}(h:WC M)(y:oC w' B p k T)(j:o<M.n)(a:DoR o x M k v)(z:M.an<1000)(A:(M.ml o).s.known o=gY M.ev M.an o):WC k:=by
 rcases a.c with ⟨u,g,d,b⟩|⟨u,g,d,b,h5,h6,h7,h8⟩
 ·refine⟨by rw[a.n,g,d]; exact h.w,fun q i => ?_⟩;rw[a.n]at i;rw[a.n,g,d];by_cases e:q=o
  ·rw[e]
   rcases b with b|⟨_,b⟩
   ·rw[b]; exact h.f o j
   rw[b]; exact uJ.iX h.w _ _ (h.f o j)
  rw[a.oth q e]; exact h.f q i
 have C:=jO b;have r:=(Gl C).1;have t:aO v=o:=by unfold aO; omega
 have l:v.seq=gY M.ev M.an (aO v)+1:=by rw[t,<- A]; exact h7
 have D:oz v:=by
  have:=y.sm M.an (by omega);rw[d,wW]at this; exact this
 have m:Ws M.n (aI M.ev M.an v) (M.an+1):=h.w.more (h.f o j) z D b h8 l;refine⟨by rw[a.n,g,d]; exact m,fun q i => ?_⟩;rw[a.n]at i;rw[a.n,g,d];by_cases e:q=o
 ·rw[e,h5];have:=((h.f o j).more r l).apply m (show M.an<M.an+1 by omega);rw[wW]at this;exact this
 rw[a.oth q e]; exact(h.f q i).more r l
end Rt
end
section
namespace Rt
structure LU(L L':fZ):Prop where
 inn:L'.inn=L.inn
 left:L'.left=L.left
 kn : ∀ i,i<6->L'.known i=L.known i
 nn:L'.nn=L.nn
 gn:L'.gn=L.gn
 n : ∀ k,k<L.nn->L'.id k=L.id k/\L'.par k=L.par k/\L'.R k=L.R k
 g : ∀ k,k<L.gn -> ∀ p,p<5->L'.g k p=L.g k p
section
variable {ev:Nat->EvM} {an k:Nat} {L L':fZ} {m m':dU} {N N':Nat}
theorem gD.Zz(h:gD m L){q:Nat}(i:q<L.gn):iK m (L.g q 0) (L.g q 1)=true /\ ∀ p,2<=p->p<=4->(eT m).g (L.g q 0) (L.g q 1) p=L.g q p:=by
 obtain⟨j,d,e⟩:=h.g1 q i;have c:iK m (L.g q 0) (L.g q 1)=true:=sQ d (by rw[<- e]) (by rw[<- e]);have f:fE m (L.g q 0) (L.g q 1)=j:=yU h.gi d (by rw[<- e]) (by rw[<- e]);refine⟨c,fun p a b => ?_⟩;rw[show(eT m).g (L.g q 0) (L.g q 1) p=m.g (fE m (L.g q 0) (L.g q 1)) p from d_ ⟨c,a,b⟩,f,e]
theorem Iq{f:Nat->Int}{n i:Nat}(hi:i<n):((List.range n).map f).getD i 0=f i:=by
 rw[r_,o_ (by rw[List.length_map,List.length_range]; exact hi)]; simp
theorem Ir{f g:Nat->Int}{n n':Nat}(m : ∀ i j,i<j->j<n->f i<f j)(o : ∀ i j,i<j->j<n'->g i<g j)(h1 : ∀ i,i<n -> ∃ j,j<n'/\g j=f i)(l : ∀ j,j<n' -> ∃ i,i<n/\f i=g j):n'=n /\ ∀ i,i<n->g i=f i:=by
 have e:(List.range n).map f=(List.range n').map g:=uS (by
  rw[List.pairwise_map];exact(List.pairwise_lt_range (n:=n)).imp_of_mem fun {a b} _ hb hab=>m a b hab (P_.1 hb)) (by
  rw[List.pairwise_map];exact(List.pairwise_lt_range (n:=n')).imp_of_mem fun {a b} _ hb hab=>o a b hab (P_.1 hb)) fun x=>by
  rw[List.mem_map,List.mem_map];constructor
  ·rintro ⟨i,c,rfl⟩;obtain⟨j,d,k⟩:=h1 i (P_.1 c);exact⟨j,P_.2 d,k⟩
  ·rintro ⟨j,d,rfl⟩;obtain⟨i,c,h⟩:=l j (P_.1 d);exact⟨i,P_.2 c,h⟩
 have p:n'=n:=by have:=M_ List.length e; rw[List.length_map,List.length_map,List.length_range,List.length_range]at this; exact this.symm
 refine⟨p,fun i c => ?_⟩;have:=M_ (fun z:List Int=>z.getD i 0) e;have:((List.range n).map f).getD i 0=((List.range n').map g).getD i 0:=this;rw[Iq c,Iq (by omega)]at this;exact this.symm
theorem F9.same(h:F9 m L N)(d:F9 m' L' N')(C:zl L)(D:zl L')(e:eT m'=eT m)(I : ∀ i,i<6->L'.known i=L.known i):LU L L':=by
 have B : ∀ y,m'.T.has y=m.T.has y:=fun y=>congrFun (M_ Ab.has e) y;have J : ∀ y,m'.T.par y=m.T.par y:=fun y=>congrFun (M_ Ab.par e) y;have H : ∀ y,bA m' y=bA m y:=fun y=>congrFun (M_ Ab.R e) y;have u : ∀ o r,iK m' o r=iK m o r:=fun o r=>congrFun (congrFun (M_ Ab.gh e) o) r;have w : ∀ {m:dU} {L:fZ} {N:Nat},F9 m L N -> ∀ i,i<L.nn->m.T.has (L.id i)=true/\bA m (L.id i)=L.R i:=fun {m L N} h i k=>by
  have a:m.T.has (L.id i)=true:=(h.s.T.has _).2 ⟨i,k,rfl⟩;refine⟨a,?_⟩;unfold bA;rw[d_ a,h.s.row i k]
 obtain⟨Q,z⟩:=Ir (f:=L.id) (g:=L'.id) (n:=L.nn) (n':=L'.nn) h.i.rise d.i.rise (fun i k=>(d.s.T.has _).1 (by rw[B]; exact(w h i k).1)) (fun i k=>(h.s.T.has _).1 (by rw[<- B]; exact(w d i k).1));have F : ∀ {m m':dU} {L L':fZ} {N N':Nat},F9 m L N->F9 m' L' N'->(∀ o r,iK m' o r=iK m o r) -> ∀ q,q<L.gn -> ∃ j,j<L'.gn/\nZ (L'.g j)=nZ (L.g q):=fun {m m' L L' N N'} h d u q t=>by
  have a:=(h.s.Zz t).1;rw[<- u]at a;obtain⟨j,O,l,x⟩:=lI.1 a;obtain⟨S,v,G⟩:=d.s.g2 j O;have l:m'.g j 0=L.g q 0:=l;have x:m'.g j 1=L.g q 1:=x;exact⟨S,v,by unfold nZ; rw[G,l,x]⟩
 obtain⟨K,M⟩:=Ir (f:=fun q=>nZ (L.g q)) (g:=fun q=>nZ (L'.g q)) (n:=L.gn) (n':=L'.gn) C.up D.up (F h d u) (F d h fun o r=>(u o r).symm);refine⟨by rw[<- h.s.inn,<- d.s.inn]; exact M_ Ab.inn e,by rw[<- h.s.left,<- d.s.left]; exact M_ Ab.left e,I,Q,K,fun i k => ?_,fun q t p W => ?_⟩
 ·have E:i<L'.nn:=by omega
  refine⟨z i k,?_,?_⟩
  ·rw[<- h.s.T.par i k,<- d.s.T.par i E,J,z i k]
  rw[<- (w h i k).2,<- (w d i E).2,H,z i k]
 have v:q<L'.gn:=by omega
 have P:nZ (L'.g q)=nZ (L.g q):=M q t;have U:=(C.wf q t).1;have V:=(D.wf q v).1;unfold nZ at P;unfold kH at U V;have A:L'.g q 0=L.g q 0:=by omega
 have l:L'.g q 1=L.g q 1:=by omega
 by_cases c:2<=p
 ·have a:=(h.s.Zz t).2 p c (by omega);have b:=(d.s.Zz v).2 p c (by omega);rw[<- a,<- b,A,l,M_ Ab.g e]
 rcases(show p=0\/p=1 by omega)with rfl|rfl
 ·exact A
 exact l
theorem PD{K K':Nat->Int}{A:Ab}(h : ∀ i,i<6->K' i=K i)(a : ∀ i,i<an->aO (ev i)<6) : ∀ n,n<=an->fI ev K' A n=fI ev K A n
 | 0,_=>rfl
 | n+1,hn=>by
   have c:vG K' (ev n)=vG K (ev n):=(by unfold vG; rw[h _ (a n (by omega))]);show(if vG K' (ev n)=true then(fI ev K' A n).qO (ev n)else fI ev K' A n)=_;rw[PD h a n (by omega),c]; rfl
theorem uJ.same(h:uJ k ev an L)(f:uJ k ev an L')(W:Ws k ev an)(j:zl L)(l:zl L')(a : ∀ i,i<6->L'.known i=L.known i):LU L L':=by
 obtain⟨m,N,b,o,c⟩:=h.ex;obtain⟨m',N',d,p,e⟩:=f.ex;refine b.same d j l ?_ a;rw[c,e];exact PD a (fun i n=>(W.g i n).reg.2) an (A_ _)
theorem uJ.next(h:uJ k ev an L)(W:Ws k ev an){i:Nat}(hi:i<an)(b:L.known=gY ev i):bK L (ev i)=0/\(dN L (ev i)).known=gY ev (i+1):=by
 have a:=h.ready W hi (by rw[b]; exact W.rd i hi);refine⟨a,?_⟩;rw[Cv a,b]
 funext q
 unfold aI;show _=gY ev i q+if aO (ev i)=q then 1 else 0;by_cases e:q=aO (ev i)
 ·rw[d_ e,d_ e.symm,e]
 rw[b_ e,b_ (fun q=>e q.symm),E_]
theorem ZA(W:Ws k ev an) : ∀ i,i<an->1<=(ev i).seq:=fun i a=>(W.g i a).seq.1
theorem uJ.some(h:uJ k ev an L)(W:Ws k ev an){i:Nat}(hi:i<an):bK L (ev i)=0\/bK L (ev i)=14\/bK L (ev i)=13:=by
 by_cases c:dD L.known (ev i)=true
 ·exact .inl (h.ready W hi c)
 right;have b:=(Gl (W.rd i hi)).1;unfold bK;rw[b_ (by rw[b]; decide)];by_cases a:mI L.known (ev i)=true
 ·rw[d_ a]; exact .inl rfl
 rw[b_ a,d_ (by simpa using c)]; exact .inr rfl
end
end Rt
end
section
namespace Rt
section
variable {ev:Nat->EvM} {an k i r:Nat} {K K':Nat->Int} {L:fZ} {v:EvM}
theorem W9(ev:Nat->EvM)(i q:Nat):gY ev (i+1) q=gY ev i q+if aO (ev i)=q then 1 else 0:=rfl
where afy {a b:Int} (h:b<=a):(if a<=b then a else b)=b:=by split <;> omega
theorem Xa(L:fZ)(v:EvM)(q:Nat):L.known q<=(dN L v).known q:=by
 rcases rO L v with ⟨_,e⟩|⟨_,e⟩
 ·rw[e]; unfold aI; split
  ·subst_vars; omega
  exact O_ _
 rw[e]; exact O_ _
theorem uJ.reach(h:uJ k ev an L)(W:Ws k ev an)(hr:r<an)(d : ∀ q,q<6->gY ev r q<=L.known q) : ∀ q,q<6->gY ev (r+1) q<=(dN L (ev r)).known q:=fun q l=>by
 obtain⟨a,b,c⟩:=Gl (W.rd r hr);have i:=mR a;have o:=d q l;have s:=Xa L (ev r) q;rw[W9];by_cases e:aO (ev r)=q
 ·rw[d_ e];by_cases n:(ev r).seq<=L.known q
  ·rw[e]at b; omega
  ·have j:=d _ i;have m:(ev r).seq=L.known (aO (ev r))+1:=(by rw[e]at b j ⊢; omega);have g:=h.ready W hr (Jm a m fun p f=>S_ (c p f) (d p f));rw[Cv g,e];unfold aI; rw[d_ rfl,e]at *; omega
 ·rw[b_ e]; omega
theorem uJ.full(h:uJ k ev an L)(b : ∀ q,q<6->gY ev an q<=L.known q) : ∀ q,q<6->L.known q=gY ev an q:=fun q a=>by
 have:=h.kc.le q a; have:=b q a; omega
end
end Rt
end
section
namespace Rt
section
variable {x:EvM} {k an i:Nat} {ev:Nat->EvM} {L:fZ} {s:Int} {d:Nat->Int}
theorem PE(ev:Nat->EvM) : ∀(i j:Nat),gY ev i j<=i
 | 0,_=>O_ _
 | i+1,j=>by have:=PE ev i j; show gY ev i j+(if aO (ev i)=j then 1 else 0)<=_; split <;> omega
end
end Rt
end
theorem LV(n:Nat)(m:Int)(w:World)(h:m=(n:Int))(j:1<=n)(k:n<=6) :
 Calls Tryz.prog 12 #[au m] w fun e w' => ∃ p M,e = .returned (pt p)/\M.n=n/\M.an=0/\WC M/\oC w' w.heap.size p M 0/\Below w.heap.size w w':=by
 subst h; exact(NK n w j k).mono fun _ _ ⟨p,M,c,a,b,g,d,f⟩=>⟨p,M,c,a,b,.new b fun i=>by rw[g i,a],d,f⟩
namespace Rt
theorem LU.st{L L':fZ}(h:LU L L')(d:Option Addr)(e:Nat)(a:Option Addr)(b:Nat) : ∀ p,p<20->jZ (Dh L' d e a b) p=jZ (Dh L d e a b) p:=fun p f=>by
 unfold jZ Dh;simp only[h.inn,h.left,h.nn,h.gn];by_cases c:12<=p/\p<18
 ·rw[h.kn (p-12) (by omega)]
 ·repeat' split
  all_goals first|rfl|omega
end Rt
theorem Pt.same{w:World}{s:Al}{L L':fZ}(h:Pt w s L')(d:LU L L'):Pt w (Dh L s.na s.nc s.ga s.gc) L:=by
 refine⟨rfl,?_,?_⟩
 ·have e:=h.n;rw[d.nn]at e;exact e.congr fun j k=>by
   unfold flat ndL;obtain⟨a,b,c⟩:=d.n (j / 56) (by omega);rw[a,b,c]
 have e:=h.g;rw[d.gn]at e;exact e.congr fun j k=>by
  unfold flat grL iE;have g:=d.g (j / 5) (by omega) (j % 5) (K_ _ (by decide));have f:=d.g (j / 5) (by omega) 0 (by decide);have i:=d.g (j / 5) (by omega) 3 (by decide);rw[g,f,i]
namespace Rt
structure aeF where
 kind:Int
 node:Int
 dst:Int
 aS:Int
 req:Int
 of:Int
end Rt
section
namespace Rt
def Ab.gs(A:Ab)(y:Int):Int:=A.R y 0+A.R y 1+A.R y 2+A.R y 3+A.R y 4+A.R y 5
def Gr(v:EvM)(y:Int):Int:=if v.kind=1/\qZ v=y\/v.kind=2/\v.node=y then v.aS else 0
def ZB(ev:Nat->EvM)(K:Nat->Int)(y:Int):Nat->Int
 | 0=>0
 | j+1=>ZB ev K y j+if vG K (ev j)=true then Gr (ev j) y else 0
section
variable {A:Ab} {ev gv:Nat->EvM} {an n k i j:Nat} {K:Nat->Int} {L:fZ} {v:EvM} {y x:Int} {m:dU} {N:Nat}
theorem Ab.aeG(l:Mg v):(A.qO v).gs y=A.gs y+Gr v y:=by
 have o:=l.reg.2;have e : ∀ p,(A.qO v).R y p=A.R y p+A.dl v y p:=fun _=>rfl;unfold Ab.gs;rw[e,e,e,e,e,e];have s:A.dl v y 0+A.dl v y 1+A.dl v y 2+A.dl v y 3+A.dl v y 4+A.dl v y 5=Gr v y:=by
  have n:(∀ p,p<6->A.dl v y p=0)->Gr v y=0->A.dl v y 0+A.dl v y 1+A.dl v y 2+A.dl v y 3+A.dl v y 4+A.dl v y 5=Gr v y:=fun h d=>by
   rw[d,h 0 (by decide),h 1 (by decide),h 2 (by decide),h 3 (by decide),h 4 (by decide),h 5 (by decide)]; rfl
  have k : ∀ {z:Int},(∀ p,A.dl v y p=if y=z/\p=aV v then v.aS else 0)->Gr v y=(if z=y then v.aS else 0)->A.dl v y 0+A.dl v y 1+A.dl v y 2+A.dl v y 3+A.dl v y 4+A.dl v y 5=Gr v y:=fun {z} h d=>by
   by_cases c:y=z
   ·rw[d,h,h,h,h,h,h,d_ c.symm]
    rcases(show aV v=0\/aV v=1\/aV v=2\/aV v=3\/aV v=4\/aV v=5 by omega)with q|q|q|q|q|q <;> rw[q] <;> simp[c]
   ·have a : ∀ p,A.dl v y p=0:=fun p=>by rw[h,b_ fun q=>c q.1]
    rw[d,a,a,a,a,a,a,b_ (show ¬ z=y from fun q=>c q.symm)]; rfl
  unfold Ab.dl at *;by_cases b:v.kind=1
  ·refine k (z:=qZ v) (fun p=>by rw[d_ b]) ?_;unfold Gr;by_cases c:qZ v=y
   ·rw[d_ (.inl ⟨b,c⟩),d_ c]
   ·rw[b_ (fun q=>q.elim (fun q=>c q.2) (fun q=>by omega)),b_ c]
  by_cases f:v.kind=2
  ·refine k (z:=v.node) (fun p=>by rw[b_ b,d_ f]) ?_;unfold Gr;by_cases c:v.node=y
   ·rw[d_ (.inr ⟨f,c⟩),d_ c]
   ·rw[b_ (fun q=>q.elim (fun q=>b q.1) (fun q=>c q.2)),b_ c]
  have m:Gr v y=0:=b_ (fun q=>q.elim (fun q=>b q.1) (fun q=>f q.1));refine n (fun p r => ?_) m;rw[b_ b,b_ f];by_cases g:v.kind=3
  ·rw[d_ g,b_ (fun q=>by omega)]
  rw[b_ g];by_cases i:v.kind=4
  ·rw[d_ i,b_ (fun q=>by omega)]
  rw[b_ i];by_cases j:v.kind=5
  ·rw[d_ j,b_ (fun q=>by omega)]
  rw[b_ j]
 omega
theorem ZC(b : ∀ i,i<n->Mg (ev i)):(fI ev K (Rm k) n).gs y=ZB ev K y n:=by
 induction n with
 | zero=>rfl
 | succ n a =>
   have a:=a fun i c=>b i (by omega);show(if vG K (ev n)=true then(fI ev K (Rm k) n).qO (ev n)else fI ev K (Rm k) n).gs y=ZB ev K y n+_;split
   ·rw[Ab.aeG (b n (by omega)),a]
   ·rw[a,E_]
theorem F9.row(h:F9 m L N)(hi:i<L.nn):bA m (L.id i)=L.R i:=by
 unfold bA;rw[d_ ((h.s.T.has _).2 ⟨i,hi,rfl⟩),h.s.row i hi]
theorem uJ.gs(h:uJ k ev an L)(W:Ws k ev an)(hi:i<L.nn):ou (L.R i)=ZB ev L.known (L.id i) an:=by
 obtain⟨m,N,a,c,b⟩:=h.ex;rw[<- ZC (k:=k) (K:=L.known) (y:=L.id i) W.g,<- b,<- a.row hi];rfl
theorem uJ.small(h:uJ k ev an L)(W:Ws k ev an){q:Nat}(d:q<L.gn):1<=L.g q 3/\L.g q 3<=65536:=by
 obtain⟨m,N,c,e⟩:=h.tw W;obtain⟨a,b⟩:=c.t.s.Zz d;have:=c.s.g _ _ a;rw[b 3 (by decide) (by decide)]at this;exact this
end
end Rt
end
section
namespace Rt
section
variable {ev:Nat->EvM} {an k n:Nat} {K:Nat->Int} {L:fZ} {v:EvM} {f:(Nat->Int)->(Nat->Int) × Int} {r:Nat->Nat->Int} {x:Nat->Int}
theorem Ws.aeH(W:Ws k ev an) : ∀ n,n<=an -> ∀ o r,(fI ev K (Rm k) n).ask o r=true->r<=256
 | 0,_,_,_,h=>by cases h
 | n+1,hn,o,r,h=>by
   cases c:vG K (ev n)with
   | false=>rw[lU c]at h; exact W.aeH n (by omega) o r h
   | true =>
     rw[lJ c]at h;have h:((fI ev K (Rm k) n).ask o r || ((decide ((ev n).kind=3) || decide ((ev n).kind=4))&&(decide (o=(ev n).o)&&decide (r=(ev n).req))))=true:=h
     rcases D_.1 h with q|q
     ·exact W.aeH n (by omega) o r q
     ·rw[T_,T_]at q;rw[h_ q.2.2]; exact(W.sm n (by omega)).req
theorem take_one(b:may x=true)(a:bR v=true)(h1:1<=v.aS)(f:v.aS<=65536)(d:x (6+aV v)+v.aS<=1125899906842624):(bC x v.o v.aS).2=if Ae x (aV v)<v.aS then 11 else 0:=by
 have e:=vJ b a;unfold bC bT pX;rw[b,f_ h1,f_ (show v.aS<=1125899906842624 by omega),e,d_ (show(true&&true&&true)=true from rfl),d_ (Py a),(Cy a).2.2];by_cases c:Ae x (aV v)<v.aS
 ·rw[f_ c,d_ c]; rfl
 rw[g_ c,b_ c];show(if(0:Int)=0 then if x (6+aV v)+v.aS<=1125899906842624 then(upd x (6+aV v) (x (6+aV v)+v.aS),0)else(zero,6)else(zero,0)).2=0;rw[d_ rfl,d_ d]
theorem LW : ∀ {n:Nat},(∀ i,i<n->(f (r i)).2=0\/(f (r i)).2=11)->gN f r n=0\/(gN f r n=11 /\ ∃ i,i<n/\(f (r i)).2=11)
 | 0,_ => .inl rfl
 | n+1,h=>by
   rcases LW (n:=n) (fun i a=>h i (by omega))with q|⟨q,i,a,e⟩
   ·have s:gN f r (n+1)=(f (r n)).2:=by unfold gN; rw[d_ q]
    rcases h n (by omega)with z|z
    ·left; rw[s,z]
    ·right; exact⟨s.trans z,n,by omega,z⟩
   ·right;have s:gN f r (n+1)=gN f r n:=by
     show(if gN f r n=0 then _ else _)=_;rw[b_ (by rw[q]; decide)]
    exact⟨s.trans q,i,by omega,e⟩
theorem Xb(h:uJ k ev an L)(W:Ws k ev an)(A:bR v=true)(U:v.kind=3)(h1:1<=v.aS)(O:v.aS<=65536)(hr:dD L.known v=true)(w:256<v.req)(S : ∃ j,j<L.nn/\L.id j=v.node) :
 (bK L v=0\/bK L v=11\/bK L v=10)/\(bK L v=0 -> ∀ q,q<eP L.t L.tn v.node->v.aS<=iZ L (bD L.t L.tn q v.node) v.o)/\(bK L v=11 -> ∃ q,q<eP L.t L.tn v.node/\iZ L (bD L.t L.tn q v.node) v.o<v.aS):=by
 obtain⟨m,N,b,Q⟩:=h.tw W;have g:=b.t.t;have M:m.known=L.known:=b.t.s.known;have J:bV m v=bK L v:=(b.t.s.apply g b.t.i v).1;have R:m.T.has v.node=true:=(b.t.s.T.has _).2 S;have P:gW m v.o v.req=false:=by
  cases c:gW m v.o v.req with
  | false=>rfl
  | true =>
    have:=W.aeH (K:=L.known) an (A_ _) v.o v.req (by rw[<- Q]; exact c);omega
 have C : ∀ y,y∈m.T.path v.node->(bC (bA m y) v.o v.aS).2=if iZ L y v.o<v.aS then 11 else 0:=fun y B=>by
  have p:=b.t.may (dJ.lH g rfl y B);have V:=b.cell y (6+aV v);rw[take_one p A h1 O (by omega),<- vJ p A,b.t.s.local b.t.i]
 have F:eF m v=dz m (fun x=>bC x v.o v.aS) (m.T.path v.node):=by
  unfold eF jK;rw[b_ (by omega),b_ (by omega),d_ U,b_ (by rw[P]; decide),b_ (by rw[R]; decide)]
 have z : ∀ i,i<(m.T.path v.node).length->(m.T.path v.node).getD i 0∈m.T.path v.node:=fun i d=>by
  rw[r_,o_ d]; exact R_ d
 have E : ∀ i,i<(m.T.path v.node).length->Bj m ((m.T.path v.node).getD i 0)=bA m ((m.T.path v.node).getD i 0):=fun i d=>by
  unfold bA; rw[d_ (dJ.lH g rfl _ (z i d))]
 have D:eF m v=0\/(eF m v=11 /\ ∃ y,y∈m.T.path v.node/\iZ L y v.o<v.aS):=by
  rw[F]
  rcases LW (f:=fun x=>bC x v.o v.aS) (r:=fun i=>Bj m ((m.T.path v.node).getD i 0)) (n:=(m.T.path v.node).length) (fun i d=>by
   show(bC (Bj m ((m.T.path v.node).getD i 0)) v.o v.aS).2=0\/(bC (Bj m ((m.T.path v.node).getD i 0)) v.o v.aS).2=11;rw[E i d,C _ (z i d)];split
   ·exact .inr rfl
   ·exact .inl rfl)with q|⟨q,i,d,e⟩
  ·exact .inl q
  ·refine .inr ⟨q,_,z i d,?_⟩;have e:(bC (Bj m ((m.T.path v.node).getD i 0)) v.o v.aS).2=11:=e;rw[E i d,C _ (z i d)]at e;by_cases c:iZ L ((m.T.path v.node).getD i 0) v.o<v.aS
   ·exact c
   ·rw[b_ c]at e; cases e
 have I:bV m v=if m.inn (aO v)=false\/m.left (aO v)=true then 10 else eF m v:=by
  have G:dD m.known v=true:=by rw[M]; exact hr
  unfold bV;rw[b_ (by rw[A]; decide),b_ (by rw[Pz G]; decide),b_ (by rw[G]; decide)]
 rw[<- J,I];refine⟨?_,fun u q w => ?_,fun l => ?_⟩
 ·split
  ·exact .inr (.inr rfl)
  rcases D with a|a
  ·exact .inl a
  exact .inr (.inl a.1)
 ·by_cases c:m.inn (aO v)=false\/m.left (aO v)=true
  ·rw[d_ c]at u; cases u
  rw[b_ c,F]at u;have p:=(b.t.s.T.mem g b.t.i v.node (bD L.t L.tn q v.node)).2 ⟨q,w,rfl⟩;have e:=vI (f:=fun x=>bC x v.o v.aS) g u p;have e:(bC (bA m (bD L.t L.tn q v.node)) v.o v.aS).2=0:=e;rw[C _ p]at e;by_cases H:iZ L (bD L.t L.tn q v.node) v.o<v.aS
  ·rw[d_ H]at e; cases e
  omega
 by_cases c:m.inn (aO v)=false\/m.left (aO v)=true
 ·rw[d_ c]at l; cases l
 rw[b_ c]at l
 rcases D with a|⟨_,y,B,hl⟩
 ·rw[a]at l; cases l
 obtain⟨q,w,e⟩:=(b.t.s.T.mem g b.t.i v.node y).1 B;exact⟨q,w,by rw[e]; exact hl⟩
end
end Rt
end
namespace Rt
def mnI(a b:Int):Int:=if b<a then b else a
end Rt
namespace Rt
def eH(id:Nat->Int)(n:Nat)(x:Int):Int:=gX (fun i=>decide (id i=x)) n
def dW(id par:Nat->Int)(n:Nat):Nat->Int->Int
 | 0,x=>x
 | k+1,x=>par (eH id n (dW id par n k x)).toNat
def cK(id par:Nat->Int)(n:Nat)(x:Int):Nat:=lead (fun i=>decide (0<=eH id n (dW id par n i x))) 32
def Iu(id par:Nat->Int)(n:Nat)(x:Int):Nat->Value:=fun q=>aD (dW id par n q x)
theorem LX{id par:Nat->Int}{n k:Nat}{x:Int}(h : ∀ i,i<k->0<=eH id n (dW id par n i x))(c:eH id n (dW id par n k x)<0)(b:k<=32):k=cK id par n x :=
 (Jg (fun i a=>f_ (h i a)) (g_ (by omega)) b).symm
theorem Xc{id par:Nat->Int}{n:Nat}{x:Int}(h : ∀ i,i<32->0<=eH id n (dW id par n i x)):32=cK id par n x:=(EX fun i a=>f_ (h i a)).symm
theorem uf{id par:Nat->Int}{n:Nat}{x:Int}:cK id par n x<=32:=D7 _ _
end Rt
theorem PG(b l:Int)(i:Nat->Int)(g:Nat)(x:Int)(w:World)(c:aQ w g 1 (fun _=>aD x) 28) :
 Calls Tryz.prog 87 #[.agg (aA 56 (ji (b) (l) (i))),(pt g)] w fun e w'=>e = .returned (.bool (decide (b=x)))/\Below w.heap.size w w':=by
 have o:=c.lt;refine Kent Tryz.func87 8 ?_;refine ay<|qD fun j r f h m s => ?_;have⟨k,d⟩:=fD m.old c (Below.refl w.heap.size w);have n:=ig f;have p:=bZ f c.lt;have q:=h.lt;refine av aF<|aC<|ay<|av (pt j)<|Lv (aD b) (aL h.aH 0)<|Lv (aD x) (aL k.aH 0) ?_;by_cases a:b=x
 ·refine Lv aG (fu a)<|av aG<|aC<|Wr<|aJ aG ?_;exact⟨by rw[f_ a],d⟩
 refine Lv aF (fQ a)<|av aF<|aC<|Wr<|aJ aF ?_;exact⟨by rw[g_ a],d⟩
theorem ZE(a:Option Addr)(n cap:Nat)(id par:Nat->Int)(R:Nat->Nat->Int)(b:Nat)(x:Int)(w:World)(F:mM w a n 56 (flat 56 fun k=>ji (id k) (par k) (R k)))(u:aQ w b 1 (fun _=>aD x) 28)(M:n<=1000000) :
 Calls Tryz.prog 86 #[.slice a (n) (cap),.func (.func 87) #[] #[(pt b)]] w fun e w'=>e = .returned (au (eH id n x))/\Below w.heap.size w w':=by
 have P:=u.lt;refine Kent Tryz.func86 19 ?_;refine ay<|av (au 0)<|aC<|Ws<|ay<|av (.slice a (n) (cap))<|av (au n)<|av (au 0)<|aC<|Wb<|Wo (fun f y => ∃ k:Nat,k<=n/\(∀ i,i<k->(fun i=>decide (id i=x)) i=false)/\f 0 = .slice a (n) (cap)/\f 1 = .func (.func 87) #[] #[(pt b)]/\f 7=au (n:Int)/\f 8=au (k:Int)/\aQ y b 1 (fun _=>aD x) 28/\Below w.heap.size w y) (fun f _=>(n-(intOf (f 8)).toNat)) ⟨0,by omega,(fun i h=>N_ h (by omega)),(by rfl),(by rfl),Fx.ic,Fx.ic,u,(Below.refl w.heap.size w)⟩ ?_;rintro J I ⟨k,L,m,s,t,l,d,o,j⟩;refine ay ?_;by_cases r:(k:Int)<(n:Int)
 ·refine Lv aG (gu r (hx:=d) (hy:=l))<|aC<|Ws<|aN<|Wk<|sN<|Ws<|Wb<|ay<|aT d<|av (au k)<|aC<|ay<|aT t<|aT s<|av (au k) ?_;obtain⟨p,H,B,v⟩:=(F.up j rfl) (by omega);have O:p<I.heap.size:=v.lt (by omega);refine Lv (pf p (56*k+H)) (dh 56 (hx:=(rfl.trans (M_ (fun q=>Value.slice q (n) (cap)) B))))<|Lv (.agg (aA 56 (ji (id k) (par k) (R k)))) (fP v (56*k) (fun N E=>Fx.jB (k:=k) (by omega) E)) ?_;by_cases c:(decide (id k=x))=true
  ·refine Ag (by rfl) (Fx.CG (args := [.agg (aA 56 (ji (id k) (par k) (R k)))]) rfl rfl rfl (all := #[.agg (aA 56 (ji (id k) (par k) (R k))),(pt b)]) rfl Tryz.func87 rfl rfl) rfl<|(PG (id k) (par k) (R k) b x _ o).mono ?_;rintro e Q ⟨g,C⟩;refine⟨.bool true,by rw[g,c],?_⟩;clear g;have z:=bH C j;refine aC<|aN<|ay<|av (au k)<|av (au k)<|aC<|Wr<|bO<|sR<|qm<|bO<|sR<|aJ (au k) ?_;exact⟨oO (Eq.symm (oQ m c (by omega))),z⟩
  rw[U_]at c;refine Ag (by rfl) (Fx.CG (args := [.agg (aA 56 (ji (id k) (par k) (R k)))]) rfl rfl rfl (all := #[.agg (aA 56 (ji (id k) (par k) (R k))),(pt b)]) rfl Tryz.func87 rfl rfl) rfl<|(PG (id k) (par k) (R k) b x _ o).mono ?_;rintro e S ⟨g,D⟩;refine⟨.bool false,by rw[g,c],?_⟩;clear g;have⟨G,A⟩:=fD D o j;refine aC<|aK<|Wk<|bQ<|sN<|Wl<|Lv (au ((k:Int)+1)) (eO (hx:=d))<|av (au ((k:Int)+1))<|Ln<|gF ⟨k+1,by omega,(rT m c),s,t,(l.trans Fx.ic),Fx.ic,G,A⟩ ?_;show(n-(intOf (au ((k:Int)+1))).toNat)<_;simp only[d,intOf]; omega
 refine Lv aF (gy r (hx:=d) (hy:=l))<|aC<|Ws<|aK<|Wx<|cu<|gL<|cB<|sN<|ay<|av (au (-1))<|aC<|Wr<|aJ (au (-1)) ?_;exact⟨oO (Eq.symm (kX (fun i K=>m i (by omega)))),j⟩
theorem NU(s:Al)(id par:Nat->Int)(R:Nat->Nat->Int)(x:Int)(w:World)(m:mM w s.na s.nn 56 (flat 56 fun k=>ji (id k) (par k) (R k)))(n:s.nn<=1000000) :
 Calls Tryz.prog 60 #[.agg (aA 20 (jZ s)),aD x] w fun e w'=>e = .returned (au (eH id s.nn x))/\Below w.heap.size w w':=by
 refine Kent Tryz.func60 9 ?_;refine ay<|qD fun j z i b p C => ?_;have c:=bH p.old (Below.refl w.heap.size w);have r:=ig i;have v:=b.lt;refine yZ (aD x) fun a A f g q D => ?_;have⟨o,d⟩:=fD q.old b c;have t:=iV f c.size;have u:=bZ f b.lt;have y:=g.lt;refine av (au 0)<|aC<|ay<|av (pf j 18)<|Lv (.slice s.na (s.nn) (s.nc)) (aL o.aH 18)<|Lv (.func (.func 87) #[] #[(pt a)]) (Fx.mV (us := []) (vs := [(pt a)]) rfl rfl rfl)<|dZ (ZE s.na s.nn s.nc id par R a x _ (m.up d rfl) g n) _ rfl ?_;intro B l;have h:=bH l d;refine av (au (eH id s.nn x))<|aC<|Wr<|aJ (au (eH id s.nn x)) ?_;exact⟨rfl,h⟩
theorem Rt.aeI{id par:Nat->Int}{n k:Nat}{x:Int}{z:Nat->Value} : ∀ j,j<(k+1)*1->iy (Iu id par n x) (k*1) (bI z (0*1) 1 (fun _=>aD (dW id par n k x))) j=Iu id par n x j:=fun j a=>by
 unfold iy;by_cases h:j<k*1
 ·rw[d_ h]
 ·rw[b_ h];unfold bI;rw[d_ (by omega)];show Value.int .u64 (dW id par n k x)=Value.int .u64 (dW id par n j x);rw[show j=k by omega]
theorem Rt.FW{id:Nat->Int}{n:Nat}{x:Int}(h:0<=eH id n x) : ∃ j:Nat,j<n/\eH id n x=(j:Int)/\id j=x:=by
 rcases jg (fun i=>decide (id i=x)) n with ⟨k,a,e,b⟩|⟨e,_⟩
 ·exact⟨k,a,e,h_ b⟩
 unfold eH at h; rw[e]at h; omega
theorem Rt.Ro{id par:Nat->Int}{n k:Nat}{x:Int}(h : ∀ i,i<k->0<=eH id n (dW id par n i x))(a:0<=eH id n (dW id par n k x)) : ∀ i,i<k+1->0<=eH id n (dW id par n i x):=fun i b=>by
 by_cases e:i=k
 ·rw[e]; exact a
 ·exact h i (by omega)
set_option maxRecDepth 10000 in
theorem Xd(s:Al)(id par:Nat->Int)(R:Nat->Nat->Int)(x:Int)(w:World)(E:mM w s.na s.nn 56 (flat 56 fun k=>ji (id k) (par k) (R k)))(T:s.nn<=1000000) :
 Calls Tryz.prog 34 #[.agg (aA 20 (jZ s)),aD x] w fun e w' => ∃ v n,e = .returned v/\n=cK id par s.nn x/\Fx.Own w' w.heap.size 28 1 v n (Iu id par s.nn x)/\Below w.heap.size w w':=by
 refine Kent Tryz.func34 30 ?_;refine ay<|qD fun A w1 aa G s1 z1 => ?_;have L:=bH s1.old (Below.refl w.heap.size w);have sU:=ig aa;have uq:=G.lt;refine av (.slice none 0 0)<|aC<|Ws<|ay<|Lv (.agg (aA 20 (jZ s))) (fP G.aH 0)<|av (aD x)<|dZ (NU s id par R x _ (E.up L rfl) T) _ rfl ?_;intro w2 hb1;have⟨m2,Y⟩:=fD hb1 G L;refine av (au (eH id s.nn x))<|aC<|Wb ?_;have m3:Fx.Own w2 w.heap.size 28 1 (.slice none 0 0) 0 (Iu id par s.nn x):=vU _ _ _ _ _;refine Wo (fun f K => ∃ k:Nat,∃ a:Option Addr,∃ b:Nat,k<=32/\(∀ i,i<k->0<=eH id s.nn (dW id par s.nn i x))/\f 1=aD (dW id par s.nn k x)/\f 2=(pt A)/\f 4 = .slice a (k) (b)/\f 5=au (eH id s.nn (dW id par s.nn k x))/\aQ K A 20 (jZ s) 53/\Fx.Own K w.heap.size 28 1 (.slice a (k) (b)) k (Iu id par s.nn x)/\Below w.heap.size w K) (fun f _=>(32-Qq (f 4))) ⟨0,none,0,by omega,(fun i h=>N_ h (by omega)),Fx.ic,(by rfl),(by rfl),Fx.ic,m2,m3,Y⟩ ?_;rintro f1 w3 ⟨k,a,b,hk,D,h1,C,c,P,V,p,d⟩;refine Ws<|ay<|aT P ?_;by_cases g:0<=(eH id s.nn (dW id par s.nn k x))
 ·refine Lv aG (ku g)<|av aG<|aT c<|av (au k) ?_;by_cases M:(k:Int)<32
  ·refine Lv aG (gu M)<|av aG<|aC<|aN<|Wk<|sN<|Ws<|Wb<|ay<|aT c<|aT h1<|xI (vs := [(0,aD (dW id par s.nn k x))]) (s:=1) (zc:=rv .u64 (fun _=>0)) (y:=bI (fun j=>(rv .u64 (fun _=>0)) (j % 1)) (0*1) 1 (fun _=>aD (dW id par s.nn k x))) (by rfl) rfl rfl Tryz.underlying63 (by kernel_rfl) (by rfl) (by rfl) (by kernel_rfl) (by rw[aZ (off:=0*1) (s:=1) (y:=fun _=>aD (dW id par s.nn k x)) rfl (cells_one (by rfl)) (by rfl)]; rfl) rfl fun g2 w4 z W s3 z2 => ?_;have⟨m7,I,r⟩:=jw s3.old V p d;have pV:=iV z d.size;have KH:=bZ z V.lt;have KW:(.slice a (k) (b):Value).ownBlock≠some g2:=(by rw[z]; exact p.jm (A_ _));have zy:=W.lt;refine yG (B:=w.heap.size) (s:=1) (bytes:=8) (k:=k) (m:=1) (v := .slice a (k) (b)) (x:=Iu id par s.nn x) (by rfl) rfl rfl rfl Tryz.underlying63 (by kernel_rfl) (by kernel_rfl) rfl rfl I W.aH (wL (fun _=>rfl)) (by omega) (by omega) (by omega) r.size fun o l J ho1 Q sS hlt1 => ?_;have fV:=yI Q I;have H:=kF fV m7;have m9:Fx.Own J w.heap.size 28 1 (bM o (k+1) l) (k+1) (Iu id par s.nn x):=(ho1.congr (fun j S=>aeI j S));have t:Below w.heap.size w J:=yF r Q r.size (fun q hq=>(I.ge hq).1);refine av (bM o (k+1) l)<|aC ?_;obtain⟨j,S,O,_⟩:=FW g;have N:dW id par s.nn (k+1) x=par j:=(by show par (eH id s.nn (dW id par s.nn k x)).toNat=_; rw[O]; rfl);refine Wl<|Lv (pf A 18) (je C 18)<|Lv (.slice s.na (s.nn) (s.nc)) (aL H.aH 18)<|aT (P.trans (M_ (Value.int .i64) O)) ?_;obtain⟨u,X,ab,U⟩:=(E.up t rfl) (by omega);have YG:u<J.heap.size:=U.lt (by omega);refine Lv (pf u (56*j+X)) (dh 56 (hx:=(rfl.trans (M_ (fun q=>Value.slice q (s.nn) (s.nc)) ab))))<|av (pf u (56*j+X+1))<|Lv (aD (par j)) (aL U (56*j+1) (Fx.fO (k:=j) (j:=1) (by omega) (by omega) rfl))<|av (aD (par j))<|Ln<|bQ<|sN<|Wl<|Lv (.agg (aA 20 (jZ s))) (fP H.aH 0 (ha:=C))<|aT (rfl.trans (M_ (Value.int .u64) N.symm))<|dZ (NU s id par R (dW id par s.nn (k+1) x) _ (E.up t rfl) T) _ rfl ?_;intro w6 hb2;have⟨m12,m13,Z⟩:=jw hb2 H m9 t;refine av (au (eH id s.nn (dW id par s.nn (k+1) x)))<|Ln ?_
   skip
   refine gF ⟨k+1,(some ⟨o,0,none⟩),l,by omega,(Ro D g),((rfl.trans (M_ (Value.int .u64) N.symm)).trans Fx.ic),C,(by rfl),Fx.ic,m12,m13,Z⟩ ?_;show(32-Qq (bM o (k+1) l))<_;simp only[c,intOf,Qq]; omega
  refine Lv aF (gy M)<|av aF<|aC<|aK<|Wx<|cu<|gL<|cB<|sN<|ay<|aT c<|av (.slice a (k) (b))<|aC<|Wr<|aJ (.slice a (k) (b)) ?_;obtain rfl:k=32:=by omega
  have F:32=cK id par s.nn x:=Xc D;exact⟨_,_,rfl,F,p,d⟩
 refine Lv aF (jU g)<|av aF<|bX<|bX<|bX<|av aF<|aC<|aK<|Wx<|cu<|gL<|cB<|sN<|ay<|aT c<|av (.slice a (k) (b))<|aC<|Wr<|aJ (.slice a (k) (b)) ?_;have F:k=cK id par s.nn x:=LX D (by omega) hk;exact⟨_,_,rfl,F,p,d⟩
namespace Rt
def Ao(g:Nat->Nat->Int)(i:Int):Nat->List Nat
 | 0 => []
 | n+1=>if g n 0=i/\g n 4=0 then Ao g i n ++ [n]else Ao g i n
def RF(g:Nat->Nat->Int)(l:List Nat):Nat->Value:=flat 5 fun k=>iE (g (l.getD k 0))
theorem Xe{g:Nat->Nat->Int}{i:Int}{k:Nat}(h1:g k 0=i)(a:g k 4=0):Ao g i (k+1)=Ao g i k ++ [k]:=by
 show(if _ then _ else _)=_; rw[d_ ⟨h1,a⟩]
theorem PK{g:Nat->Nat->Int}{i:Int}{k:Nat}(h : ¬ (g k 0=i/\g k 4=0)):Ao g i (k+1)=Ao g i k:=by
 show(if _ then _ else _)=_; rw[b_ h]
theorem NV(g:Nat->Nat->Int)(i:Int) : ∀ k,(Ao g i k).length<=k
 | 0=>A_ _
 | k+1=>by
   have:=NV g i k;show(if _ then _ else _:List Nat).length<=k+1;split
   ·simp; omega
   ·omega
theorem aeJ{g:Nat->Nat->Int}{l:List Nat}{n q:Nat}{z:Nat->Value}(b:n=l.length) : ∀ j,j<(n+1)*5->iy (RF g l) (n*5) (bI z (0*5) 5 (iE (g q))) j=RF g (l ++ [q]) j:=fun j a =>
 (Fx.uO j a).trans (bL (fun i c p d=>by
  subst b;unfold Fx.qC;by_cases h:i=l.length
  ·subst h; rw[d_ rfl,r_,List.getElem?_append_right (by omega),Nat.sub_self]; rfl
  ·rw[b_ h]; show iE (g (l.getD i 0)) p=_; rw[r_,r_,List.getElem?_append_left (by omega)]) j a)
theorem Xf(x:Nat->Int)(j:Nat):(iE x j).oneCell'=true:=by unfold iE; repeat (first|rfl|split)
theorem aqN{z y:Nat->Value}(hy : ∀ j,j<5->(y j).oneCell'=true) : ∀ j,j<1*5->(bI z (0*5) 5 y j).oneCell'=true:=fun j a=>by
 unfold bI; rw[d_ (by omega)]; exact hy _ (by omega)
end Rt
set_option maxRecDepth 10000 in
theorem aeK(s:Al)(g:Nat->Nat->Int)(i:Int)(w:World)(hga:mM w s.ga s.gn 5 (flat 5 fun k=>iE (g k)))(hgn:s.gn<=1000000) :
 Calls Tryz.prog 36 #[.agg (aA 20 (jZ s)),au i] w fun e w' => ∃ v n,e = .returned v/\n=(Ao g i s.gn).length/\Fx.Own w' w.heap.size 66 5 v n (RF g (Ao g i s.gn))/\Below w.heap.size w w':=by
 refine Kent Tryz.func36 29 ?_;refine ay<|qD fun P w1 lK R s1 z1 => ?_;have b1:=bH s1.old (Below.refl w.heap.size w);have sU:=ig lK;have uq:=R.lt;refine av (.slice none 0 0)<|aC<|Ws<|ay<|av (pf P 19)<|Lv (.slice s.ga (s.gn) (s.gc)) (aL R.aH 19)<|av (au s.gn)<|av (au 0)<|aC<|Wb ?_;have m2:Fx.Own w1 w.heap.size 66 5 (.slice none 0 0) 0 (RF g (Ao g i 0)):=vU _ _ _ _ _;refine Wo (fun f V => ∃ k:Nat,∃ n:Nat,∃ a:Option Addr,∃ c:Nat,k<=s.gn/\n=(Ao g i k).length/\f 1=au i/\f 2=(pt P)/\f 4 = .slice a (n) (c)/\f 8 = .slice s.ga (s.gn) (s.gc)/\f 9=au (s.gn:Int)/\f 10=au (k:Int)/\aQ V P 20 (jZ s) 53/\Fx.Own V w.heap.size 66 5 (.slice a (n) (c)) n (RF g (Ao g i k))/\Below w.heap.size w V) (fun f _=>(s.gn-(intOf (f 10)).toNat)) ⟨0,0,none,0,by omega,rfl,Fx.ic,(by rfl),(by rfl),(by rfl),Fx.ic,Fx.ic,R,m2,b1⟩ ?_;rintro f1 w2 ⟨k,n,a,c,hk,t,F,Q,G,H,r,d,m3,T,z⟩;have hnl:=NV g i k;refine ay ?_;by_cases X:(k:Int)<(s.gn:Int)
 ·refine Lv aG (gu X (hx:=d) (hy:=r))<|aC<|Ws<|aN<|Wk<|sN<|Ws<|Wb<|ay ?_;obtain⟨N,oq1,eq1,K⟩:=(hga.up z rfl) (by omega);have YG:N<w2.heap.size:=K.lt (by omega);refine Lv (pf N (5*k+oq1)) (dh 5 (hx:=(H.trans (M_ (fun q=>Value.slice q (s.gn) (s.gc)) eq1))) (hi:=d))<|Lv (.agg (aA 5 (iE (g k)))) (fP K (5*k) (fun jq hjq=>Fx.jB (k:=k) (by omega) hjq))<|uh 5 (fun b=>if b<1 then au 0 else if b<3 then aD 0 else if b<4 then au 0 else aD 0) fun p w3 C U s2 z2 => ?_;have⟨m7,m8,m9,W⟩:=kR s2.old m3 T K z;have pV:=iV C z.size;have KH:=bZ C m3.lt;have KW:(.slice a (n) (c):Value).ownBlock≠some p:=by rw[C]; exact T.jm (A_ _)
  have K6:N≠p:=by rw[C]; exact u_ (K.lt (by omega))
  have zy:=U.lt;refine fA U 0 (h1:=(fun j _=>Xf _ j)) fun w4 m10 L z3 => ?_;have u:aQ w4 p 5 (iE (g k)) 66:=aU m10;have fV:=gZ L U.ty;have I:=kF fV m7;have J:=m8.cZ L KW;have m14:=m9.cZ L (by omega);have A:=L.below W W.size (by omega);refine aC<|ay<|av (pt p)<|Lv (au (g k 0)) (aL u.aH 0)<|aT F ?_;by_cases l:(g k 0)=i
  ·refine Lv aG (fu l)<|av aG<|av (pf p 4)<|Lv (aD (g k 4)) (aL u.aH 4) ?_;by_cases o:(g k 4)=0
   ·refine Lv aG (fu o)<|av aG<|aC<|aN<|Wl<|aT G<|Lv (.agg (aA 5 (iE (g k)))) (fP u.aH 0)<|xI (vs := [(0,.agg (aA 5 (iE (g k))))]) (s:=5) (zc:=fun b=>if b<1 then au 0 else if b<3 then aD 0 else if b<4 then au 0 else aD 0) (y:=bI (fun j=>(fun b=>if b<1 then au 0 else if b<3 then aD 0 else if b<4 then au 0 else aD 0) (j % 5)) (0*5) 5 (iE (g k))) (by rfl) rfl rfl Tryz.underlying51 (by kernel_rfl) (by rfl) (by rfl) (by kernel_rfl) (by rw[aZ (off:=0*5) (s:=5) (y:=iE (g k)) rfl (bJ _ _) (by rfl)]; rfl) rfl fun g3 w5 D aa s4 z4 => ?_;have⟨m16,S,m18,M⟩:=kR s4.old I J u A;have za:=iV D A.size;have aer:=bZ D I.lt;have V4:(.slice a (n) (c):Value).ownBlock≠some g3:=(by rw[D]; exact J.jm (A_ _));have aes:=bZ D u.lt;have I4:=aa.lt;refine yG (B:=w.heap.size) (s:=5) (bytes:=40) (k:=n) (m:=1) (v := .slice a (n) (c)) (x:=RF g (Ao g i k)) (by rfl) rfl rfl rfl Tryz.underlying51 (by kernel_rfl) (by kernel_rfl) rfl rfl S aa.aH (aqN (fun j _=>Xf _ j)) (by omega) (by omega) (by omega) M.size fun E O w6 ho1 Z sS hlt1 => ?_;have jJ:=yI Z S;have m20:=kF jJ m16;have adk:p≠E:=fun e=>sS.elim (fun Y=>KW (by rw[e]; exact Y)) (fun Y=>by have:=m18.lt; omega);have m19:Fx.Own w6 w.heap.size 66 5 (bM E (n+1) O) (n+1) (RF g (Ao g i (k+1))):=(ho1.congr (fun j hj=>by rw[Xe l o]; exact aeJ t j hj));have b6:Below w.heap.size w w6:=yF M Z M.size (fun q hq=>(S.ge hq).1);refine av (bM E (n+1) O)<|Ln<|bQ<|sN<|Wl<|Lv (au ((k:Int)+1)) (eO (hx:=d))<|av (au ((k:Int)+1))<|Ln ?_
    skip
    refine gF ⟨k+1,n+1,(some ⟨E,0,none⟩),O,by omega,(by rw[Xe l o,G_,<- t]; rfl),(F.trans Fx.ic),Q,(by rfl),H,(r.trans Fx.ic),Fx.ic,m20,m19,b6⟩ ?_;show(s.gn-(intOf (au ((k:Int)+1))).toNat)<_;simp only[d,intOf]; omega
   refine Lv aF (fQ o)<|av aF<|aC<|aK<|Wk<|bQ<|sN<|Wl<|Lv (au ((k:Int)+1)) (eO (hx:=d))<|av (au ((k:Int)+1))<|Ln ?_;have m22:=J.congr (y:=RF g (Ao g i (k+1))) (fun j _=>by rw[PK (fun h=>o h.2)])
   skip
   refine gF ⟨k+1,n,a,c,by omega,(by rw[PK (fun h=>o h.2)]; exact t),(F.trans Fx.ic),Q,G,H,(r.trans Fx.ic),Fx.ic,I,m22,A⟩ ?_;show(s.gn-(intOf (au ((k:Int)+1))).toNat)<_;simp only[d,intOf]; omega
  refine Lv aF (fQ l)<|av aF<|bX<|bX<|bX<|av aF<|aC<|aK<|Wk<|bQ<|sN<|Wl<|Lv (au ((k:Int)+1)) (eO (hx:=d))<|av (au ((k:Int)+1))<|Ln ?_;have m23:=J.congr (y:=RF g (Ao g i (k+1))) (fun j _=>by rw[PK (fun h=>l h.1)])
  skip
  refine gF ⟨k+1,n,a,c,by omega,(by rw[PK (fun h=>l h.1)]; exact t),(F.trans Fx.ic),Q,G,H,(r.trans Fx.ic),Fx.ic,I,m23,A⟩ ?_;show(s.gn-(intOf (au ((k:Int)+1))).toNat)<_;simp only[d,intOf]; omega
 refine Lv aF (gy X (hx:=d) (hy:=r))<|aC<|Ws<|aK<|Wx<|cu<|gL<|cB<|sN<|ay<|aT G<|av (.slice a (n) (c))<|aC<|Wr<|aJ (.slice a (n) (c)) ?_;obtain rfl:k=s.gn:=by omega
 exact⟨_,n,rfl,t,T,z⟩
namespace Rt
def zm(r:Nat->Int)(k:Nat):Nat->Value:=fun p=>if p=0 then au (sums r).1 else if p=1 then au (sums r).2 else au (if p-2<k then fT r ((p:Int)-1)else 0)
def quZ:Nat->Value:=fun _=>au 0
def quF(id:Nat->Int)(n:Nat)(R:Nat->Nat->Int)(x:Int):Nat->Value:=if eH id n x<0 then quZ else zm (R (eH id n x).toNat) 6
def quE(id:Nat->Int)(n:Nat)(x:Int):Int:=if eH id n x<0 then 9 else 0
theorem NW(r:Nat->Int)(k j:Nat):(zm r k j).oneCell'=true:=by unfold zm; repeat (first|rfl|split)
theorem ZF{r:Nat->Int}{k q:Nat}(d:q=k+2){v:Int}(e:v=fT r ((k:Int)+1)) : ∀ j,j<8->dB (zm r k) q (au v) j=zm r (k+1) j:=fun j _=>by
 subst d e;unfold dB zm;by_cases h:j=k+2
 ·subst h; rw[d_ rfl,b_ (by omega),b_ (by omega),d_ (by omega)]; congr 2; omega
 ·rw[b_ h];by_cases a:j=0
  ·rw[d_ a,d_ a]
  ·by_cases b:j=1
   ·rw[b_ a,d_ b,b_ a,d_ b]
   ·rw[b_ a,b_ b,b_ a,b_ b];by_cases c:j-2<k
    ·rw[d_ c,d_ (by omega)]
    ·rw[b_ c,b_ (by omega)]
end Rt
set_option maxRecDepth 10000 in
theorem aeM(s:Al)(id par:Nat->Int)(R:Nat->Nat->Int)(x:Int)(w:World)(L:mM w s.na s.nn 56 (flat 56 fun k=>ji (id k) (par k) (R k)))(hnn:s.nn<=1000000) :
 Calls Tryz.prog 35 #[.agg (aA 20 (jZ s)),aD x] w fun e w'=>e = .returned (.tuple #[.agg (aA 8 (quF id s.nn R x)),au (quE id s.nn x)])/\Below w.heap.size w w':=by
 refine Kent Tryz.func35 40 ?_;refine ay<|qD fun J w1 lK t s1 z1 => ?_;have A:=bH s1.old (Below.refl w.heap.size w);have sU:=ig lK;have uq:=t.lt;refine uh 8 (rv .i64 (fun _=>0)) fun a w2 H N s2 z2 => ?_;have⟨Q,C⟩:=fD s2.old t A;have pV:=iV H A.size;have Kt:=bZ H t.lt;have zy:=N.lt;refine av (au 0)<|aC<|ay<|Lv (.agg (aA 20 (jZ s))) (fP Q.aH 0)<|av (aD x)<|dZ (NU s id par R x _ (L.up C rfl) hnn) _ rfl ?_;intro w3 hb1;have⟨y,m,c⟩:=jw hb1 Q N C;refine av (au (eH id s.nn x))<|aC<|Ws<|ay<|av (au (eH id s.nn x)) ?_;by_cases b:(eH id s.nn x)<0
 ·refine Lv aG (gu b)<|aC<|aN<|ay<|Lv (.agg (aA 8 (rv .i64 (fun _=>0)))) (fP m.aH 0)<|fA m 0 fun w4 m6 s4 z3 => ?_;have m7:aQ w4 a 8 (rv .i64 (fun _=>0)) 92:=aU m6;have b4:=s4.below c c.size (by omega);refine av (au 9) (aC (Wr (sR (⟨.tuple #[.agg (aA 8 (rv .i64 (fun _=>0))),au 9],gP Tryz.results35 ⟨_,rfl,aX m7.aH (by kernel_rfl) (by kernel_rfl)⟩ (by exact rfl),?_⟩))));exact⟨by unfold quF quE; rw[d_ b,d_ b]; rfl,b4⟩
 refine Lv aF (gy b)<|aC<|aK<|Wk<|sN<|Ws ?_;obtain⟨j,hj,I,_⟩:=FW (show 0<=eH id s.nn x by omega);refine Wl<|av (pf J 18)<|Lv (.slice s.na (s.nn) (s.nc)) (aL y.aH 18)<|aT (M_ (Value.int .i64) I) ?_;obtain⟨h,U,eq1,n⟩:=(L.up c rfl) (by omega);have YG:h<w3.heap.size:=n.lt (by omega);refine Lv (pf h (56*j+U)) (dh 56 (hx:=(rfl.trans (M_ (fun q=>Value.slice q (s.nn) (s.nc)) eq1))))<|av (pf h (56*j+U+2))<|Lv (.agg (aA 54 (rv .i64 (R j)))) (fP n (56*j+2) (fun l hjq=>(Fx.jB (k:=j) (j:=2+l) (by omega) (by omega)).trans ((fun l _=>DZ _ _ _ l) l hjq)))<|uh 54 (rv .i64 (fun _=>0)) fun i w5 r u s5 z4 => ?_;have⟨m11,m12,m13,D⟩:=kR s5.old y m n c;have za:=iV r c.size;have⟨V6,V7⟩:=vY r y.lt m.lt;have V9:h≠i:=by rw[r]; exact u_ (n.lt (by omega))
 have I4:=u.lt;refine fA u 0 fun w6 m14 z z5 => ?_;have M:aQ w6 i 54 (rv .i64 (R j)) 59:=aU m14;have jJ:=gZ z u.ty;have⟨m16,m17⟩:=xS jJ m11 m12;have m18:=m13.cZ z (by omega);have b6:=z.below D D.size (by omega);refine aC<|ay<|Lv (.agg (aA 54 (rv .i64 (R j)))) (fP M.aH 0)<|dZ (TW (R j) _) _ rfl ?_;intro w7 hb2;have⟨m19,O,m21,E⟩:=kR hb2 m16 m17 M b6;refine av (.tuple #[au ((sums (R j)).1),au ((sums (R j)).2)])<|av (au ((sums (R j)).1))<|av (au ((sums (R j)).2))<|av (pt a)<|jd O 0 (au ((sums (R j)).1)) fun w8 m22 W z6 => ?_;have P:aQ w8 a 8 (rv .i64 (upd (fun _=>0) 0 ((sums (R j)).1))) 92:=m22.to (Fx.tK _ _ _ _);have qE:=gZ W O.ty;have⟨m24,nk⟩:=xS qE m19 m21;have F:=W.below E E.size (by omega);refine av (pf a 1)<|jd P 1 (au ((sums (R j)).2)) fun Y og X z7 => ?_;have oh:aQ Y a 8 (rv .i64 (upd (upd (fun _=>0) 0 ((sums (R j)).1)) 1 ((sums (R j)).2))) 92:=og.to (Fx.tK _ _ _ _);have wz:=gZ X P.ty;have⟨om,nI⟩:=xS wz m24 nk;have b9:=X.below F F.size (by omega);refine aC<|Ws<|Ws ?_;have oF:aQ Y a 8 (zm (R j) 0) 92:=oh.congr (fun j hj=>by rcases j with _|_|_|_|_|_|_|_|j <;> first|rfl|omega)
 refine Wl<|av (au 0)<|aC<|Wb<|Wo (fun f o => ∃ k:Nat,k<=6/\f 4=(pt a)/\f 7=(pt i)/\f 28=au (k:Int)/\aQ o J 20 (jZ s) 53/\aQ o i 54 (rv .i64 (R j)) 59/\aQ o a 8 (zm (R j) k) 92/\Below w.heap.size w o) (fun f _=>(6-(intOf (f 28)).toNat)) ⟨0,by omega,(by rfl),(by rfl),Fx.ic,om,nI,oF,b9⟩ ?_;rintro f1 sV ⟨k,hk,d,K,g,lX,S,v,p⟩;refine ay ?_;by_cases G:(k:Int)<6
 ·refine Lv aG (gu G (hx:=g))<|aC<|Ws<|aN<|Wk<|sN<|Ws<|Wb<|ay<|aT g<|av (au k)<|aC<|Wl<|av (au k)<|Lv (.agg (aA 54 (rv .i64 (R j)))) (fP S.aH 0 (ha:=K))<|av (au k)<|Lv (au ((k:Int)+1)) eO<|dZ (zR (R j) ((k:Int)+1) _ (by omega)) _ rfl ?_;intro EC hb3;have⟨nQ,oq,T,B⟩:=kR hb3 lX S v p;refine Lv (pf a 2) (je d 2)<|Lv (pf a (k+2)) (jC 6 1)<|jd T (k+2) (au (fT (R j) ((k:Int)+1))) fun zL qQ V z8 => ?_;have xC:=gZ V T.ty;have⟨qR,oP⟩:=xS xC nQ oq;have Z:=V.below B B.size (by omega);refine Ln<|bQ<|sN ?_;have rQ:aQ zL a 8 (zm (R j) (k+1)) 92:=qQ.congr (ZF (by omega) rfl);refine Wl<|Lv (au ((k:Int)+1)) (eO (hx:=g))<|av (au ((k:Int)+1))<|Ln<|gF ⟨k+1,by omega,d,K,Fx.ic,qR,oP,rQ,Z⟩ ?_;show(6-(intOf (au ((k:Int)+1))).toNat)<_;simp only[g,intOf]; omega
 refine Lv aF (gy G (hx:=g))<|aC<|Ws<|aK<|Wx<|cu<|gL<|cB<|sN<|ay<|Lv (.agg (aA 8 (zm (R j) k))) (fP v.aH 0 (ha:=d))<|fA v 0 (ha:=d) (h1:=(fun j _=>NW _ _ j)) fun DV nJ s12 z9 => ?_;have mO:aQ DV a 8 (zm (R j) k) 92:=aU nJ;have aa:=s12.below p p.size (by omega);refine av (au 0) (aC (Wr (⟨.tuple #[.agg (aA 8 (zm (R j) k)),au 0],gP Tryz.results35 ⟨_,d,aX mO.aH (by kernel_rfl) (by kernel_rfl)⟩ (by exact rfl),?_⟩)));obtain rfl:k=6:=by omega
 exact⟨by unfold quF quE; rw[b_ b,b_ b,I]; rfl,aa⟩
namespace Rt
def aiO(id a x:Int):aeF:=⟨5,id,a,mnI x 1125899906842624,0,0⟩
def leave1(l:List aeF)(id a x:Int):List aeF:=if 0<x then l ++ [aiO id a x]else l
end Rt
namespace Rt
def wR:Nat->Int:=upd (fun _=>0) 0 6
end Rt
theorem Rt.aiP(j:Nat):dB (bI (fun d=>if d<2 then aD 0 else au 0) 0 1 (fun _=>aD 9)) 2 (au 6) j=ji 9 0 wR j:=by
 unfold dB bI ji wR upd;by_cases a:j=0
 ·subst a; rfl
 by_cases b:j=1
 ·subst b; rfl
 by_cases c:j=2
 ·subst c; rfl
 rw[b_ c,b_ (by omega),b_ a,b_ b,b_ (by omega)];show(if j<2 then _ else _)=_;rw[b_ (by omega)]
namespace Rt
def wsq(g c:Nat):Al:=⟨fun _=>false,fun _=>false,fun _=>0,some ⟨g,0,none⟩,1,c,none,0,0⟩
def wsz:Al:=⟨fun _=>false,fun _=>false,fun _=>0,none,0,0,none,0,0⟩
theorem aeN:zm wR 6 0=au 6:=by kernel_rfl
theorem aeO:zm wR 6 2=au 6:=by kernel_rfl
theorem aqQ:quF (fun _=>9) 1 (fun _=>wR) 9=zm wR 6:=b_ (by decide)
theorem aqR:quE (fun _=>9) 1 9=0:=by kernel_rfl
theorem aqS{id:Nat->Int}{R:Nat->Nat->Int}:quF id 0 R 1=quZ:=d_ (show(-1:Int)<0 by decide)
theorem aqT:cK (fun _=>9) (fun _=>0) 1 9=1:=by kernel_rfl
end Rt
theorem Rt.aiQ{z:Nat->Value}(j:Nat)(a:j<1*56):bI z (0*56) 56 (ji 9 0 wR) j=flat 56 (fun _=>ji 9 0 wR) j:=by
 unfold bI;rw[d_ (by omega),show j-0*56=j by omega];exact(Fx.jB (F:=fun _=>ji 9 0 wR) (k:=0) (by omega) (by omega)).symm
theorem aiR(w:World):Calls Tryz.prog 35 #[.agg (aA 20 (fun a=>if a<12 then .bool false else if a<18 then aD 0 else .slice none 0 0)),aD 1] w fun e w'=>e = .returned (.tuple #[.agg (aA 8 quZ),au 9])/\Below w.heap.size w w':=by
 rw[show aA 20 (fun a=>if a<12 then .bool false else if a<18 then aD 0 else .slice none 0 0)=aA 20 (jZ wsz)from Fx.eX fun j b=>by rcases j with _|_|_|_|_|_|_|_|_|_|_|_|_|_|_|_|_|_|_|_|j <;> first|rfl|omega]
 have:=aeM wsz (fun _=>0) (fun _=>0) (fun _ _=>0) 1 w (fun h=>N_ h (by decide)) (by decide);rw[show quF (fun _=>0) wsz.nn (fun _ _=>0) 1=quZ from aqS]at this;exact this
theorem aiS(g:Nat)(w:World)(h:iQ w g 0 (1*56) (flat 56 fun _=>ji 9 0 wR)):Calls Tryz.prog 35 #[.agg (aA 20 (jZ (wsq g 1))),aD 9] w fun e w'=>e = .returned (.tuple #[.agg (aA 8 (zm wR 6)),au 0])/\Below w.heap.size w w':=by
 have:=aeM (wsq g 1) (fun _=>9) (fun _=>0) (fun _=>wR) 9 w (fun _=>⟨g,0,rfl,h⟩) (by show 1<=1000000; omega);rw[show quF (fun _=>9) (wsq g 1).nn (fun _=>wR) 9=zm wR 6 from aqQ,show quE (fun _=>9) (wsq g 1).nn 9=0 from aqR]at this;exact this
set_option maxRecDepth 20000 in
set_option maxHeartbeats 1000000 in
theorem yE(w:World) :
 Calls Tryz.prog 33 #[] w fun e w'=>e = .returned (.bool true)/\Below w.heap.size w w':=by
 refine Kent Tryz.func33 55 ?_;refine ay<|av aF<|aC<|ay<|av (.agg (aA 20 (fun a=>if a<12 then .bool false else if a<18 then aD 0 else .slice none 0 0)))<|dZ (aiR _) _ rfl ?_;intro w1 hb1;have u:=bH hb1 (Below.refl w.heap.size w);refine av (.tuple #[.agg (aA 8 quZ),au 9])<|av (.agg (aA 8 quZ))<|av (au 9)<|uh 8 (rv .i64 (fun _=>0)) fun g1 w2 lK O s2 z1 => ?_;have z:=bH s2.old u;have sU:=iV lK u.size;have uq:=O.lt;refine fA O 0 fun w3 m2 s3 z2 => ?_;have X:aQ w3 g1 8 quZ 92:=aU m2;have A:=s3.below z z.size (by omega);refine av (au 9)<|aC<|ay<|av (.agg (aA 56 (bI (fun a=>if a<2 then aD 0 else au 0) 0 1 (fun _=>aD 9))))<|uh 56 (fun a=>if a<2 then aD 0 else au 0) fun d w4 G p s4 z3 => ?_;have⟨m5,B⟩:=fD s4.old X A;have pV:=iV G A.size;have Um:=bZ G X.lt;have zy:=p.lt;refine fA p 0 (h1:=(bP (fun k _=>by show((fun a=>if a<2 then aD 0 else au 0:Nat->Value) k).oneCell'=true; simp only[]; repeat (first|rfl|split)) (fun _ _=>rfl))) fun w5 m6 s5 z4 => ?_
 have Z:aQ w5 d 56 (bI (fun a=>if a<2 then aD 0 else au 0) 0 1 (fun _=>aD 9)) 61:=aU m6;have fV:=gZ s5 p.ty;have m8:=kF fV m5;have C:=s5.below B B.size (by omega);refine aC<|ay<|av (pf d 2)<|av (pf d 2)<|Lv (pf d 2) (jC 6 1)<|jd Z 2 (au 6) fun w6 m9 s6 z5 => ?_;have jJ:=gZ s6 Z.ty;have P:=kF jJ m8;have D:=s6.below C C.size (by omega);refine aC<|Ws ?_;have l:aQ w6 d 56 (ji 9 0 wR) 61:=m9.congr (fun j i=>aiP j);refine Wl<|Lv (.agg (aA 56 (ji 9 0 wR))) (fP l.aH 0)<|xI (vs := [(0,.agg (aA 56 (ji 9 0 wR)))]) (s:=56) (zc:=fun a=>if a<2 then aD 0 else au 0) (y:=bI (fun j=>(fun a=>if a<2 then aD 0 else au 0) (j % 56)) (0*56) 56 (ji 9 0 wR)) (by rfl) rfl rfl Tryz.underlying50 (by kernel_rfl) (by rfl) (by rfl) (by kernel_rfl) (by rw[aZ (off:=0*56) (s:=56) (y:=ji 9 0 wR) rfl (bJ _ _) (by rfl)]; rfl) rfl fun b w7 H m s7 z6 => ?_;have⟨Q,R,E⟩:=jw s7.old P l D;have za:=iV H D.size;have⟨V9,Wd⟩:=vY H P.lt l.lt;have I4:=m.lt;refine av (.agg (aA 20 (bI (fun a=>if a<12 then .bool false else if a<18 then aD 0 else .slice none 0 0) 18 1 (fun _=>bM b 1 1))))<|uh 20 (fun a=>if a<12 then .bool false else if a<18 then aD 0 else .slice none 0 0) fun L w8 I n s8 z7 => ?_;have⟨m16,m17,m18,F⟩:=kR s8.old Q R m E;have UU:=iV I E.size;have⟨aeg,aqU,aqV⟩:=IQ I Q.lt R.lt m.lt;have Rx:=n.lt;refine fA n 0 (h1:=(bP (fun k _=>by show((fun a=>if a<12 then .bool false else if a<18 then aD 0 else .slice none 0 0:Nat->Value) k).oneCell'=true; simp only[]; repeat (first|rfl|split)) (fun _ _=>rfl))) fun t m19 s9 z8 => ?_
 have m20:aQ t L 20 (bI (fun a=>if a<12 then .bool false else if a<18 then aD 0 else .slice none 0 0) 18 1 (fun _=>bM b 1 1)) 53:=aU m19;have qE:=gZ s9 n.ty;have⟨m21,m22,m23⟩:=Dp qE m16 m17 m18;have b9:=s9.below F F.size (by omega);refine aC<|Ws ?_;have S:aQ t L 20 (jZ (wsq b 1)) 53:=m20.congr (fun j i=>by rcases j with _|_|_|_|_|_|_|_|_|_|_|_|_|_|_|_|_|_|_|_|j <;> first|rfl|omega)
 have T:aQ t b (1*56) (flat 56 fun _=>ji 9 0 wR) 61:=m23.congr (fun j i=>aiQ j i);refine Wl<|Lv (.agg (aA 20 (jZ (wsq b 1)))) (fP S.aH 0)<|dZ (aiS b _ T.aH) _ rfl ?_;intro sV hb2;have⟨U,oh,V,W,v⟩:=uj hb2 m21 m22 S T b9;refine av (.tuple #[.agg (aA 8 (zm wR 6)),au 0])<|av (.agg (aA 8 (zm wR 6)))<|av (au 0)<|uh 8 (rv .i64 (fun _=>0)) fun f EC J o s11 z9 => ?_;have⟨lX,pR,nQ,x⟩:=kR s11.old U V W v;have lg5:=iV J v.size;have⟨aqW,aqX,aqY,aqZ⟩:=XF J U.lt oh.lt V.lt W.lt;have tg5:=o.lt;refine fA o 0 (h1:=(fun j _=>NW _ _ j)) fun zL oq r z10 => ?_;have pU:aQ zL f 8 (zm wR 6) 92:=aU oq;have qQ:=lX.cZ r (by omega);have wz:=gZ r o.ty;have⟨oP,rQ⟩:=xS wz pR nQ;have b12:=r.below x x.size (by omega);refine av (au 0)<|aC<|ay<|Lv (.agg (aA 20 (jZ (wsq b 1)))) (fP oP.aH 0)<|mE (Xd (wsq b 1) (fun _=>9) (fun _=>0) (fun _=>wR) 9 _ (fun _=>⟨b,0,rfl,rQ.aH⟩) (by show 1<=1000000; omega)) ?_;rintro e9 DV ⟨vq1,nq1,N,ara,h,arb⟩;obtain⟨g,c,rfl⟩:=h.val;obtain rfl:nq1=1:=ara.trans aqT;refine⟨_,N,?_⟩;clear N;have⟨Y,b13⟩:=fD arb pU b12;refine av (.slice g (1) (c))<|aC<|ay<|av (au 9)<|Lv aG (fu rfl)<|av aG<|av (au 0)<|Lv aG (fu rfl)<|av aG<|av aG<|av (pt f)<|Lv (au 6) (aL Y.aH 0 aeN)<|Lv aG (fu rfl)<|av aG<|av aG<|av (pf f 2)<|Lv (pf f 2) (jC 6 1)<|Lv (au 6) (aL Y.aH 2 aeO)<|Lv aG (fu rfl)<|av aG<|av aG<|av (.slice g (1) (c))<|av (au 1)<|Lv aG (fu rfl)<|av aG<|av aG<|av (.slice g (1) (c)) ?_;obtain⟨M,K⟩:=h.addr (by omega);have nR:Fx.Own DV zL.heap.size 28 1 (bM M 1 c) 1 (Iu (fun _=>9) (fun _=>0) 1 9):=h.dL (M_ (fun q=>Value.slice q 1 c) K);refine Lv (pt M) (dh 1 (hx:=(rfl.trans (M_ (fun q=>Value.slice q (1) (c)) K))))<|Lv (aD 9) (aL nR.aH 0)<|Lv aG (fu rfl)<|av aG<|av aG<|aC<|Wr<|aJ aG ?_;exact⟨rfl,b13⟩
end Go.Proofs.YtahbiajdgealnaaGreatDoor
