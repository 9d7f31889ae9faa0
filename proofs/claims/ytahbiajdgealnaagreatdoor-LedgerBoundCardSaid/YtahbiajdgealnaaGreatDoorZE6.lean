/-
  What the proof of the law rests on, part 6: walks of functions, and plain laws; each says its conditions itself.
-/
import Derived.Shelf.SlSortCmp.NoneTotal
import Derived.Shelf.SlSortCmp.WholeK
import Derived.Lib.SliceRun
import Derived.Ground.SlsfProg
import Derived.Test.YtahbiajdgealnaaGreatDoorProg
import Derived.Test.YtahbiajdgealnaaGreatDoorZE5
set_option maxHeartbeats 1600000
set_option linter.unusedVariables false
set_option linter.unusedSimpArgs false
namespace Go.Proofs.YtahbiajdgealnaaGreatDoor
open Go.RowKit
set_option linter.unusedVariables false
namespace Fx
abbrev Qd:=List (Nat × List Nat)
def G6(ops:List Oper)(a:List Nat)(b:Bool)(i:Nat)(l:Qd):Bool:=l.all fun x=>match a[x.1]? with|some e => !Nat.beq i e&&(if b then xH ops i x.2 e else xH ops e x.2 i)|none=>false
def MW(ops:List Oper)(a:List Nat)(c b:List Qd):Bool:=(List.range ops.length).all fun i=>G6 ops a true i (c.getD i [])&&G6 ops a false i (b.getD i [])
def pK(a:List Nat)(b:Array Bool)(j:Nat):Bool:=match a[j]? with|some e=>b.getD e false|none=>false
def UM(m:Nat->Bool)(j:Nat):Nat->Bool:=fun q=>bif Nat.beq q j then true else m q
section
variable {P:Program} {n:Nat} {Q:Post} {f:Nat->Value} {w:World} {ops:List Oper}
theorem Qe{i e:Nat}{p:List Nat}{b:Array Bool}(hr:i∈Region.ready .any ops.toArray b)(j:Jh ops.toArray .any b)(d:i≠e)(h:xH ops i p e=true):b.getD e false=true:=by
 obtain⟨m,n,l,g⟩:=fF hr;obtain⟨f,h⟩:=iX h
 cases f with
 | zero=>unfold reach at h; exact L_ (by simpa using h) d
 | succ f =>
   unfold reach at h;rw[Bool.or_eq_true]at h
   rcases h with h|h
   ·exact L_ (by simpa using h) d
   ·rw[l]at h;simp only at h;rw[Array.any_eq_true']at h;obtain⟨c,k,a⟩:=h;rw[R_]at a;refine j.reach _ _ a.2<|g c.on ?_;unfold dF;rw[Array.any_eq_true'];exact⟨c,k,by rw[a.1,Nat.beq_refl]; rfl⟩
theorem W.masks{id:Nat}(o:List Nat)(X po:List Qd)(y:Gh->Nat->Value)(S:(Nat->Bool)->Gh->World->Prop)(hm:P.follows .mixedOrders=true)(U:lH n ops=true)(hsel:Region.noSelect ops.toArray=true)(UN:MW ops o X po=true)
 (hes:o.all (fun e=>Nat.blt e ops.length&&(match (opAt ops e).guard with|none=>true|_=>false))=true) (hnd:o.Nodup) (r0:Gh)
 (h0 : ∀ D,Below w.heap.size w D->D.heap.size=w.heap.size->S (fun _=>false) r0 D)
 (J : ∀ i,i<ops.length->o.contains i=false -> ∀ r m w,(∀ x∈X.getD i [],m x.1=true)->(∀ x∈po.getD i [],m x.1=false)->S m r w->if Region.wanted (opAt ops i) (yf ops.toArray (full ops f (y r)))then Oper.quietUpon P (S m r) w (y r i) ((execOp (ev (full ops f (y r))) (opAt ops i)).run P w)else y r i=undef)
 (I : ∀ j i,o[j]? = some i -> ∀ r m w (a:Act) (K:Act->World->Prop),(∀ x∈X.getD i [],m x.1=true)->(∀ x∈po.getD i [],m x.1=false)->m j=false->S m r w->(∀ x∈(opAt ops i).op.operands,a.eval x=ev (full ops f (y r)) x)->(∀ p C,S (UM m j) (qF r j p) C->K (a.put (opAt ops i).dst (y (qF r j p) i)) C)->(opAt ops i).wp P a w K (lift n Q))
 (hd : ∀ i,i<ops.length -> ∀ j r p,(∀ x∈X.getD i [],x.1≠j)->o[j]? ≠ some i->j<o.length->y (qF r j p) i=y r i)
 (h : ∀ r m C,(∀ j,j<o.length->m j=true)->S m r C->Q .normal (full ops f (y r)) C):W P n (.region id ops.toArray true) Q f w:=fun a M=>by
 refine wp_region_any hm ?_;have Z : ∀ i,i<ops.length->G6 ops o true i (X.getD i [])=true/\G6 ops o false i (po.getD i [])=true:=fun i t=>by
  unfold MW at UN;rw[List.all_eq_true]at UN;have:=UN i (by simpa using t)
  rwa [R_]at this
 have hpr : ∀ i,i<ops.length -> ∀ x∈X.getD i [],∃ e,o[x.1]? = some e/\i≠e/\xH ops i x.2 e=true:=fun i t x G=>by
  have c:=(Z i t).1;unfold G6 at c;rw[List.all_eq_true]at c;have c:=c x G
  cases I:o[x.1]? with
  | none=>rw[I]at c; cases c
  | some e =>
    rw[I]at c;simp only[if_true,R_]at c;exact⟨e,rfl,fun q=>by subst q; rw[Nat.beq_refl]at c; exact L_ c.1 (by simp),c.2⟩
 have hpo : ∀ i,i<ops.length -> ∀ x∈po.getD i [],∃ e,o[x.1]? = some e/\xH ops e x.2 i=true:=fun i t x G=>by
  have c:=(Z i t).2;unfold G6 at c;rw[List.all_eq_true]at c;have c:=c x G
  cases I:o[x.1]? with
  | none=>rw[I]at c; cases c
  | some e =>
    rw[I]at c;simp only[R_]at c;exact⟨e,rfl,by simpa using c.2⟩
 have Q5 : ∀ k i,o[k]? = some i->i<ops.length/\(opAt ops i).guard=none:=fun k i hk=>by
  rw[List.all_eq_true]at hes;have:=hes i (List.mem_of_getElem? hk);rw[R_]at this;refine⟨by simpa [Nat.blt_eq] using this.1,?_⟩
  cases hg:(opAt ops i).guard with
  | none=>rfl
  | some _=>rw[hg]at this; exact L_ this.2 (by simp)
 have key : ∀(O:Nat) (b:Array Bool) (a:Act) (D:World) (r:Gh),b.size=ops.length->Jh ops.toArray .any b->Fr a n (over ops f (y r) b)->S (pK o b) r D ->
  (∀ N:List Nat,N=(List.range ops.length).filter (fun i => !b.getD i false)->N.length=O)->wpAny P .any ops.toArray (lift n Q) O b a D:=by
  intro O
  induction O with
  | zero =>
    intro b a D r V Da M R Y;have T : ∀ i,i<ops.length->b.getD i false=true:=fun i t=>by
     have c:=List.eq_nil_of_length_eq_zero (Y _ rfl)
     cases J:b.getD i false
     ·have:i∈(List.range ops.length).filter (fun i => !b.getD i false):=(by simp only[List.mem_filter,N_]; exact⟨t,by rw[J]; rfl⟩);rw[c]at this; cases this
     ·rfl
    have hnone:Region.ready .any ops.toArray b = []:=by
     cases J:Region.ready .any ops.toArray b with
     | nil=>rfl
     | cons i l =>
       have F:i∈Region.ready .any ops.toArray b:=(by rw[J]; exact List.mem_cons_self);obtain⟨c,E,_,_⟩:=fF F;rw[T i E]at c; cases c
    refine⟨hnone,full ops f (y r),?_,h r _ D (fun j A => ?_) R⟩
    ·have:over ops f (y r) b=full ops f (y r):=by
      funext s
      unfold over full
      cases Z:writer ops s with
      | none=>rfl
      | some i=>simp only; rw[d_ (T i (mU Z).2)]
     exact this ▸ M
    ·unfold pK;rw[o_ A];exact T _ (Q5 j _ (o_ A)).1
  | succ O ih =>
    intro b a D r V Da M R Y;have hcount : ∀ i,i∈Region.ready .any ops.toArray b -> ∀ N:List Nat,N=(List.range ops.length).filter (fun j => !(b.setIfInBounds i true).getD j false)->N.length=O:=by
     intro i F N Z9;obtain⟨c,E,_,_⟩:=fF F;subst Z9;have e:(List.range ops.length).filter (fun j => !(b.setIfInBounds i true).getD j false)=((List.range ops.length).filter (fun i => !b.getD i false)).erase i:=by
      rw[List.Nodup.erase_eq_filter (List.Nodup.sublist List.filter_sublist List.nodup_range),List.filter_filter];apply List.filter_congr;intro j A;by_cases e:i=j
      ·subst e; rw[set_self (by rw[V]; exact E)]; simp
      ·rw[jR e];have:(j != i)=true:=(by simp; exact fun q=>e q.symm);rw[this,Bool.true_and]
     rw[e,List.length_erase_of_mem (by simp only[List.mem_filter,N_]; exact⟨E,by rw[c]; rfl⟩),Y _ rfl];rfl
    refine⟨fun hnone => ?_,fun i F => ?_⟩
    ·exfalso;have hlen:=Y _ rfl;exact(by
      have : ∃ i,i∈Region.ready .any ops.toArray b:=by
       obtain⟨q,J⟩ : ∃ q,q∈(List.range ops.length).filter (fun i => !b.getD i false):=by
        cases hfe:(List.range ops.length).filter (fun i => !b.getD i false)with
        | nil=>rw[hfe]at hlen; cases hlen
        | cons q l=>exact⟨q,List.mem_cons_self⟩
       have LH : ∀ m q,q<=m->q<ops.length->b.getD q false=false -> ∃ i,i<ops.length/\b.getD i false=false /\ ∀ j,j<i->b.getD j false=true:=by
        intro m
        induction m with
        | zero=>intro q hm B hq2; exact⟨q,B,hq2,fun j A=>by omega⟩
        | succ m ihm =>
          intro q hm B hq2;by_cases T : ∀ j,j<q->b.getD j false=true
          ·exact⟨q,B,hq2,T⟩
          ·obtain⟨j,A⟩:=Classical.not_forall.1 T;obtain⟨hj1,hj2⟩:=Classical.not_imp.1 A;exact ihm j (by omega) (by omega) (by simpa using hj2)
       simp only[List.mem_filter,N_]at J;obtain⟨i,t,hi1,hi2⟩:=LH q q (z_ _) J.1 (by simpa using J.2);refine⟨i,mem_ready.2 ⟨getD_in (by rw[V]; exact t) hi1,opAt ops i,?_,fun e I hb=>hi2 e.on ((fu U t).2.2.2 e.on ?_)⟩⟩
       ·unfold opAt; rw[List.getElem?_toArray,r_,o_ t]; rfl
       ·unfold dF; rw[Array.any_eq_true']; exact⟨e,I,by rw[hb,Nat.beq_refl]; rfl⟩
      obtain⟨i,t⟩:=this;rw[hnone]at t; cases t)
    ·obtain⟨c,t,hop,T⟩:=fF F;have hsz':(b.setIfInBounds i true).size=ops.length:=(by simpa using V);have Jt:=Da.set F;have hev:=Np (f:=f) U (v:=y r) F;have hae : ∀ x∈(opAt ops i).op.operands,a.eval x=ev (full ops f (y r)) x:=fun x G=>by rw[M.ev]; exact hev x G
     have hex:execOp a.eval (opAt ops i)=execOp (ev (full ops f (y r))) (opAt ops i):=execOp_congr _ (Region.noSelect_spec hsel i _ · · hop) hae;have hwant:Region.wanted (opAt ops i) (yielded ops.toArray a.tmps)=Region.wanted (opAt ops i) (yf ops.toArray (full ops f (y r))):=(by rw[M.yf]; exact Co U F);have hpre : ∀ x∈X.getD i [],pK o b x.1=true:=fun x G=>by
      obtain⟨e,E,h3,H⟩:=hpr i t x G;unfold pK;rw[E]; exact Qe F Da h3 H
     have hpost : ∀ x∈po.getD i [],pK o b x.1=false:=fun x G=>by
      obtain⟨e,E,H⟩:=hpo i t x G;unfold pK;rw[E]
      cases hle:b.getD e false with
      | false=>exact hle
      | true =>
        obtain⟨mm,H⟩:=iX H;have:=Da.reach _ _ H hle;rw[c]at this; cases this
     unfold wpOp;simp only[hop];rw[hwant];by_cases hne:o.contains i=true
     ·have hmem:i∈o:=(by simpa using hne);obtain⟨j,A⟩:=List.getElem?_of_mem hmem;have hg:=(Q5 j i A).2;have hjl:j<o.length:=(List.getElem?_eq_some_iff.1 A).1;rw[d_ (by unfold Region.wanted; rw[hg])];refine .inl<|I j i A r _ D a _ hpre hpost (by unfold pK; rw[A]; exact c) R hae fun p C hS' => ?_;have hsame:over ops f (y r) b=over ops f (y (qF r j p)) b:=by
       funext s
       unfold over
       cases Z:writer ops s with
       | none=>rfl
       | some q =>
         simp only
         cases hlq:b.getD q false
         ·rfl
         ·simp only[if_true];have hqi:=(mU Z).2;refine(hd q hqi j r p (fun x G e => ?_) (fun e => ?_) hjl).symm
          ·obtain⟨L,E,h3,H⟩:=hpr q hqi x G;obtain⟨mm,H⟩:=iX H;have h5:=Da.reach _ _ H hlq;rw[e,A]at E;rw[<- B_ E,c]at h5; cases h5
          ·rw[A]at e;rw[<- B_ e,c]at hlq; cases hlq
      refine ih _ _ _ (qF r j p) hsz' Jt ?_ ?_ (hcount i F)
      ·have:=(hsame ▸ M).put (d:=(opAt ops i).dst) (by
        cases hd:(opAt ops i).dst with
        | none=>rfl
        | some d=>simp[inn,Nat.blt_eq,((fu U t).1 d hd).2]) (y (qF r j p) i)
       rwa [Ao U V t]at this
      ·have e:pK o (b.setIfInBounds i true)=UM (pK o b) j:=by
        funext q
        unfold UM
        cases hb:Nat.beq q j with
        | true =>
          have:=A_ hb;subst this;unfold pK;rw[A]; exact set_self (by rw[V]; exact t)
        | false =>
          have hqj:q≠j:=fun z=>by rw[z,Nat.beq_refl]at hb; cases hb
          unfold pK
          cases hqe:o[q]? with
          | none=>rfl
          | some L =>
            have:i≠L:=fun z=>by
             subst z;have h9:=List.getElem?_eq_some_iff.1 hqe;have h10:=List.getElem?_eq_some_iff.1 A;exact hqj ((List.getElem_inj hnd).1 (h9.2.trans h10.2.symm))
            exact jR this
       rw[e]; exact hS'
     ·have hne':o.contains i=false:=(by simpa using hne);have B:=J i t hne' r _ D hpre hpost R;have hfin : ∀ C,S (pK o b) r C->wpAny P .any ops.toArray (lift n Q) O (b.setIfInBounds i true) (a.put (opAt ops i).dst (y r i)) C:=fun C hS'=>by
       refine ih _ _ _ r hsz' Jt ?_ ?_ (hcount i F)
       ·have:=M.put (d:=(opAt ops i).dst) (by
         cases hd:(opAt ops i).dst with
         | none=>rfl
         | some d=>simp[inn,Nat.blt_eq,((fu U t).1 d hd).2]) (y r i)
        rwa [Ao U V t]at this
       ·have e:pK o (b.setIfInBounds i true)=pK o b:=by
         funext q
         unfold pK
         cases hqe:o[q]? with
         | none=>rfl
         | some L =>
           have:i≠L:=fun z=>by subst z; exact L_ (show o.contains i=true by simpa using List.mem_of_getElem? hqe) hne
           exact jR this
        rw[e]; exact hS'
      by_cases hwt:Region.wanted (opAt ops i) (yf ops.toArray (full ops f (y r)))=true
      ·rw[d_ hwt]at B ⊢;refine .inl ?_;unfold Oper.wp;rw[hex];generalize (execOp (ev (full ops f (y r))) (opAt ops i)).run P D=res at B
       cases res with
       | ok nx C =>
         cases nx <;> simp only[Oper.quietUpon]at B <;> simp only[Oper.upon]
         case value u=>obtain⟨e1,L⟩:=B; subst e1 L; exact hfin _ R
         case skip=>obtain⟨e1,L⟩:=B; subst e1; rw[<- L]; exact hfin _ R
         case enter g args =>
          obtain⟨e1,hc⟩:=B;subst e1;exact hc.mono fun e w'' ⟨he',hw''⟩=>by subst he'; exact hfin _ hw''
       | halt x C=>simp only[Oper.quietUpon]at B
      ·rw[b_ hwt]at B ⊢;rw[<- B];exact hfin _ R
 have hrep : ∀ i,(Array.replicate ops.toArray.size false).getD i false=false:=fun i=>by
  rw[Array.getD_eq_getD_getElem?];by_cases t:i<ops.length
  ·simp[t]
  ·simp[t]
 have hstart:over ops f (y r0) (Array.replicate ops.toArray.size false)=f:=by
  funext s
  unfold over
  cases writer ops s with
  | none=>rfl
  | some i=>simp only; rw[hrep]; simp
 have hdn:pK o (Array.replicate ops.toArray.size false)=fun _=>false:=by
  funext j
  unfold pK
  cases o[j]? with
  | none=>rfl
  | some e=>exact hrep e
 have:=key ops.toArray.size (Array.replicate ops.toArray.size false) a { w with drawn:=w.drawn+1 } r0 (by simp) (Jh.start _ _ _) (by rw[hstart]; exact M) (by rw[hdn]; exact h0 _ (Below.refl _ _).drew rfl) (fun N Y=>by
  subst Y;rw[List.filter_eq_self.2 (fun i _=>by rw[hrep]; rfl)];simp)
 simpa using this
theorem dZ{r:Gh}{k j:Nat}{p:Nat × Nat}(h:j≠k):qF r k p j=r j:=by
 unfold qF;have:Nat.beq j k=false:=by
  cases hq:Nat.beq j k
  ·rfl
  ·exact L_ (A_ hq) h
 rw[this]; rfl
theorem KI{o:Oper}{ρ:Operand->Value}{T:TypeId}{m:Nat}{z:Nat->Value}(d:o.op = .alloc T)(e:((P.info? T).bind (·.zero)).map (·.cells)=some (aC m z))(a:World) : ∃ b,(execOp ρ o).run P a = .ok (.value (.pointer (some ⟨a.heap.size,0,none⟩))) b/\aS b a.heap.size m z T/\Stp a.heap.size a b:=by
 obtain⟨i,f,g⟩:=Option.map_eq_some_iff.1 e;obtain⟨j,c,h⟩:=Option.bind_eq_some_iff.1 f;refine⟨a.alloc (.cells i.cells T),?_,?_,Stp.alloc _ _⟩
 ·unfold execOp;simp[d,Instr.alloc,zeroValue,typeInfo,c,h,newVar,newRow]
 show(a.alloc _).heap[a.heap.size]? = _;rw[alloc_at,d_ rfl,g]
theorem KJ{o:Oper}{ρ:Operand->Value}{T T':TypeId}{a v:Operand}{m g:Nat}{x y:Nat->Value}{u:Value}(A:o.op = .store T' a v)(l:(P.info? T').map (·.size)=some m)(n:ρ a = .pointer (some ⟨g,0,none⟩))(p:ρ v=u)(D:u.cells=aC m y)(h1 : ∀ j,j<m->(y j).oneCell'=true){b:World}(t:aS b g m x T) : ∃ d,(execOp ρ o).run P b = .ok .skip d/\aS d g m y T/\Stp g b d:=by
 have h:b.heap[g]? = some (.cells (aC m x) T (0,0)):=t;have s:(aC m y).all (·.oneCell')=true:=by
  rw[Array.all_eq_true_iff_forall_mem];intro q B;obtain⟨j,i,z⟩:=Array.getElem_of_mem B;have k:j<m:=by simpa [bX] using i
  have e:=fK y k;rw[Array.getElem?_eq_getElem i,z]at e;rw[B_ e]; exact h1 j k
 have C:(storeVar T' ⟨g,0,none⟩ u).run P b = .ok () (b.setRow g (aC m y)):=by
  have f:=run_storeCells_at (P:=P) g 0 T (aC m y).toList 0 (aC m x) b h (by simp[bX]) (fun q c=>(Array.all_eq_true_iff_forall_mem.1 s) q (by simpa using c));have r:((aC m x).toList.take (0+0)++(aC m y).toList++(aC m x).toList.drop (0+0+(aC m y).toList.length)).toArray=aC m y:=by
   rw[List.drop_eq_nil_of_le (by simp[bX])]; simp
  rw[r]at f
  cases c:P.info? T' with
  | none=>simp[c]at l
  | some ti =>
    have E:ti.size=m:=(by simp[c]at l; omega);simp only[storeVar,sizeOf,typeInfo,Sem.run_bind,run_program,c,D,bX,E,ne_eq,not_true_eq_false,if_false,Result.andThen_ok,Sem.run_pure,f]
 obtain⟨F,G,H⟩:=zD (w:=b) (cs:=aC m y) h;refine⟨_,?_,G,F⟩;unfold execOp;simp only[A,n,p,Instr.storeAt,Instr.sureAddr,Sem.run_bind,Sem.run_pure,Result.andThen_ok,C]
def BR(c d:Nat)(vs:Array Value)(a b:Nat):Nat->Value:=fun i=>bif Nat.beq i c then .pointer (some ⟨a,0,none⟩)else bif Nat.beq i d then .pointer (some ⟨b,0,none⟩)else vs.getD i undef
def IZ(ops:List Oper)(f:Nat->Value)(c d:Nat)(vs:Array Value)(a b:Nat):Nat->Value:=full ops f (BR c d vs a b)
structure XZ(w:World)(m1 m2:Nat)(z1 y1 z2 y2:Nat->Value)(T1 T2:TypeId)(m:Nat->Bool)(r:Gh)(v:World):Prop where
 b:Below w.heap.size w v
 a:m 0=true->w.heap.size<=(r 0).1/\aS v (r 0).1 m1 (if m 2=true then y1 else z1) T1
 c:m 1=true->w.heap.size<=(r 1).1/\aS v (r 1).1 m2 (if m 3=true then y2 else z2) T2
 ne:m 0=true->m 1=true->(r 0).1≠(r 1).1
theorem XZ.up{m1 m2:Nat}{z1 y1 z2 y2:Nat->Value}{T1 T2:TypeId}{m:Nat->Bool}{r:Gh}{v e:World}(h:XZ w m1 m2 z1 y1 z2 y2 T1 T2 m r v)(d:Below v.heap.size v e):XZ w m1 m2 z1 y1 z2 y2 T1 T2 m r e :=
 ⟨Jg h.b d,fun q=>⟨(h.a q).1,(h.a q).2.cZ (Sb d) (t_ (h.a q).2.lt)⟩,fun q=>⟨(h.c q).1,(h.c q).2.cZ (Sb d) (t_ (h.c q).2.lt)⟩,h.ne⟩
def MX(P:Program)(a:Nat->Value)(ops:Array Oper)(w:World)(b:List Nat)(vs:Array Value):List Oper->Nat->Prop
 | [],_=>True
 | o::l,i=>(b.contains i=true\/(if Region.wanted o (yf ops a)then QB P (ev a) o w (vs.getD i undef)else vs.getD i undef=undef))/\MX P a ops w b vs l (i+1)
theorem G7{a:Nat->Value}{c:Array Oper}{b:List Nat}{vs:Array Value} : ∀ {l:List Oper} {k:Nat},MX P a c w b vs l k -> ∀ i,i<l.length->(b.contains (k+i)=true\/(if Region.wanted (opAt l i) (yf c a)then QB P (ev a) (opAt l i) w (vs.getD (k+i) undef)else vs.getD (k+i) undef=undef))
 | [],_,_,i,hi=>L_ hi (by simp)
 | o::l,k,h,0,_=>h.1
 | o::l,k,h,i+1,hi=>by
   have:=G7 h.2 i (by simpa using hi)
   rwa [show k+1+i=k+(i+1) by omega]at this
theorem Fj{i j:Nat}(h:i≠j):Nat.beq i j=false:=by
 cases hq:Nat.beq i j
 ·rfl
 exact L_ (A_ hq) h
def BS(l:Qd)(j:Nat):Bool:=l.any fun x=>Nat.beq x.1 j
theorem wH{l:Qd}{j:Nat}(h:BS l j=true) : ∃ x∈l,x.1=j:=by
 unfold BS at h;rw[List.any_eq_true]at h;obtain⟨x,a,b⟩:=h;exact⟨x,a,A_ b⟩
theorem I4{id:Nat}{T1 T2 T1' T2':TypeId}{a1 v1 a2 v2:Operand}{m1 m2:Nat}{z1 y1 z2 y2:Nat->Value}{u1 u2:Value}(k l y z:Nat)(O N:List Qd)(vs:Array Value)(hm:P.follows .mixedOrders=true)(hok:lH n ops=true)(hsel:Region.noSelect ops.toArray=true)(UN:MW ops [k,l,y,z] O N=true)
 (hes : [k,l,y,z].all (fun e=>Nat.blt e ops.length&&(match (opAt ops e).guard with|none=>true|_=>false))=true) (hnd:decide [k,l,y,z].Nodup=true)
 (hw1:BS (O.getD y []) 0=true) (hw2:BS (O.getD z []) 1=true) (hw3:BS (N.getD k []) 2=true) (hw4:BS (N.getD l []) 3=true)
 (o1:(opAt ops k).op = .alloc T1) (o2:(opAt ops l).op = .alloc T2) (n1:((P.info? T1).bind (·.zero)).map (·.cells)=some (aC m1 z1)) (n2:((P.info? T2).bind (·.zero)).map (·.cells)=some (aC m2 z2))
 (V:(opAt ops y).op = .store T1' a1 v1) (X:(opAt ops z).op = .store T2' a2 v2) (Y:(opAt ops y).dst=none) (Z:(opAt ops z).dst=none) (e1:(P.info? T1').map (·.size)=some m1) (e2:(P.info? T2').map (·.size)=some m2)
 (ha1 : ∀ o s,ev (IZ ops f k l vs o s) a1 = .pointer (some ⟨o,0,none⟩)) (ha2 : ∀ o s,ev (IZ ops f k l vs o s) a2 = .pointer (some ⟨s,0,none⟩)) (hv1 : ∀ o s,ev (IZ ops f k l vs o s) v1=u1) (hv2 : ∀ o s,ev (IZ ops f k l vs o s) v2=u2)
 (hu1:u1.cells=aC m1 y1) (hu2:u2.cells=aC m2 y2) (h11 : ∀ j,j<m1->(y1 j).oneCell'=true) (h12 : ∀ j,j<m2->(y2 j).oneCell'=true)
 (hq : ∀ o s,MX P (IZ ops f k l vs o s) ops.toArray w [k,l,y,z] vs ops 0)
 (h : ∀ o s F f',f'=IZ ops f k l vs o s->w.heap.size<=o->w.heap.size<=s->o≠s->aS F o m1 y1 T1->aS F s m2 y2 T2->Below w.heap.size w F->Q .normal f' F):W P n (.region id ops.toArray true) Q f w:=by
 have hn:=h_ hnd;simp only[List.nodup_cons,List.mem_cons,List.not_mem_nil,or_false,not_or]at hn;obtain⟨⟨x12,x1s,x1t⟩,⟨x2s,x2t⟩,xst,_⟩:=hn;refine W.masks [k,l,y,z] O N (fun r=>BR k l vs (r 0).1 (r 1).1) (XZ w m1 m2 z1 y1 z2 y2 T1 T2) hm hok hsel UN hes (h_ hnd) (fun _=>(0,0)) (fun w1 A _=>⟨A,fun h=>(nomatch h),fun h=>(nomatch h),fun h=>(nomatch h)⟩) ?_ ?_ ?_ ?_
 ·intro i hi U r m v _ _ d
  rcases G7 (hq (r 0).1 (r 1).1) i hi with h2|h2
  ·rw[E_]at h2; rw[h2]at U; cases U
  rw[E_]at h2;have hni':i≠k/\i≠l/\i≠y/\i≠z:=by simpa using U
  have I:BR k l vs (r 0).1 (r 1).1 i=vs.getD i undef:=by unfold BR; rw[Fj hni'.1,Fj hni'.2.1]; rfl
  show if Region.wanted (opAt ops i) (yf ops.toArray (IZ ops f k l vs (r 0).1 (r 1).1))then Oper.quietUpon P _ v (BR k l vs (r 0).1 (r 1).1 i) ((execOp (ev (IZ ops f k l vs (r 0).1 (r 1).1)) (opAt ops i)).run P v)else BR k l vs (r 0).1 (r 1).1 i=undef;rw[I];by_cases hw:Region.wanted (opAt ops i) (yf ops.toArray (IZ ops f k l vs (r 0).1 (r 1).1))=true
  ·rw[d_ hw]at h2 ⊢
   rcases h2 v d.b with h3|⟨g,args,h3,h4⟩
   ·rw[h3]; exact⟨rfl,rfl⟩
   rw[h3]; exact⟨rfl,h4.mono fun e w2 ⟨he,hb2⟩=>⟨he,d.up hb2⟩⟩
  rw[b_ hw]at h2 ⊢; exact h2
 ·intro j i t r m v a K hpr hpo hmj d B L
  match j,t with
  | 0,t =>
    obtain rfl:k=i:=(by simpa using t);obtain⟨v2,E,A,u⟩:=KI (ρ:=a.eval) o1 n1 v;unfold Oper.wp;rw[E];obtain⟨x,C,D⟩:=wH hw3;have hm2:m 2=false:=(by rw[<- D]; exact hpo x C);have:=L (v.heap.size,0) v2 ⟨Jg d.b u.old,fun _=>by
     rw[oq];exact⟨d.b.size,by show aS v2 v.heap.size m1 (if m 2=true then y1 else z1) T1; rw[hm2]; exact A⟩,fun q=>by
     have q:m 1=true:=q;rw[dZ (by decide)];exact⟨(d.c q).1,(d.c q).2.cZ u (t_ (d.c q).2.lt)⟩,fun _ q=>by
     have q:m 1=true:=q;rw[oq,dZ (by decide)];exact Nat.ne_of_gt (d.c q).2.lt⟩
    have I:BR k l vs (qF r 0 (v.heap.size,0) 0).1 (qF r 0 (v.heap.size,0) 1).1 k = .pointer (some ⟨v.heap.size,0,none⟩):=(by unfold BR; rw[Nat.beq_refl,oq]; rfl);rw[I]at this;exact this
  | 1,t =>
    obtain rfl:l=i:=(by simpa using t);obtain⟨v2,E,A,u⟩:=KI (ρ:=a.eval) o2 n2 v;unfold Oper.wp;rw[E];obtain⟨x,C,D⟩:=wH hw4;have hm3:m 3=false:=(by rw[<- D]; exact hpo x C);have:=L (v.heap.size,0) v2 ⟨Jg d.b u.old,fun q=>by
     have q:m 0=true:=q;rw[dZ (by decide)];exact⟨(d.a q).1,(d.a q).2.cZ u (t_ (d.a q).2.lt)⟩,fun _=>by
     rw[oq];exact⟨d.b.size,by show aS v2 v.heap.size m2 (if m 3=true then y2 else z2) T2; rw[hm3]; exact A⟩,fun q _=>by
     have q:m 0=true:=q;rw[oq,dZ (by decide)];exact t_ (d.a q).2.lt⟩
    have I:BR k l vs (qF r 1 (v.heap.size,0) 0).1 (qF r 1 (v.heap.size,0) 1).1 l = .pointer (some ⟨v.heap.size,0,none⟩):=(by unfold BR; rw[Fj (fun e=>x12 e.symm),Nat.beq_refl,oq]; rfl);rw[I]at this;exact this
  | 2,t =>
    obtain rfl:y=i:=(by simpa using t);obtain⟨x,C,D⟩:=wH hw1;have G:m 0=true:=(by rw[<- D]; exact hpr x C);have R:a.eval a1 = .pointer (some ⟨(r 0).1,0,none⟩):=(B a1 (by rw[V]; simp[Op.operands])).trans (ha1 (r 0).1 (r 1).1);have S:a.eval v1=u1:=(B v1 (by rw[V]; simp[Op.operands])).trans (hv1 (r 0).1 (r 1).1);obtain⟨J,E,A,u⟩:=KJ V e1 R S hu1 h11 (d.a G).2;unfold Oper.wp;rw[E];show K (a.put (opAt ops y).dst undef) _;rw[Y];have:=L (0,0) J ⟨u.below d.b d.b.size (d.a G).1,fun _=>by
     rw[dZ (by decide)];exact⟨(d.a G).1,by show aS J (r 0).1 m1 (if UM m 2 2=true then y1 else z1) T1; exact A⟩,fun q=>by
     have q:m 1=true:=q;rw[dZ (by decide)];exact⟨(d.c q).1,(d.c q).2.cZ u (fun e=>d.ne G q e.symm)⟩,fun _ q=>by
     have q:m 1=true:=q;rw[dZ (by decide),dZ (by decide)];exact d.ne G q⟩
    rw[Y]at this;exact this
  | 3,t =>
    obtain rfl:z=i:=(by simpa using t);obtain⟨x,C,D⟩:=wH hw2;have H:m 1=true:=(by rw[<- D]; exact hpr x C);have R:a.eval a2 = .pointer (some ⟨(r 1).1,0,none⟩):=(B a2 (by rw[X]; simp[Op.operands])).trans (ha2 (r 0).1 (r 1).1);have S:a.eval v2=u2:=(B v2 (by rw[X]; simp[Op.operands])).trans (hv2 (r 0).1 (r 1).1);obtain⟨J,E,A,u⟩:=KJ X e2 R S hu2 h12 (d.c H).2;unfold Oper.wp;rw[E];show K (a.put (opAt ops z).dst undef) _;rw[Z];have:=L (0,0) J ⟨u.below d.b d.b.size (d.c H).1,fun q=>by
     have q:m 0=true:=q;rw[dZ (by decide)];exact⟨(d.a q).1,(d.a q).2.cZ u (d.ne q H)⟩,fun _=>by
     rw[dZ (by decide)];exact⟨(d.c H).1,by show aS J (r 1).1 m2 (if UM m 3 3=true then y2 else z2) T2; exact A⟩,fun q _=>by
     have q:m 0=true:=q;rw[dZ (by decide),dZ (by decide)];exact d.ne q H⟩
    rw[Z]at this;exact this
  | j+4,t=>simp at t
 ·intro i hi j r p C hne hjl;have t:j=0\/j=1\/j=2\/j=3:=by simp at hjl; omega
  show BR k l vs (qF r j p 0).1 (qF r j p 1).1 i=BR k l vs (r 0).1 (r 1).1 i;unfold BR
  rcases t with rfl|rfl|rfl|rfl
  ·have:i≠k:=fun e=>hne (by rw[e]; rfl);rw[Fj this]; simp only[cond_false]; rw[dZ (by decide)]
  ·have:i≠l:=fun e=>hne (by rw[e]; rfl);rw[Fj this]; simp only[cond_false]; rw[dZ (by decide)]
  ·rw[dZ (by decide),dZ (by decide)]
  rw[dZ (by decide),dZ (by decide)]
 intro r m F M d;have m0:=M 0 (by simp); have m1':=M 1 (by simp); have m2':=M 2 (by simp); have m3:=M 3 (by simp);have B:=d.a m0; have T:=d.c m1';rw[m2']at B; rw[m3]at T;exact h (r 0).1 (r 1).1 F _ rfl B.1 T.1 (d.ne m0 m1') B.2 T.2 d.b
end
end Fx
end Go.Proofs.YtahbiajdgealnaaGreatDoor
namespace Go.Proofs.YtahbiajdgealnaaGreatDoor
open Go.RowKit Rt
open Fx (fD eP fJ bD gP gM dD dS gD jB eX jC fU jD je Lv sN Ln Ws Qv Wl Rp Wc Qs Wr Sb Lk Wk rC rV sR Rs Rn Rd Rk Wb Wx Wo Dy Wt qW I4 Qn FM Bc yN zh C9 Dw qo gY zi ng uq uo vO wZ zf Dk Ap rv aC aS bI aM ev cK Stp dH aW flat dA Mp fq aY gX iU bF down iN jO iW ou bK bJ cells_one iP bV xk unseen jK iB bY dM bM bQ cu cB gJ gT qb gQ)
set_option maxRecDepth 20000
namespace Rt
def mZ(v:EvM):Int:=1099511627776*v.o+v.seq
def iT(m:dP)(v:EvM):Int:=if 5<=m.own (aP v)\/140737488355328<v.aU then 6 else m.T.err (mZ v) v.node
def CQ(m:dP)(v:EvM):dP := { m with T:=m.T.put (mZ v) v.node,R:=aM m.R m.T.n (upd (fun _=>0) (aP v) v.aU),own:=aJ m.own (aP v) (m.own (aP v)+1) }
theorem UO{T:dK}{pa:Int}{id:Int}{w:World}{b n:Nat}{x:Nat->Int}(h:Mp w b n x (aM (Dq T) T.n (aF pa))):Mp w b n x (Dq (T.put id pa)):=h.uD fun i _=>⟨rfl,by show aM (Dq T) T.n _ i=aF (aM T.p T.n pa i); unfold aM Dq; split <;> rfl⟩
theorem X0{R:Nat->Nat->Int}{j n b:Nat}{r:Nat->Int}{x:Nat->Int}{w:World}(h:Mp w b n x (aM (wG R) j (.agg (aC 54 (rv .i64 r))))):Mp w b n x (wG (aM R j r)):=D6 _ _ _ _ h
end Rt
theorem agw(o q:Int)(w:World)(b:1<=o/\o<=6)(c:1<=q/\q<1099511627776):Calls Tryz.prog 169 #[au o,aF q] w fun e a=>e = .returned (aF (1099511627776*o+q))/\a=w:=by
 have h:=amQ o.toNat q.toNat w (by omega) (by omega);rw[show((o.toNat:Nat):Int)=o by omega,show((q.toNat:Nat):Int)=q by omega]at h;exact h
theorem UQ(m:dP)(b B:Nat)(w:World)(h:lD w B b m)(v:EvM)(hv:bO v=true)(J:m.T.err (mZ v) v.node=0)(a:Nat)(ha:a<6)(hra:aP v=a)(hob:0<=m.own a/\m.own a<=1000)(hid:0<=mZ v/\mZ v<=18446744073709551615)(I:Nat)(G:Nat)(l:Nat)(H:Nat)(S:aS w I 1 (fun _=>(pt b)) 37)(hi:aS w G 1 (fun _=>aF (mZ v)) 28)(P:aS w l 14 (bS v) 32)(Q:aS w H 1 (fun _=>au (a:Int)) 3) :
 Calls Tryz.prog 171 #[(pt I),(pt G),(pt l),(pt H)] w fun e w'=>e = .returned (.tuple #[])/\lD w' B b (CQ m v)/\jO (Fa m b) w w':=by
 have hC:=h.c;have hT:=h.t;have hP:=h.p;have hR:=h.r;have hG:=h.g;have hA:=h.a;have d:=h.ne;have lC:=h.c.lt;have lT:=h.t.lt;have lP:=h.p.lt;have lR:=h.r.lt;have lG:=h.g.lt;have lA:=h.a.lt;have Zc:=S.lt;have lgi:=hi.lt;have ZA:=P.lt;have lgk:=Q.lt;have U : ∀ i,i<m.T.n->m.T.x i≠mZ v:=fun i hi e=>by have:=(Ep J).2.1; rw[jF hi e]at this; cases this
 refine Kent Tryz.func171 42 ?_;refine Ws ?_;refine jS [5,0,1,2,3,4,6,7] [4,0,0,4,4,0,4,3] [(7,0,[3,2,1,0]),(7,3,[3]),(7,4,[4]),(7,6,[6])] fun qI K iF => ?_;have s1:Stp w.heap.size w qI:=Sb K;have⟨W,m2,m3,m4,m5,m6,m7,m8,m9,m10⟩:=uz K hC hT hP hR hG hA S hi P Q;have b1:=(uo (Fa m b) w).then s1 (.inr (uo (Fa m b) w).size);refine bf (pf l 9)<|Rs (pt b) (aN m7.aI 0) ?_;refine bf (pt b)<|bf (pf b 18)<|Rs (pt m.tp) (aN W.aI 18) ?_;refine Rs (aF (mZ v)) (aN m8.aI 0) ?_;refine Rs (aF v.node) (aN m9.aI 9) ?_;refine gF<|eB (JY (mZ v) v.node m2 hid) _ rfl ?_;rintro y ⟨m11,s2⟩;have j:=m2.Bd s2;have m12:=W.dQ j;have m13:=m3.dQ j (Ne.symm d.mp);have m14:=m4.dQ j (Ne.symm d.mr);have m15:=m5.dQ j (Ne.symm d.mg);have m16:=m6.dQ j (Ne.symm d.ma);have m17:=m7.dQ j;have m18:=m8.dQ j;have m19:=m9.dQ j;have m20:=m10.dQ j;have C:=b1.then s2 (.inl (.inr (.inl rfl)));have m21:rD y B m.tp m.mb (m.T.put (mZ v) v.node):=by rw[<- dK.D7 J]; exact m11
 refine Ln<|bR<|Ws ?_;refine jS [5,0,1,2,3,4,6,7] [4,0,0,4,4,0,4,3] [(7,0,[0]),(7,3,[3]),(7,4,[4]),(7,6,[6])] fun Cu M nH => ?_;have s3:Stp y.heap.size y Cu:=Sb M;have⟨m22,m23,m24,ni,nZ,oz,og,oC,pE,mE⟩:=uz M m12 m13 m14 m15 m16 m17 m18 m19 m20 m21;have b3:=C.then s3 (.inr C.size);refine bf (pf l 9)<|Rs (pt b) (aN oz.aI 0) ?_;refine bf (pt b)<|bf (pf b 19)<|Rs (.map (some m.pb)) (aN m22.aI 19) ?_;refine Rs (aF (mZ v)) (aN og.aI 0) ?_;refine Rs (aF v.node) (aN oC.aI 9) ?_;refine gF<|Fx.L.O6 (by rfl) rfl rfl rfl rfl rfl m23 Tryz.underlying100 Tryz.underlying28 U fun z m32 s4 z1 => ?_;have k:=m23.Bd s4;have qh:=m22.dQ k;have oN:=m24.dQ k (Ne.symm d.pr);have pW:=ni.dQ k (Ne.symm d.pg);have qx:=nZ.dQ k (Ne.symm d.pa);have rW:=oz.dQ k;have qy:=og.dQ k;have pF:=oC.dQ k;have sj:=pE.dQ k;have nk:=mE.dQ k (d.mp);have D:=b3.then s4 (.inl (.inr (.inr (.inl rfl))));have mV:Mp z m.pb ((m.T.put (mZ v) v.node).n) ((m.T.put (mZ v) v.node).x) (Dq (m.T.put (mZ v) v.node)):=UO m32;refine Ln<|bR<|Ws ?_;refine jS [0,2,3,7,8,1,4,5,6,9,10] [4,4,0,0,0,4,0,0,0,0,3] [(10,0,[0]),(10,1,[1]),(10,5,[5])] fun QE N Av => ?_;have s5:Stp z.heap.size z QE:=Sb N;have⟨s,rX,qK,nU,ru,xq,su,sS,vw,uH⟩:=uz N qh oN pW qx rW qy pF sj nk mV;have b5:=D.then s5 (.inr D.size);refine Rs (pt b) (aN ru.aI 0) ?_;refine bf (pt b)<|bf (pf b 21)<|bf (pt b)<|bf (pf b 21)<|Rs (au a) (aN sS.aI 0) ?_;refine Rp (pf b (a+21)) (fun _=>jE 6 1)<|Rs (au (m.own a)) (aN s.aI (a+21) (IV (p:=a) (by omega) (by omega))) ?_;refine Rp (au ((m.own a)+1)) (fun _=>eY)<|Rp (pf b (a+21)) (fun _=>jE 6 1)<|gF<|jm s (a+21) (au ((m.own a)+1)) fun w3 uh s6 z2 => ?_;have uI:aS w3 b 29 (vg { m with own:=aJ m.own a (m.own a+1) }) 106:=uh.to (XL ha (by omega) _);have gK:=gY s6 s.ty;have⟨wR,tL,rY,rz,wS,pG,uJ,nS,sw⟩:=aaq gK rX qK nU ru xq su sS vw uH;have q:=b5.then s6 (.inl (.inl rfl));refine Ln<|bR<|ay<|av (.agg (aC 54 (rv .i64 (fun _=>0))))<|xg 54 (rv .i64 (fun _=>0)) fun o w4 F u s7 z3 => ?_;have⟨vV,vE,vW,vX,qz,sD,sU,sF,sV,xu⟩:=uz s7.old wR tL rY rz wS pG uJ nS sw uI;have b7:=q.then s7 (.inr q.size);have V:=jI F q.size;have⟨ane,anf,ang,anh,ani,anj,ank,anl,anm⟩:=WA F wR.lt tL.lt rY.lt rz.lt wS.lt pG.lt uJ.lt sw.lt uI.lt;have wO:=u.lt;refine fH u 0 fun w5 uK s8 z4 => ?_;have wT:aS w5 o 54 (rv .i64 (fun _=>0)) 59:=aW uK;have jV:=gY s8 u.ty;have⟨wU,xw,wV,vY,uL,wW,yR,xA,zu,zL⟩:=Nw jV vV vE vW vX qz sD sU sF sV xu;have b8:=b7.then s8 (.inr V);refine aD<|ay<|Lv (au a) (aN yR.aI 0)<|av (pf l 11)<|Lv (au v.aU) (aN wW.aI 11)<|av (pt o)<|Lv (pf o a) (jE 6 1)<|jm wT a (au v.aU) fun A zw s9 z5 => ?_;have yS:aS A o 54 (rv .i64 (upd (fun _=>0) a v.aU)) 59:=zw.to (Fx.yj _ _ _ _);have tK:=gY s9 wT.ty;have⟨yT,zM,Dm,Bz,AA,Bh,yU,DR,CB,DT⟩:=Nw tK wU xw wV vY uL wW yR xA zu zL;have E:=b8.then s9 (.inr V);refine aD ?_;refine jS [0,1,2,3,4,5,6] [4,0,0,4,4,4,3] [(6,0,[0]),(6,3,[3]),(6,4,[4]),(6,5,[5])] fun wt4 O Gs => ?_;have s10:Stp A.heap.size A wt4:=Sb O;have⟨EB,tN,wB,X,Y,nV,nN,oH,nW,Z,aa⟩:=Ej O yT zM Dm Bz AA Bh yU DR CB DT yS;have b10:=E.then s10 (.inr E.size);refine Rs (pt b) (aN X.aI 0) ?_;refine bf (pt b)<|bf (pf b 20)<|Rs (.map (some m.rb)) (aN Z.aI 20) ?_;refine Rs (aF (mZ v)) (aN Y.aI 0) ?_;refine Rs (.agg (aC 54 (rv .i64 (upd (fun _=>0) a v.aU)))) (gI aa.aI 0) ?_;refine gF<|Fx.L.O6 (by rfl) rfl rfl rfl rfl rfl EB Tryz.underlying101 Tryz.underlying28 U fun w7 uT s11 z6 => ?_;have f:=EB.Bd s11;have qM:=tN.dQ f (Ne.symm d.rg);have tQ:=wB.dQ f (Ne.symm d.ra);have yV:=X.dQ f;have uU:=Y.dQ f;have yX:=nV.dQ f;have BA:=nN.dQ f;have xC:=oH.dQ f (d.mr);have tT:=nW.dQ f (d.pr);have ql:=Z.dQ f;have xR:=aa.dQ f;have b11:=b10.then s11 (.inl (.inr (.inr (.inr (.inl rfl)))));have xS:Mp w7 m.rb ((m.T.put (mZ v) v.node).n) ((m.T.put (mZ v) v.node).x) (wG (aM m.R m.T.n (upd (fun _=>0) a v.aU))):=X0 uT;refine Ln (Rn (⟨.tuple #[],iN Tryz.results171,?_⟩));unfold CQ; rw[hra];exact⟨rfl,{ c:=ql,t:=xC,p:=tT,r:=xS,g:=qM,a:=tQ,ne:=⟨d.mp,d.mr,d.mg,d.ma,d.pr,d.pg,d.pa,d.rg,d.ra,d.ga⟩,lB:=h.lB,pB:=h.pB,rB:=h.rB,gB:=h.gB,aB:=h.aB },b11⟩
theorem X3(m:dP)(j B:Nat)(w:World)(h:lD w B j m)(v:EvM)(L:bO v=true)(ab : ∀ a,a<6->0<=m.own a/\m.own a<=1000) :
 Calls Tryz.prog 162 #[(pt j),.agg (aC 14 (bS v))] w fun e w'=>QI w B j m (CQ m v) (iT m v) e w':=by
 have Z:=h.c;have hT:=h.t;have hP:=h.p;have hR:=h.r;have hG:=h.g;have hA:=h.a;have hN:=h.ne;have lC:=h.c.lt;have lT:=h.t.lt;have lP:=h.p.lt;have lR:=h.r.lt;have lG:=h.g.lt;have lA:=h.a.lt;obtain⟨a,J,ho⟩ : ∃ a:Nat,a<6/\v.o=(a:Int)+1:=fA (iL L);have A:aP v=a:=by unfold aP; omega
 have hbd:=nP L;have aa:0<=mZ v/\mZ v<=18446744073709551615:=by unfold mZ; omega
 have hoa:=ab a J;refine Kent Tryz.func162 38 ?_;refine ay<|zH (pt j) fun n w1 X M s1 z1 => ?_;have⟨m2,U⟩:=fC s1.old Z (Below.refl w.heap.size w);have uG:=iE X;have nI:=cO X Z.lt;have wO:=M.lt;refine rU fun b w2 Y l s2 z2 => ?_;have⟨P,Q,H⟩:=ku s2.old m2 M U;have sG:=jI Y U.size;have⟨agb,Zv⟩:=xM Y m2.lt M.lt;have Bg:=l.lt;refine av (.nilFunc)<|av (au 0)<|aD<|Ws ?_;refine I4 (T1:=28) (T2:=3) (T1':=28) (T2':=3) (a1 := .tmp 6) (v1 := .tmp 13) (a2 := .tmp 7) (v2 := .tmp 16) (m1:=1) (m2:=1) (z1:=rv .u64 (fun _=>0)) (y1:=fun _=>aF (mZ v)) (z2:=rv .i64 (fun _=>0)) (y2:=fun _=>au (a:Int)) (u1:=aF (mZ v)) (u2:=au (a:Int)) 8 9 10 11 [[],[],[],[],[],[],[],[],[],[],[(0,[8]),(1,[9])],[(0,[8]),(1,[9]),(2,[10])]] [[(2,[0]),(3,[0])],[(2,[1]),(3,[1])],[(2,[2]),(3,[2])],[(2,[3]),(3,[3])],[(2,[4]),(3,[4])],[(3,[5])],[(3,[6])],[(3,[7])],[(2,[8]),(3,[8])],[(2,[9]),(3,[9])],[(3,[10])],[]] #[(pt b),au v.o,(pf b 1),aF v.seq,aF (mZ v),(pt b),au v.o,au (a:Int),undef,undef,undef,undef] (by kernel_rfl) (by kernel_rfl) (by kernel_rfl) (by kernel_rfl) (by kernel_rfl) (by kernel_rfl) (by kernel_rfl) (by kernel_rfl) (by kernel_rfl) (by kernel_rfl) rfl rfl (by kernel_rfl) (by kernel_rfl) rfl rfl rfl rfl (by kernel_rfl) (by kernel_rfl) (fun d f=>(show ev _ (.tmp 6)=(pt d)from by kernel_rfl)) (fun d f=>(show ev _ (.tmp 7)=(pt f)from by kernel_rfl)) (fun d f=>(show ev _ (.tmp 13)=aF (mZ v)from by kernel_rfl)) (fun d f=>(show ev _ (.tmp 16)=au (a:Int)from by kernel_rfl)) (cells_one (by rfl)) (cells_one (by rfl)) (fun _ _=>rfl) (fun _ _=>rfl) (fun d f => ?_) ?_
 ·refine⟨?_,?_,?_,?_,?_,?_,?_,?_,?_,?_,?_,?_,trivial⟩
  ·exact .inr pV
  ·exact .inr (rZ (au v.o) fun E q=>bD (x:=bS v) rfl (show ev _ (.tmp 9)=(pt b)from by kernel_rfl) (by kernel_rfl) (l.aI.below q (by have:=l.lt; omega)) (i:=0) (by omega) (by omega) rfl)
  ·exact .inr pV
  ·exact .inr (rZ (aF v.seq) fun E q=>bD (x:=bS v) rfl (show ev _ (.tmp 11)=(pf b 1)from by kernel_rfl) (by kernel_rfl) (l.aI.below q (by have:=l.lt; omega)) (i:=1) (by omega) (by omega) rfl)
  ·exact .inr (Fx.H9 (v:=aF (mZ v)) (by kernel_rfl) (by kernel_rfl) (Fx.qbC (fun E q=>rC (args := [au v.o,aF v.seq]) rfl (Fx.args2 (show ev _ (.tmp 10)=au v.o from by kernel_rfl) (show ev _ (.tmp 12)=aF v.seq from by kernel_rfl)) Tryz.func169 rfl rfl) (fun E q=>(agw v.o v.seq _ (by omega) (by omega)).mono fun e v2 h=>⟨h.1,(by rw[h.2]; exact Below.refl _ _)⟩)))
  ·exact .inr pV
  ·exact .inr (rZ (au v.o) fun E q=>bD (x:=bS v) rfl (show ev _ (.tmp 14)=(pt b)from by kernel_rfl) (by kernel_rfl) (l.aI.below q (by have:=l.lt; omega)) (i:=0) (by omega) (by omega) rfl)
  ·exact .inr (rZ (au a) fun E q=>Fx.YX rfl (show ev _ (.tmp 15)=au v.o from by kernel_rfl) (show ev _ (.const (au 1))=au 1 from by kernel_rfl) Fx.io)
  ·exact .inl rfl
  ·exact .inl rfl
  ·exact .inl rfl
  exact .inl rfl
 rintro d f w3 y u C D ne1 m6 m7 hb1;have aqR:j≠d:=t_ (n_ (P.lt) C);have afh:n≠d:=t_ (n_ (Q.lt) C);have aqS:b≠d:=t_ (n_ (l.lt) C);have aqT:j≠f:=t_ (n_ (P.lt) D);have aqU:n≠f:=t_ (n_ (Q.lt) D);have aqV:b≠f:=t_ (n_ (l.lt) D);have⟨m8,m9,m10,b3⟩:=oZ hb1 P Q l H;have C:w.heap.size<=d:=m_ H.size C;have Ma:=m6.lt;have D:w.heap.size<=f:=m_ H.size D;have TP:=m7.lt;have R:y 2=(pt n):=by rw[u]; kernel_rfl
 have S:y 3=(pt b):=by rw[u]; kernel_rfl
 have q3:y 4 = .nilFunc:=by rw[u]; kernel_rfl
 have q4:y 5=au 0:=by rw[u]; kernel_rfl
 have q5:y 6=(pt d):=by rw[u]; kernel_rfl
 have q6:y 7=(pt f):=by rw[u]; kernel_rfl
 clear u;refine sN<|Ws<|Ws ?_;refine jS [0,2,3,1,4,5,6,7,8,9,10,11] [4,4,0,0,0,4,0,0,0,4,0,0] [] fun qI dY iF => ?_;have⟨m11,N,O,ac,ad,F⟩:=uy dY m8 m9 m10 m6 m7 b3;refine Rs (pt j) (aN N.aI 0 (ha:=R)) ?_;refine bf (pt j)<|bf (pf j 21)<|Rs (au a) (aN ad.aI 0 (ha:=q6)) ?_;refine Rp (pf j (a+21)) (fun _=>jE 6 1)<|Rs (au (m.own a)) (aN m11.aI (a+21) (IV (p:=a) (by omega) (by omega))) ?_;by_cases V:5<=(m.own a)
 ·refine Rp aH (fun _=>ko V)<|bf aH<|Rk (by rfl)<|Rk (by rfl)<|Rk (by rfl)<|bf aH<|bR<|aO<|ay<|av (.nilFunc)<|av (au 6)<|aD<|Wr<|sR<|aK (.tuple #[.nilFunc,au 6]) ?_;have k:iT m v=6:=by unfold iT; rw[A]; exact d_ (.inl (by omega))
  exact⟨⟨.nilFunc,0,#[],by rw[k],rfl,fun z=>L_ (k.symm.trans z) (by first|decide|omega|assumption)⟩,F⟩
 refine Rp aG (fun _=>jU V)<|bf aG<|Rp (pf b 11) (fun _=>iV S 11)<|Rs (au v.aU) (aN O.aI 11) ?_;by_cases W:140737488355328<v.aU
 ·refine Rp aH (fun _=>mK W)<|bf aH<|bR<|aO<|ay<|av (.nilFunc)<|av (au 6)<|aD<|Wr<|sR<|aK (.tuple #[.nilFunc,au 6]) ?_;have k:iT m v=6:=by unfold iT; rw[A]; exact d_ (.inr (by omega))
  exact⟨⟨.nilFunc,0,#[],by rw[k],rfl,fun z=>L_ (k.symm.trans z) (by first|decide|omega|assumption)⟩,F⟩
 refine Rp aG (fun _=>mM W)<|bf aG<|bR<|aL<|Wk<|sN<|Ws<|ay<|Lv (pt j) (aN N.aI 0 (ha:=R))<|Lv (aF (mZ v)) (aN ac.aI 0 (ha:=q5))<|Lv (pf b 9) (iV S 9)<|Lv (aF v.node) (aN O.aI 9)<|eB (acP m j B _ (h.up F) (mZ v) v.node aa) _ rfl ?_;intro w4 s;have⟨ae,af,ag,m20,I⟩:=vP s N O ac ad F;refine av (au (m.T.err (mZ v) v.node))<|aD<|ay<|av (au (m.T.err (mZ v) v.node)) ?_;by_cases G:(m.T.err (mZ v) v.node)=0
 ·refine Lv aG (kr G)<|aD<|aL<|Wk<|sN<|ay<|Lv (.func (.func 171) #[] #[(pt n),(pt d),(pt b),(pt f)]) (Fx.ny (us := []) (vs := [(pt n),(pt d),(pt b),(pt f)]) rfl rfl (Fx.QO R q5 S q6))<|av (.func (.func 171) #[] #[(pt n),(pt d),(pt b),(pt f)])<|av (au 0)<|aD<|Wr<|aK (.tuple #[.func (.func 171) #[] #[(pt n),(pt d),(pt b),(pt f)],au 0]) ?_;have k:iT m v=0:=by unfold iT; rw[A,b_ (by omega)]; exact G
  exact⟨⟨_,171,#[(pt n),(pt d),(pt b),(pt f)],by rw[k],rfl,fun _=>⟨rfl,⟨_,_,Tryz.func171,rfl,rfl⟩,fun w2 s=>(UQ m j B w2 ((h.up I).up s) v L G a J A (ab a J) aa _ _ _ _ (ae.cZ (Sb s) (t_ ae.lt)) (ag.cZ (Sb s) (t_ ag.lt)) (af.cZ (Sb s) (t_ af.lt)) (m20.cZ (Sb s) (t_ m20.lt))).mono fun _ _ K=>⟨K.1,K.2.1,K.2.2.mono fun _ hk => .inl hk⟩⟩⟩,I⟩
 refine Lv aH (nE G)<|aD<|aO<|ay<|av (au (m.T.err (mZ v) v.node))<|av (.nilFunc)<|av (au (m.T.err (mZ v) v.node))<|aD<|Wr<|sR<|aK (.tuple #[.nilFunc,au (m.T.err (mZ v) v.node)]) ?_;have k:iT m v=m.T.err (mZ v) v.node:=by unfold iT; rw[A,b_ (by omega)]
 exact⟨⟨.nilFunc,0,#[],by rw[k],rfl,fun z=>L_ (k.symm.trans z) (by first|decide|omega|assumption)⟩,I⟩
end Go.Proofs.YtahbiajdgealnaaGreatDoor
namespace Go.Proofs.YtahbiajdgealnaaGreatDoor
open Go.RowKit Go
set_option linter.unusedVariables false
namespace Rt
section
variable {x p:Nat->Int} {n d e:Nat} {k v:Int}
theorem I5 : ∀ {d:Nat} {v:Int},ji x p n d v -> ∀ k,k∈jr x p n d v->(jr x p n d k).length<=(jr x p n d v).length
 | 0,v,h,k,hk=>by cases hk
 | d+1,v,h,k,hk=>by
   cases hv:dO x n v with
   | false=>rw[kL hv]at hk; cases hk
   | true =>
     have e:jr x p n (d+1) v=v::jr x p n d (ig x p n v):=(by show(if _ then _ else _)=_; rw[d_ hv]);have a:ji x p n d (ig x p n v):=h hv;rw[e]at hk
     rcases List.mem_cons.1 hk with rfl|hk
     ·exact z_ _
     ·have b:=I5 a k hk;have c:ji x p n d k:=by
       refine Au (d:=d) ?_ (m_ b yx);exact Fp a k hk
      have f:=(Ik c (Nat.le_succ d)).1;rw[f,e,List.length_cons]; omega
where Fp : ∀ {d:Nat} {v:Int},ji x p n d v -> ∀ k,k∈jr x p n d v->ji x p n d k
 | 0,v,h,k,hk=>by cases hk
 | d+1,v,h,k,hk=>by
   cases hv:dO x n v with
   | false=>rw[kL hv]at hk; cases hk
   | true =>
     have e:jr x p n (d+1) v=v::jr x p n d (ig x p n v):=(by show(if _ then _ else _)=_; rw[d_ hv]);have hs:ji x p n d (ig x p n v):=h hv;rw[e]at hk
     rcases List.mem_cons.1 hk with rfl|hk
     ·exact h
     ·exact(Ik (Fp hs k hk) (Nat.le_succ d)).2
theorem G8 : ∀ {d:Nat} {v:Int},ji x p n d v->(jr x p n d v).Nodup
 | 0,v,h=>List.nodup_nil
 | d+1,v,h=>by
   cases hv:dO x n v with
   | false=>rw[kL hv]; exact List.nodup_nil
   | true =>
     have e:jr x p n (d+1) v=v::jr x p n d (ig x p n v):=(by show(if _ then _ else _)=_; rw[d_ hv]);have a:ji x p n d (ig x p n v):=h hv;rw[e,List.nodup_cons];refine⟨fun c => ?_,G8 a⟩;have f:=I5 a v c;have b:=(Ik (I5.Fp a v c) (Nat.le_succ d)).1;rw[e]at b;rw[<- b,List.length_cons]at f;omega
end
section
variable {T:dK} {l:List Int} {k:Int}
theorem dK.wI(h:T.ok)(k:Int):(T.path k).Nodup:=G8 (h.stop k)
theorem dK.nQ(h:T.ok)(e:l=T.path k) : ∀ v,v∈l->T.has v=true:=fun v c=>by
 obtain⟨i,a,b⟩:=List.getElem_of_mem c;have:=dK.MS h e a;rw[r_,o_ a]at this;rw[<- b]; exact this
theorem yI(h:l.Nodup){i j:Nat}(hi:i<l.length)(a:j<l.length)(e:l.getD i 0=l.getD j 0):i=j:=by
 rw[r_,r_,o_ hi,o_ a]at e;exact(List.getElem_inj h).1 e
end
def jH(f:(Nat->Int)->(Nat->Int) × Int)(r:Nat->Nat->Int):Nat->Int
 | 0=>0
 | i+1=>if jH f r i=0 then(f (r i)).2 else jH f r i
section
variable {f:(Nat->Int)->(Nat->Int) × Int} {r:Nat->Nat->Int} {i n:Nat}
theorem BU(h:jH f r i=0)(a:(f (r i)).2=0):jH f r (i+1)=0:=by unfold jH; rw[d_ h,a]
theorem Aa(h:jH f r i=0)(a : ¬ (f (r i)).2=0) : ∀ n,i<n->jH f r n=(f (r i)).2
 | 0,hn=>L_ hn (u_ _)
 | n+1,hn=>by
   unfold jH;by_cases e:i=n
   ·subst e; rw[d_ h]
   ·rw[Aa h a n (by omega),b_ a]
theorem Fq : ∀ {n:Nat},jH f r n=0 -> ∀ i,i<n->(f (r i)).2=0
 | 0,_,i,hi=>L_ hi (u_ _)
 | n+1,h,i,hi=>by
   unfold jH at h;by_cases a:jH f r n=0
   ·rw[d_ a]at h;by_cases e:i=n
    ·rw[e]; exact h
    ·exact Fq a i (by omega)
   ·rw[b_ a]at h; exact L_ h a
end
def CS(m:dP)(k:Int):Nat->Int:=m.R (m.idx k)
def dz(m:dP)(f:(Nat->Int)->(Nat->Int) × Int)(l:List Int):Int:=jH f (fun i=>CS m (l.getD i 0)) l.length
open Classical in
noncomputable def oK(m:dP)(f:(Nat->Int)->(Nat->Int) × Int)(l:List Int):dP := { m with R:=fun i=>if m.T.x i∈l then(f (m.R i)).1 else m.R i }
def CU(l:List Int)(S:Nat->Bool)(v:Int):Nat->Bool
 | 0=>false
 | n+1=>CU l S v n || (S n&&decide (l.getD n 0=v))
theorem qR{l:List Int}{S:Nat->Bool}{v:Int} : ∀ {n:Nat},CU l S v n=true <-> ∃ q,q<n/\S q=true/\l.getD q 0=v
 | 0=>⟨fun h=>(nomatch h),fun⟨q,h,_⟩=>L_ h (u_ _)⟩
 | n+1=>by
   unfold CU;rw[Bool.or_eq_true,qR,R_,O_];constructor
   ·rintro (⟨q,c,a,b⟩|⟨c,a⟩)
    ·exact⟨q,by omega,a,b⟩
    ·exact⟨n,by omega,c,a⟩
   ·rintro ⟨q,c,a,b⟩;by_cases e:q=n
    ·subst e; exact .inr ⟨a,b⟩
    ·exact .inl ⟨q,by omega,a,b⟩
def xY(m:dP)(f:(Nat->Int)->(Nat->Int) × Int)(l:List Int)(S:Nat->Bool):Nat->Nat->Int:=fun i=>if CU l S (m.T.x i) l.length=true then(f (m.R i)).1 else m.R i
theorem MZ(m:dP)(f:(Nat->Int)->(Nat->Int) × Int)(l:List Int):xY m f l (fun _=>false)=m.R:=by
 funext i
 unfold xY;rw[b_];rw[qR];rintro ⟨q,_,h,_⟩; cases h
theorem Qf{m:dP}(o:m.T.ok){f:(Nat->Int)->(Nat->Int) × Int}{l:List Int}{S:Nat->Bool}{q j:Nat}(t:q<l.length)(s:j<m.T.n)(g:m.T.x j=l.getD q 0) : ∀ i,i<m.T.n->Fx.aM (xY m f l S) j (f (m.R j)).1 i=xY m f l (Fx.aM S q true) i:=fun i p=>by
 unfold Fx.aM;by_cases e:i=j
 ·subst e;rw[d_ rfl];unfold xY;rw[d_];rw[qR];exact⟨q,t,by show(if q=q then true else S q)=true; rw[d_ rfl],g.symm⟩
 ·rw[b_ e];unfold xY;have:CU l S (m.T.x i) l.length=true<->CU l (fun i=>if i=q then true else S i) (m.T.x i) l.length=true:=by
   rw[qR,qR];constructor
   ·rintro ⟨r,d,a,b⟩;exact⟨r,d,by show(if r=q then true else S r)=true; split <;> first|rfl|exact a,b⟩
   ·rintro ⟨r,d,a,b⟩;by_cases k:r=q
    ·subst k;exact L_ (o.inj i j p s (by rw[g,<- b])) e
    ·exact⟨r,d,by have a:(if r=q then true else S r)=true:=a; rw[b_ k]at a; exact a,b⟩
  by_cases c:CU l S (m.T.x i) l.length=true
  ·rw[d_ c,d_ (this.1 c)]
  ·rw[b_ c,b_ (fun h=>c (this.2 h))]
theorem UR{m:dP}{f:(Nat->Int)->(Nat->Int) × Int}{l:List Int}{S:Nat->Bool}(h : ∀ q,q<l.length->S q=true):xY m f l S=(oK m f l).R:=by
 funext i
 show _=if m.T.x i∈l then(f (m.R i)).1 else m.R i;unfold xY;have:CU l S (m.T.x i) l.length=true<->m.T.x i∈l:=by
  rw[qR];constructor
  ·rintro ⟨q,b,_,d⟩;rw[<- d,r_,o_ b]; exact P_ b
  ·intro g;obtain⟨q,a,e⟩:=List.getElem_of_mem g;exact⟨q,a,h q a,by rw[r_,o_ a]; exact e⟩
 by_cases c:m.T.x i∈l
 ·rw[d_ (this.2 c),d_ c]
 rw[b_ (fun h=>c (this.1 h)),b_ c]
def rQ(m:dP)(f:(Nat->Int)->(Nat->Int) × Int)(l:List Int):Nat->Value:=fun q => .agg (Fx.aC 54 (Fx.rv .i64 (f (CS m (l.getD q 0))).1))
theorem G9{m:dP}{f:(Nat->Int)->(Nat->Int) × Int}{l:List Int}{w:World}{b i:Nat}{r:Nat->Int}(h:Fx.Mp w b (i+1) (Fx.aM (fun q=>l.getD q 0) i (l.getD i 0)) (Fx.aM (rQ m f l) i (.agg (Fx.aC 54 (Fx.rv .i64 r)))))(e:r=(f (CS m (l.getD i 0))).1):Fx.Mp w b (i+1) (fun q=>l.getD q 0) (rQ m f l):=h.uD fun q a=>by
 unfold Fx.aM;by_cases c:q=i
 ·subst c; rw[d_ rfl,d_ rfl,e]; exact⟨rfl,rfl⟩
 ·rw[b_ c,b_ c]; exact⟨rfl,rfl⟩
end Rt
end Go.Proofs.YtahbiajdgealnaaGreatDoor
namespace Go.Proofs.YtahbiajdgealnaaGreatDoor
open Go.RowKit Rt
open Fx (fD eP fJ bD gP gM dD dS gD jB eX jC fU jD je Lv sN Ln Ws Qv Wl Rp Wc Qs Wr Sb Lk Wk rC rV sR Rs Rn Rd Rk Wb Wx Wo Dy Wt qW I4 Qn FM Bc yN zh C9 Dw qo gY zi ng uq uo vO wZ zf Dk Ap rv aC aS bI aM ev cK Stp dH aW flat dA Mp fq aY gX iU bF down iN jO iW ou bK bJ cells_one iP bV xk unseen jK iB bY dM bM bQ cu cB gJ gT qb gQ)
set_option maxRecDepth 20000
set_option linter.unusedVariables false
theorem UU(x:Nat->Int)(v:EvM)(a:Nat)(w:World)(F:1<=v.o/\v.o<=6)(b:aS w a 14 (bS v) 32) :
 Calls Tryz.prog 175 #[.agg (aC 54 (rv .i64 x)),(pt a)] w fun e C=>e = .returned (.tuple #[.agg (aC 54 (rv .i64 (bC x v.o v.aU).1)),au (bC x v.o v.aU).2])/\Below w.heap.size w C:=by
 have I:=b.lt;refine Kent Tryz.func175 13 ?_;refine ay<|rU fun E Q i c A T => ?_;have⟨k,g⟩:=fC A.old b (Below.refl w.heap.size w);have G:=iE i;have L:=cO i b.lt;have O:=c.lt;refine xg 54 (rv .i64 (fun _=>0)) fun q R j l B U => ?_;have⟨d,m,n⟩:=ku B.old k c g;have H:=jI j g.size;have⟨M,N⟩:=xM j k.lt c.lt;have P:=l.lt;refine av (au 0)<|aD<|ay<|Lv (.agg (aC 54 (rv .i64 x))) (gI m.aI 0)<|av (pt a)<|Lv (au v.o) (aN d.aI 0)<|av (pf a 11)<|Lv (au v.aU) (aN d.aI 11)<|eB (acn (x) v.o v.aU _ (by omega)) _ rfl ?_;intro S r;have⟨t,u,y,h⟩:=oZ r d m l n;refine av (.agg (aC 54 (rv .i64 ((bC (x) v.o v.aU).1))))<|av (au ((bC (x) v.o v.aU).2))<|fH y 0 fun D z f V => ?_;have s:aS D q 54 (rv .i64 ((bC (x) v.o v.aU).1)) 59:=aW z;have J:=t.cZ f (by omega);have K:=u.cZ f (by omega);have p:=f.below h h.size (by omega);refine av (au ((bC (x) v.o v.aU).2)) (aD (Wr (⟨.tuple #[.agg (aC 54 (rv .i64 ((bC (x) v.o v.aU).1))),au ((bC (x) v.o v.aU).2)],gQ Tryz.results175 ⟨_,rfl,aY s.aI (by kernel_rfl) (by kernel_rfl)⟩ (by exact rfl),?_⟩)));exact⟨rfl,p⟩
theorem UW(x:Nat->Int)(v:EvM)(g:Nat->Int)(b c:Nat)(w:World)(L:1<=v.o/\v.o<=6)(d:aS w b 14 (bS v) 32)(f:aS w c 5 (jf g) 66) :
 Calls Tryz.prog 178 #[.agg (aC 54 (rv .i64 x)),(pt b),(pt c)] w fun e I=>e = .returned (.tuple #[.agg (aC 54 (rv .i64 (bG x v.o (g 3)).1)),au (bG x v.o (g 3)).2])/\Below w.heap.size w I:=by
 have O:=d.lt;have P:=f.lt;refine Kent Tryz.func178 14 ?_;refine ay<|rU fun K w1 k h G z1 => ?_;have⟨m,n,i⟩:=ku G.old d f (Below.refl w.heap.size w);have M:=iE k;have⟨T,U⟩:=xM k d.lt f.lt;have Y:=h.lt;refine xg 54 (rv .i64 (fun _=>0)) fun y w2 l p H z2 => ?_;have⟨q,r,s,t⟩:=oZ H.old m n h i;have N:=jI l i.size;have⟨V,W,X⟩:=JC l m.lt n.lt h.lt;have Z:=p.lt;refine av (au 0)<|aD<|ay<|Lv (.agg (aC 54 (rv .i64 x))) (gI s.aI 0)<|av (pt b)<|Lv (au v.o) (aN q.aI 0)<|av (pf c 3)<|Lv (au (g 3)) (aN r.aI 3)<|eB (aco (x) v.o (g 3) _ (by omega)) _ rfl ?_;intro w3 z;have⟨E,F,A,B,j⟩:=vP z q r s p t;refine av (.agg (aC 54 (rv .i64 ((bG (x) v.o (g 3)).1))))<|av (au ((bG (x) v.o (g 3)).2))<|fH B 0 fun J C a z3 => ?_;have D:aS J y 54 (rv .i64 ((bG (x) v.o (g 3)).1)) 59:=aW C;have Q:=E.cZ a (by omega);have R:=F.cZ a (by omega);have S:=A.cZ a (by omega);have u:=a.below j j.size (by omega);refine av (au ((bG (x) v.o (g 3)).2)) (aD (Wr (⟨.tuple #[.agg (aC 54 (rv .i64 ((bG (x) v.o (g 3)).1))),au ((bG (x) v.o (g 3)).2)],gQ Tryz.results178 ⟨_,rfl,aY D.aI (by kernel_rfl) (by kernel_rfl)⟩ (by exact rfl),?_⟩)));exact⟨rfl,u⟩
theorem KL(m:dP)(j B:Nat)(w:World)(h:lD w B j m)(o:(Nat->Int)->(Nat->Int) × Int)(l:List Int)(s:Nat)(hgM:m.rb≠s/\m.mb≠s/\m.pb≠s/\m.gb≠s/\m.ab≠s)(hlh : ∀ k,k∈l->m.T.has k=true)(I:Mp w s l.length (fun q=>l.getD q 0) (rQ m o l))(z:Nat)(A:Nat)(H:aS w z 1 (fun _ => .map (some s)) 101)(Z:aS w A 1 (fun _=>(pt j)) 37) :
 Calls Tryz.prog 187 #[(pt z),(pt A)] w fun e w'=>e = .returned (.tuple #[])/\lD w' B j (oK m o l)/\jO (Fa m j) w w':=by
 have hC:=h.c;have hT:=h.t;have hP:=h.p;have hR:=h.r;have hG:=h.g;have hA:=h.a;have b:=h.ne;have lC:=h.c.lt;have lT:=h.t.lt;have lP:=h.p.lt;have lR:=h.r.lt;have lG:=h.g.lt;have lA:=h.a.lt;have lg8:=H.lt;have Zc:=Z.lt;have lF:=I.lt;obtain⟨hg1,hg2,hg3,hg4,hg5⟩:=hgM;refine Kent Tryz.func187 17 ?_;refine ay<|Lv (.map (some s)) (aN H.aI 0)<|Fx.L.range (by rfl) rfl rfl rfl I Tryz.underlying101 fun F w1 mD m1 s1 z1 => ?_;have⟨m2,m3,m4,m5,m6,m7,m8,m9,m10⟩:=Bn s1.old hC hT hP hR hG hA I H Z;have b1:=(uo (Fa m j) w).then s1 (.inr (uo (Fa m j) w).size);have uG:w.heap.size<=F:=by rw[mD]; exact(uo (Fa m j) w).size
 have wO:=m1.lt;refine aD<|Wb ?_;have m11:Mp w1 m.rb m.T.n m.T.x (wG (xY m o l (fun _=>false))):=by rw[MZ]; exact m5
 refine Dy (fun kE f v => ∃ S:Nat->Bool,∃ K:Nat,K=unseen S l.length/\K=kE/\f 0=(pt z)/\f 1=(pt A)/\f 5=(pt F)/\aS v j 29 (vg m) 106/\rD v B m.tp m.mb m.T/\Mp v m.pb m.T.n m.T.x (Dq m.T)/\gX v m.gb m.gn (fun i=>m.g i 0) (fun i=>m.g i 1) (tY m.g)/\gX v m.ab m.an m.ao m.ar Dr/\Mp v s l.length (fun q=>l.getD q 0) (rQ m o l)/\aS v z 1 (fun _ => .map (some s)) 101/\aS v A 1 (fun _=>(pt j)) 37/\Mp v m.rb m.T.n m.T.x (wG (xY m o l S))/\Fx.It v F s l.length S/\jO (Fa m j) w v) (unseen (fun _=>false) l.length) ⟨(fun _=>false),(unseen (fun _=>false) l.length),rfl,rfl,(by rfl),(by rfl),(by rfl),m2,m3,m4,m6,m7,m8,m9,m10,m11,m1,b1⟩ ?_;rintro kE f1 w2 ⟨S,K,hkk,hkE,W,X,G,m12,m13,m14,m15,m16,m17,m18,m19,m20,M,Q⟩;refine ay<|Fx.L.next (by rfl) rfl rfl G m17 M (fun rA => ?_)<|fun d w3 C hS1 m22 mc1 s2 z2 => ?_
 ·skip
  refine av aG (aD (Ws (aL (Wx (cu (gJ (cB (⟨.tuple #[],iN Tryz.results187,?_⟩))))))));have m23:Mp w2 m.rb m.T.n m.T.x (wG (oK m o l).R):=by rw[<- UR rA]; exact m20
  exact⟨rfl,{ c:=m12,t:=m13,p:=m14,r:=m23,g:=m15,a:=m16,ne:=⟨b.mp,b.mr,b.mg,b.ma,b.pr,b.pg,b.pa,b.rg,b.ra,b.ga⟩,lB:=h.lB,pB:=h.pB,rB:=h.rB,gB:=h.gB,aB:=h.aB },Q⟩
 skip
 have y:=M.Bd s2;have m24:=m12.dQ y;have ni:=m13.dQ y (by omega);have nZ:=m14.dQ y (by omega);have oz:=m15.dQ y (by omega);have og:=m16.dQ y (by omega);have N:=m17.dQ y (M.rb.symm);have pE:=m18.dQ y;have mE:=m19.dQ y;have m32:=m20.dQ y (by omega);have D:=Q.then s2 (.inr uG);refine av aH<|aD<|Ws<|aO<|Wk<|sN<|Wb<|ay<|Lv (.tuple #[aF (l.getD d 0),.agg (aC 54 (rv .i64 ((o (CS m (l.getD d 0))).1)))]) (Fx.Nz (key:=fun q=>l.getD q 0) (val:=rQ m o l) (i:=d) rfl G N mc1 C)<|av (aF (l.getD d 0))<|av (.agg (aC 54 (rv .i64 ((o (CS m (l.getD d 0))).1))))<|xg 54 (rv .i64 (fun _=>0)) fun g2 w4 V O s3 z3 => ?_;have⟨oN,pW,qx,rW,qy,pF,sj,nk,mV,nu,rX⟩:=Ej s3.old m24 ni nZ oz og N pE mE m32 mc1 m22;have b4:=D.then s3 (.inr D.size);have sG:=jI V D.size;have⟨ano,anp,anq,anr,ant,anu,anv,anw⟩:=Wz V m24.lt nZ.lt oz.lt og.lt N.lt pE.lt mE.lt m32.lt;have Bg:=O.lt;refine av (aF (l.getD d 0))<|fH O 0 fun P qK s4 z4 => ?_;have nU:aS P g2 54 (rv .i64 ((o (CS m (l.getD d 0))).1)) 59:=aW qK;have gK:=gY s4 O.ty;have⟨ru,xq,su,sS,vw,uH,uh,uI,wR,tL,rY⟩:=Y9 gK oN pW qx rW qy pF sj nk mV nu rX;have U:=b4.then s4 (.inr sG);refine aD ?_;obtain⟨jz,J,E⟩:=gG (hlh _ (uF C rfl));have ejx:CS m (l.getD d 0)=m.R jz:=by unfold CS dP.idx; rw[mH h.t.inv.inj J E]
 refine jS [4,0,1,2,3,5,6] [4,0,0,4,0,4,3] [(6,0,[0]),(6,3,[3]),(6,5,[5])] fun qI Y iF => ?_;have s5:Stp P.heap.size P qI:=Sb Y;have⟨rz,wS,pG,uJ,nS,sw,m64,vV,vE,vW,vX,qz⟩:=Nv Y ru xq su sS vw uH uh uI wR tL rY nU;have b6:=U.then s5 (.inr U.size);refine bf (aF (l.getD d 0))<|Rs (pt j) (aN vV.aI 0 (ha:=X)) ?_;refine bf (pt j)<|bf (pf j 20)<|Rs (.map (some m.rb)) (aN rz.aI 20) ?_;refine Rs (.agg (aC 54 (rv .i64 ((o (CS m (l.getD d 0))).1)))) (gI qz.aI 0) ?_;refine gF<|Fx.L.aas (by rfl) rfl rfl rfl rfl rfl vE Tryz.underlying101 Tryz.underlying28 J E fun w6 sD s6 z5 => ?_;have u:=vE.Bd s6;have sU:=rz.dQ u;have sF:=wS.dQ u (b.mr);have sV:=pG.dQ u (b.pr);have xu:=uJ.dQ u (Ne.symm b.rg);have uK:=nS.dQ u (Ne.symm b.ra);have wT:=sw.dQ u (by omega);have wU:=m64.dQ u;have xw:=vV.dQ u;have wV:=vW.dQ u (by omega) (by omega);have vY:=vX.dQ u (by omega) (by omega);have uL:=qz.dQ u;have b7:=b6.then s6 (.inl (.inr (.inr (.inr (.inl rfl)))));have wW:Mp w6 m.rb m.T.n m.T.x (wG (xY m o l (aM S d true))):=by have q9:=D6 _ _ _ _ sD; rw[ejx]at q9; exact q9.uD fun i hi=>⟨rfl,by unfold wG; rw[Qf h.t.inv C J E i hi]⟩
 refine Ln (Rn (bQ (gT ⟨unseen (aM S d true) l.length,(by have W:=Fx.ow hS1 l.length C; omega),(aM S d true),(unseen (aM S d true) l.length),rfl,rfl,W,X,G,sU,sF,sV,xu,uK,wT,wU,xw,wW,vY,b7⟩ (by decide))))
theorem UY(m:dP)(j B:Nat)(w:World)(h:lD w B j m)(C:Int)(v:EvM)(ho:1<=v.o/\v.o<=6)(E:Nat)(u:aS w E 14 (bS v) 32) :
 Calls Tryz.prog 174 #[(pt j),aF C,.func (.func 175) #[] #[(pt E)]] w fun e w'=>QI w B j m (oK m (fun x=>bC x v.o v.aU) (m.T.path C)) (dz m (fun x=>bC x v.o v.aU) (m.T.path C)) e w':=by
 have hC:=h.c;have hT:=h.t;have hP:=h.p;have hR:=h.r;have hG:=h.g;have hA:=h.a;have hN:=h.ne;have lC:=h.c.lt;have lT:=h.t.lt;have lP:=h.p.lt;have lR:=h.r.lt;have lG:=h.g.lt;have lA:=h.a.lt;have ZA:=u.lt;refine Kent Tryz.func174 44 ?_;refine ay<|zH (pt j) fun A w1 mD Y s1 z1 => ?_;have⟨m2,m3,m4,m5,m6,m7,m8,b1⟩:=lu s1.old hC hT hP hR hG hA u (Below.refl w.heap.size w);have uG:=iE mD;have⟨nI,zB,wY,AZ,zx,J9⟩:=Ii mD hC.lt hP.lt hR.lt hG.lt hA.lt u.lt;have wO:=Y.lt;refine av (.nilFunc)<|av (au 0)<|aD<|ay<|Fx.L.JD (by rfl) rfl rfl fun d w2 yA m9 s2 z2 => ?_;have⟨m10,m11,m12,m13,m14,m15,m16,m17,b2⟩:=Bn s2.old m2 m3 m4 m5 m6 m7 m8 Y b1;have sG:=jI yA b1.size;have⟨Fu,Fe,zZ,Fg,Br,SA,SB⟩:=LU yA m2.lt m4.lt m5.lt m6.lt m7.lt m8.lt Y.lt;have Bg:=m9.lt;refine xg 1 (fun _ => .map none) fun y w3 zN Z s3 z3 => ?_;have⟨m19,m20,m21,m22,m23,m24,ni,nZ,oz,b3⟩:=uz s3.old m10 m11 m12 m13 m14 m15 m16 m17 m9 b2;have Eo:=jI zN b2.size;have⟨acU,UZ,acV,U0,U1,MQ,acW,MR⟩:=Wz zN m10.lt m12.lt m13.lt m14.lt m15.lt m16.lt m17.lt m9.lt;have Ma:=Z.lt;refine jm Z 0 (.map (some d)) fun O og s4 z4 => ?_;have oC:aS O y 1 (fun _ => .map (some d)) 101:=dM og;have gK:=gY s4 Z.ty;have⟨pE,mE,m32,qh,oN,pW,qx,rW,qy⟩:=aaq gK m19 m20 m21 m22 m23 m24 ni nZ oz;have b4:=s4.below b3 b3.size (by omega);refine aD<|Ws<|ay<|Lv (pt j) (aN rW.aI 0)<|av (pt j)<|av (pf j 18)<|Lv (pt m.tp) (aN pE.aI 18)<|av (aF C)<|lS (Iq C mE) ?_;rintro e9 w5 ⟨Zd,D,u,pF,hb1⟩;refine⟨_,u,?_⟩;clear u;have⟨sj,nk,mV,nu,rX,qK,nU,ru,xq,su,b5⟩:=Ej hb1 pE mE m32 qh oN pW qx rW qy oC b4;obtain⟨l,H⟩ : ∃ q,q=dK.path m.T C:=⟨_,rfl⟩;rw[<- H]at pF ⊢;have hl4:l.length<=4:=by rw[H]; exact dK.yH
 refine av (au l.length)<|av (au 0)<|aD<|Wb ?_;have sS:Mp w5 d 0 (fun q=>l.getD q 0) (rQ m (fun x=>bC x v.o v.aU) l):=xq.uD fun i hi=>L_ hi (u_ _);refine Wo (fun f k => ∃ i:Nat,i<=l.length/\jH (fun x=>bC x v.o v.aU) (fun i=>CS m (l.getD i 0)) i=0/\f 2 = .func (.func 175) #[] #[(pt E)]/\f 3=(pt A)/\f 8=(pt y)/\f 19 = .slice Zd (l.length) (D)/\f 20=au (l.length:Int)/\f 21=au (i:Int)/\aS k j 29 (vg m) 106/\rD k B m.tp m.mb m.T/\Mp k m.pb m.T.n m.T.x (Dq m.T)/\Mp k m.rb m.T.n m.T.x (wG m.R)/\gX k m.gb m.gn (fun i=>m.g i 0) (fun i=>m.g i 1) (tY m.g)/\gX k m.ab m.an m.ao m.ar Dr/\aS k E 14 (bS v) 32/\aS k A 1 (fun _=>(pt j)) 37/\aS k y 1 (fun _ => .map (some d)) 101/\Fx.Own k O.heap.size 28 1 (.slice Zd (l.length) (D)) l.length (xD l)/\Mp k d i (fun q=>l.getD q 0) (rQ m (fun x=>bC x v.o v.aU) l)/\Below w.heap.size w k) (fun f _=>((l.length:Int)-intOf (f 21)).toNat) ⟨0,(by omega),rfl,(by rfl),(by rfl),(by rfl),(by rfl),Fx.ic,Fx.ic,sj,nk,mV,nu,rX,qK,nU,ru,su,pF,sS,b5⟩ ?_;rintro f1 w6 ⟨i,hi,K,h1,U,V,h4,W,G,vw,uH,uh,uI,wR,tL,rY,N,aa,pG,ac,P⟩;refine ay ?_;by_cases c22:(i:Int)<(l.length:Int)
 ·refine Lv aH (gV c22 (hx:=G) (hy:=W))<|aD<|Ws<|aO<|Wk<|sN<|Ws<|Wb<|ay ?_;obtain⟨EC,S⟩:=pG.addr (by omega);have nS:Fx.Own w6 O.heap.size 28 1 (bL EC l.length D) l.length (xD l):=pG.dL (K_ (fun q=>Value.slice q l.length D) S);refine Lv (pf EC i) (dh 1 (hx:=(h4.trans (K_ (fun q=>Value.slice q (l.length) (D)) S))) (hi:=G))<|Lv (aF (l.getD i 0)) (aN nS.aI i)<|av (aF (l.getD i 0))<|aD<|Ws ?_;obtain⟨b,hjz,ejz⟩:=gG (dK.nQ h.t.inv H _ (uF (show i<l.length by omega) rfl));have J:CS m (l.getD i 0)=m.R b:=by unfold CS dP.idx; rw[mH h.t.inv.inj hjz ejz]
  refine Wl<|aX h1<|Lv (pt j) (aN N.aI 0 (ha:=U))<|av (pt j)<|av (pf j 20)<|Lv (.map (some m.rb)) (aN vw.aI 20)<|av (aF (l.getD i 0))<|Lv (.agg (aC 54 (rv .i64 (m.R b)))) (Fx.vQ (z := .agg (aC 54 (rv .i64 (fun _=>0)))) rfl rfl rfl uI Tryz.underlying101 Tryz.underlying28 (by kernel_rfl) hjz ejz rfl)<|Bc (by rfl) (Fx.Gd (args := [.agg (aC 54 (rv .i64 (m.R b)))]) rfl rfl rfl (all := #[.agg (aC 54 (rv .i64 (m.R b))),(pt E)]) rfl Tryz.func175 rfl rfl) rfl<|(UU (m.R b) v E _ ho rY).mono ?_;rintro e w7 ⟨u,F⟩;refine⟨.tuple #[.agg (aC 54 (rv .i64 ((bC (m.R b) v.o v.aU).1))),au ((bC (m.R b) v.o v.aU).2)],by rw[u],?_⟩;clear u;have⟨sw,m64,vV,vE,vW,vX,qz,sD,sU,sF,sV,b7⟩:=Nv F vw uH uh uI wR tL rY N aa ac nS P;refine av (.tuple #[.agg (aC 54 (rv .i64 ((bC (m.R b) v.o v.aU).1))),au ((bC (m.R b) v.o v.aU).2)])<|av (.agg (aC 54 (rv .i64 ((bC (m.R b) v.o v.aU).1))))<|av (au ((bC (m.R b) v.o v.aU).2))<|xg 54 (rv .i64 (fun _=>0)) fun g4 w8 LY ad s7 z5 => ?_;have⟨uK,wT,wU,xw,wV,vY,uL,wW,yR,xA,zu,b8⟩:=Nv s7.old sw m64 vV vE vW vX qz sD sU sF sV b7;have VZ:=jI LY b7.size;have⟨acA,acB,acC,acD,anz,anA,acX,anB,acY,acZ⟩:=Za LY sw.lt vV.lt vE.lt vW.lt vX.lt qz.lt sD.lt sU.lt sF.lt sV.lt;have TP:=ad.lt;refine fH ad 0 fun w9 zL s8 z6 => ?_;have zw:aS w9 g4 54 (rv .i64 ((bC (m.R b) v.o v.aU).1)) 59:=aW zL;have jV:=gY s8 ad.ty;have⟨yS,yT,zM,Dm,Bz,AA,Bh,yU,DR,CB,DT⟩:=Y9 jV uK wT wU xw wV vY uL wW yR xA zu;have Q:=s8.below b8 b8.size (by omega);refine av (au ((bC (m.R b) v.o v.aU).2))<|aD<|Ws<|ay<|av (au ((bC (m.R b) v.o v.aU).2)) ?_;by_cases I:((bC (m.R b) v.o v.aU).2)=0
  ·refine Lv aG (kr I)<|aD<|aL<|Wk<|sN ?_;have hnd:l.Nodup:=(by rw[H]; exact dK.wI h.t.inv C);have hny : ∀ q,q<i->(fun q=>l.getD q 0) q≠l.getD i 0:=fun q hq e=>by have:=yI hnd (show q<l.length by omega) (show i<l.length by omega) e; omega
   refine Wl<|Lv (.map (some d)) (aN DR.aI 0 (ha:=V))<|av (aF (l.getD i 0))<|Lv (.agg (aC 54 (rv .i64 ((bC (m.R b) v.o v.aU).1)))) (gI zw.aI 0)<|Fx.L.O6 (by rfl) rfl rfl rfl rfl rfl CB Tryz.underlying101 Tryz.underlying28 hny fun sQ EB s9 z7 => ?_;have s:=CB.Bd s9;have tN:=yS.dQ s;have wB:=yT.dQ s (by omega);have tO:=zM.dQ s (by omega);have rM:=Dm.dQ s (by omega);have nV:=Bz.dQ s (by omega);have nN:=AA.dQ s (by omega);have oH:=Bh.dQ s;have nW:=yU.dQ s;have qL:=DR.dQ s;have rO:=DT.dQ s;have uT:=zw.dQ s;have b10:=s9.below Q Q.size (by omega);have qM:Mp sQ d (i+1) (fun q=>l.getD q 0) (rQ m (fun x=>bC x v.o v.aU) l):=G9 EB (by rw[J]);refine Ln<|bQ<|sN<|Wl<|Lv (au ((i:Int)+1)) (eY (hx:=G))<|av (au ((i:Int)+1))<|Ln ?_;have tQ:Fx.Own sQ O.heap.size 28 1 (.slice Zd (l.length) (D)) l.length (xD l):=rO.dL (K_ (fun q=>Value.slice q l.length D) S.symm);refine gT ⟨i+1,(by omega),(BU K (by rw[J]; exact I)),h1,U,V,h4,(W.trans Fx.ic),Fx.ic,tN,wB,tO,rM,nV,nN,oH,nW,qL,tQ,qM,b10⟩ ?_;show((l.length:Int)-intOf (au ((i:Int)+1))).toNat<_;simp only[G,intOf]; omega
  refine Lv aH (nE I)<|aD<|aO<|ay<|av (au ((bC (m.R b) v.o v.aU).2))<|av (.nilFunc)<|av (au ((bC (m.R b) v.o v.aU).2))<|aD<|Wr<|sR<|bM<|sR<|qb<|bM<|sR<|aK (.tuple #[.nilFunc,au ((bC (m.R b) v.o v.aU).2)]) ?_;have M:dz m (fun x=>bC x v.o v.aU) l=(bC (m.R b) v.o v.aU).2:=by unfold dz; rw[Aa K (by rw[J]; exact I) _ (by omega),J]
  exact⟨⟨.nilFunc,0,#[],by rw[M],rfl,fun e0=>L_ (M.symm.trans e0) (by first|decide|omega|assumption)⟩,Q⟩
 refine Lv aG (gW c22 (hx:=G) (hy:=W))<|aD<|Ws<|aL<|Wx<|cu<|gJ<|cB<|sN<|ay<|Lv (.func (.func 187) #[] #[(pt y),(pt A)]) (Fx.ny (us := []) (vs := [(pt y),(pt A)]) rfl rfl (Fx.args2 V U))<|av (.func (.func 187) #[] #[(pt y),(pt A)])<|av (au 0)<|aD<|Wr<|aK (.tuple #[.func (.func 187) #[] #[(pt y),(pt A)],au 0]) ?_;have hil:i=l.length:=by omega
 rw[hil]at ac K;have hgm:m.rb≠d/\m.mb≠d/\m.pb≠d/\m.gb≠d/\m.ab≠d:=⟨by omega,by omega,by omega,by omega,by omega⟩;have M:dz m (fun x=>bC x v.o v.aU) l=0:=K;exact⟨⟨_,187,#[(pt y),(pt A)],by rw[M],rfl,fun _=>⟨rfl,⟨_,_,Tryz.func187,rfl,rfl⟩,fun w2 F=>(KL m j B w2 ((h.up P).up F) (fun x=>bC x v.o v.aU) l d hgm (dK.nQ h.t.inv H) (ac.up F) _ _ (aa.cZ (Sb F) (t_ aa.lt)) (N.cZ (Sb F) (t_ N.lt))).mono fun _ _ X=>⟨X.1,X.2.1,X.2.2.mono fun _ hk => .inl hk⟩⟩⟩,P⟩
theorem U2(m:dP)(j B:Nat)(w:World)(h:lD w B j m)(C:Int)(v:EvM)(g:Nat->Int)(ho:1<=v.o/\v.o<=6)(E F:Nat)(u:aS w E 14 (bS v) 32)(Z:aS w F 5 (jf g) 66) :
 Calls Tryz.prog 174 #[(pt j),aF C,.func (.func 178) #[] #[(pt E),(pt F)]] w fun e w'=>QI w B j m (oK m (fun x=>bG x v.o (g 3)) (m.T.path C)) (dz m (fun x=>bG x v.o (g 3)) (m.T.path C)) e w':=by
 have hC:=h.c;have hT:=h.t;have hP:=h.p;have hR:=h.r;have hG:=h.g;have hA:=h.a;have hN:=h.ne;have lC:=h.c.lt;have lT:=h.t.lt;have lP:=h.p.lt;have lR:=h.r.lt;have lG:=h.g.lt;have lA:=h.a.lt;have ZA:=u.lt;have lgg:=Z.lt;refine Kent Tryz.func174 44 ?_;refine ay<|zH (pt j) fun A w1 mD m1 s1 z1 => ?_;have⟨m2,m3,m4,m5,m6,m7,m8,m9,b1⟩:=Bn s1.old hC hT hP hR hG hA u Z (Below.refl w.heap.size w);have uG:=iE mD;have⟨nI,zB,wY,AZ,zx,J9,afp⟩:=LU mD hC.lt hP.lt hR.lt hG.lt hA.lt u.lt Z.lt;have wO:=m1.lt;refine av (.nilFunc)<|av (au 0)<|aD<|ay<|Fx.L.JD (by rfl) rfl rfl fun d w2 yA m10 s2 z2 => ?_;have⟨m11,m12,m13,m14,m15,m16,m17,m18,m19,b2⟩:=uz s2.old m2 m3 m4 m5 m6 m7 m8 m9 m1 b1;have sG:=jI yA b1.size;have⟨Fb,zZ,Fg,Br,SA,SB,acQ,anC⟩:=Wz yA m2.lt m4.lt m5.lt m6.lt m7.lt m8.lt m9.lt m1.lt;have Bg:=m10.lt;refine xg 1 (fun _ => .map none) fun y w3 zN m20 s3 z3 => ?_;have⟨m21,m22,m23,m24,ni,nZ,oz,og,oC,pE,b3⟩:=Ej s3.old m11 m12 m13 m14 m15 m16 m17 m18 m19 m10 b2;have Eo:=jI zN b2.size;have⟨UZ,U0,U1,MQ,acW,MR,Uy,Uz,UA⟩:=WA zN m11.lt m13.lt m14.lt m15.lt m16.lt m17.lt m18.lt m19.lt m10.lt;have Ma:=m20.lt;refine jm m20 0 (.map (some d)) fun P mE s4 z4 => ?_;have m32:aS P y 1 (fun _ => .map (some d)) 101:=dM mE;have gK:=gY s4 m20.ty;have⟨qh,oN,pW,qx,rW,qy,pF,sj,nk,mV⟩:=Nw gK m21 m22 m23 m24 ni nZ oz og oC pE;have b4:=s4.below b3 b3.size (by omega);refine aD<|Ws<|ay<|Lv (pt j) (aN nk.aI 0)<|av (pt j)<|av (pf j 18)<|Lv (pt m.tp) (aN qh.aI 18)<|av (aF C)<|lS (Iq C oN) ?_;rintro e9 w5 ⟨Zd,D,u,nu,hb1⟩;refine⟨_,u,?_⟩;clear u;have⟨rX,qK,nU,ru,xq,su,sS,vw,uH,uh,uI,b5⟩:=Nv hb1 qh oN pW qx rW qy pF sj nk mV m32 b4;obtain⟨l,I⟩ : ∃ q,q=dK.path m.T C:=⟨_,rfl⟩;rw[<- I]at nu ⊢;have hl4:l.length<=4:=by rw[I]; exact dK.yH
 refine av (au l.length)<|av (au 0)<|aD<|Wb ?_;have wR:Mp w5 d 0 (fun q=>l.getD q 0) (rQ m (fun x=>bG x v.o (g 3)) l):=uh.uD fun i hi=>L_ hi (u_ _);refine Wo (fun f k => ∃ i:Nat,i<=l.length/\jH (fun x=>bG x v.o (g 3)) (fun i=>CS m (l.getD i 0)) i=0/\f 2 = .func (.func 178) #[] #[(pt E),(pt F)]/\f 3=(pt A)/\f 8=(pt y)/\f 19 = .slice Zd (l.length) (D)/\f 20=au (l.length:Int)/\f 21=au (i:Int)/\aS k j 29 (vg m) 106/\rD k B m.tp m.mb m.T/\Mp k m.pb m.T.n m.T.x (Dq m.T)/\Mp k m.rb m.T.n m.T.x (wG m.R)/\gX k m.gb m.gn (fun i=>m.g i 0) (fun i=>m.g i 1) (tY m.g)/\gX k m.ab m.an m.ao m.ar Dr/\aS k E 14 (bS v) 32/\aS k F 5 (jf g) 66/\aS k A 1 (fun _=>(pt j)) 37/\aS k y 1 (fun _ => .map (some d)) 101/\Fx.Own k P.heap.size 28 1 (.slice Zd (l.length) (D)) l.length (xD l)/\Mp k d i (fun q=>l.getD q 0) (rQ m (fun x=>bG x v.o (g 3)) l)/\Below w.heap.size w k) (fun f _=>((l.length:Int)-intOf (f 21)).toNat) ⟨0,(by omega),rfl,(by rfl),(by rfl),(by rfl),(by rfl),Fx.ic,Fx.ic,rX,qK,nU,ru,xq,su,sS,vw,uH,uI,nu,wR,b5⟩ ?_;rintro f1 w6 ⟨i,hi,M,h1,V,W,h4,X,H,tL,rY,rz,wS,pG,uJ,nS,sw,O,vV,vE,vW,Q⟩;refine ay ?_;by_cases c22:(i:Int)<(l.length:Int)
 ·refine Lv aH (gV c22 (hx:=H) (hy:=X))<|aD<|Ws<|aO<|Wk<|sN<|Ws<|Wb<|ay ?_;obtain⟨EC,U⟩:=vE.addr (by omega);have vX:Fx.Own w6 P.heap.size 28 1 (bL EC l.length D) l.length (xD l):=vE.dL (K_ (fun q=>Value.slice q l.length D) U);refine Lv (pf EC i) (dh 1 (hx:=(h4.trans (K_ (fun q=>Value.slice q (l.length) (D)) U))) (hi:=H))<|Lv (aF (l.getD i 0)) (aN vX.aI i)<|av (aF (l.getD i 0))<|aD<|Ws ?_;obtain⟨b,hjz,ejz⟩:=gG (dK.nQ h.t.inv I _ (uF (show i<l.length by omega) rfl));have K:CS m (l.getD i 0)=m.R b:=by unfold CS dP.idx; rw[mH h.t.inv.inj hjz ejz]
  refine Wl<|aX h1<|Lv (pt j) (aN O.aI 0 (ha:=V))<|av (pt j)<|av (pf j 20)<|Lv (.map (some m.rb)) (aN tL.aI 20)<|av (aF (l.getD i 0))<|Lv (.agg (aC 54 (rv .i64 (m.R b)))) (Fx.vQ (z := .agg (aC 54 (rv .i64 (fun _=>0)))) rfl rfl rfl wS Tryz.underlying101 Tryz.underlying28 (by kernel_rfl) hjz ejz rfl)<|Bc (by rfl) (Fx.Gd (args := [.agg (aC 54 (rv .i64 (m.R b)))]) rfl rfl rfl (all := #[.agg (aC 54 (rv .i64 (m.R b))),(pt E),(pt F)]) rfl Tryz.func178 rfl rfl) rfl<|(UW (m.R b) v g E F _ ho nS sw).mono ?_;rintro e w7 ⟨u,G⟩;refine⟨.tuple #[.agg (aC 54 (rv .i64 ((bG (m.R b) v.o (g 3)).1))),au ((bG (m.R b) v.o (g 3)).2)],by rw[u],?_⟩;clear u;have⟨qz,sD,sU,sF,sV,xu,uK,wT,wU,xw,wV,vY,b7⟩:=Y8 G tL rY rz wS pG uJ nS sw O vV vW vX Q;refine av (.tuple #[.agg (aC 54 (rv .i64 ((bG (m.R b) v.o (g 3)).1))),au ((bG (m.R b) v.o (g 3)).2)])<|av (.agg (aC 54 (rv .i64 ((bG (m.R b) v.o (g 3)).1))))<|av (au ((bG (m.R b) v.o (g 3)).2))<|xg 54 (rv .i64 (fun _=>0)) fun g4 w8 LY uL s7 z5 => ?_;have⟨wW,yR,xA,zu,zL,zw,yS,yT,zM,Dm,Bz,AA,b8⟩:=Y8 s7.old qz sD sU sF sV xu uK wT wU xw wV vY b7;have VZ:=jI LY b7.size;have⟨acX,acY,acZ,anD,anE,anF,anG,anH,anI,anJ,anK⟩:=aew LY qz.lt sU.lt sF.lt sV.lt xu.lt uK.lt wT.lt wU.lt xw.lt wV.lt vY.lt;have TP:=uL.lt;refine fH uL 0 fun w9 Bh s8 z6 => ?_;have yU:aS w9 g4 54 (rv .i64 ((bG (m.R b) v.o (g 3)).1)) 59:=aW Bh;have jV:=gY s8 uL.ty;have⟨DR,CB,DT,EB,tN,wB,tO,rM,nV,nN,oH,nW⟩:=aev jV wW yR xA zu zL zw yS yT zM Dm Bz AA;have S:=s8.below b8 b8.size (by omega);refine av (au ((bG (m.R b) v.o (g 3)).2))<|aD<|Ws<|ay<|av (au ((bG (m.R b) v.o (g 3)).2)) ?_;by_cases J:((bG (m.R b) v.o (g 3)).2)=0
  ·refine Lv aG (kr J)<|aD<|aL<|Wk<|sN ?_;have hnd:l.Nodup:=(by rw[I]; exact dK.wI h.t.inv C);have hny : ∀ q,q<i->(fun q=>l.getD q 0) q≠l.getD i 0:=fun q hq e=>by have:=yI hnd (show q<l.length by omega) (show i<l.length by omega) e; omega
   refine Wl<|Lv (.map (some d)) (aN nN.aI 0 (ha:=W))<|av (aF (l.getD i 0))<|Lv (.agg (aC 54 (rv .i64 ((bG (m.R b) v.o (g 3)).1)))) (gI yU.aI 0)<|Fx.L.O6 (by rfl) rfl rfl rfl rfl rfl oH Tryz.underlying101 Tryz.underlying28 hny fun sQ qL s9 z7 => ?_;have s:=oH.Bd s9;have rO:=DR.dQ s;have uT:=CB.dQ s (by omega);have qM:=DT.dQ s (by omega);have tQ:=EB.dQ s (by omega);have yV:=tN.dQ s (by omega);have uU:=wB.dQ s (by omega);have yX:=tO.dQ s;have BA:=rM.dQ s;have xC:=nV.dQ s;have tT:=nN.dQ s;have ql:=nW.dQ s;have xR:=yU.dQ s;have b10:=s9.below S S.size (by omega);have xS:Mp sQ d (i+1) (fun q=>l.getD q 0) (rQ m (fun x=>bG x v.o (g 3)) l):=G9 qL (by rw[K]);refine Ln<|bQ<|sN<|Wl<|Lv (au ((i:Int)+1)) (eY (hx:=H))<|av (au ((i:Int)+1))<|Ln ?_;have tV:Fx.Own sQ P.heap.size 28 1 (.slice Zd (l.length) (D)) l.length (xD l):=ql.dL (K_ (fun q=>Value.slice q l.length D) U.symm);refine gT ⟨i+1,(by omega),(BU M (by rw[K]; exact J)),h1,V,W,h4,(X.trans Fx.ic),Fx.ic,rO,uT,qM,tQ,yV,uU,yX,BA,xC,tT,tV,xS,b10⟩ ?_;show((l.length:Int)-intOf (au ((i:Int)+1))).toNat<_;simp only[H,intOf]; omega
  refine Lv aH (nE J)<|aD<|aO<|ay<|av (au ((bG (m.R b) v.o (g 3)).2))<|av (.nilFunc)<|av (au ((bG (m.R b) v.o (g 3)).2))<|aD<|Wr<|sR<|bM<|sR<|qb<|bM<|sR<|aK (.tuple #[.nilFunc,au ((bG (m.R b) v.o (g 3)).2)]) ?_;have N:dz m (fun x=>bG x v.o (g 3)) l=(bG (m.R b) v.o (g 3)).2:=by unfold dz; rw[Aa M (by rw[K]; exact J) _ (by omega),K]
  exact⟨⟨.nilFunc,0,#[],by rw[N],rfl,fun e0=>L_ (N.symm.trans e0) (by first|decide|omega|assumption)⟩,S⟩
 refine Lv aG (gW c22 (hx:=H) (hy:=X))<|aD<|Ws<|aL<|Wx<|cu<|gJ<|cB<|sN<|ay<|Lv (.func (.func 187) #[] #[(pt y),(pt A)]) (Fx.ny (us := []) (vs := [(pt y),(pt A)]) rfl rfl (Fx.args2 W V))<|av (.func (.func 187) #[] #[(pt y),(pt A)])<|av (au 0)<|aD<|Wr<|aK (.tuple #[.func (.func 187) #[] #[(pt y),(pt A)],au 0]) ?_;have hil:i=l.length:=by omega
 rw[hil]at vW M;have hgm:m.rb≠d/\m.mb≠d/\m.pb≠d/\m.gb≠d/\m.ab≠d:=⟨by omega,by omega,by omega,by omega,by omega⟩;have N:dz m (fun x=>bG x v.o (g 3)) l=0:=M;exact⟨⟨_,187,#[(pt y),(pt A)],by rw[N],rfl,fun _=>⟨rfl,⟨_,_,Tryz.func187,rfl,rfl⟩,fun w2 G=>(KL m j B w2 ((h.up Q).up G) (fun x=>bG x v.o (g 3)) l d hgm (dK.nQ h.t.inv I) (vW.up G) _ _ (vV.cZ (Sb G) (t_ vV.lt)) (O.cZ (Sb G) (t_ O.lt))).mono fun _ _ Y=>⟨Y.1,Y.2.1,Y.2.2.mono fun _ hk => .inl hk⟩⟩⟩,Q⟩
section
set_option maxRecDepth 20000
set_option linter.unusedVariables false
namespace Rt
def A9(k1 k2:Nat->Int):Nat->Int->Int->Bool
 | 0,_,_=>false
 | n+1,a,b=>(decide (k1 n=a)&&decide (k2 n=b)) || A9 k1 k2 n a b
def wJ(k1 k2:Nat->Int):Nat->Int->Int->Nat
 | 0,_,_=>0
 | n+1,a,b=>if k1 n=a/\k2 n=b then n else wJ k1 k2 n a b
section
variable {k1 k2:Nat->Int} {a b:Int}
theorem kW : ∀ {n:Nat},A9 k1 k2 n a b=true <-> ∃ j,j<n/\k1 j=a/\k2 j=b
 | 0=>⟨fun h=>(nomatch h),fun⟨j,h,_⟩=>L_ h (u_ _)⟩
 | n+1=>by
   unfold A9;rw[Bool.or_eq_true,R_,O_,O_,kW];constructor
   ·rintro (⟨f,c⟩|⟨j,f,c,d⟩)
    ·exact⟨n,by omega,f,c⟩
    ·exact⟨j,by omega,c,d⟩
   ·rintro ⟨j,f,c,d⟩;by_cases e:j=n
    ·subst e; exact .inl ⟨c,d⟩
    ·exact .inr ⟨j,by omega,c,d⟩
theorem rR{n j:Nat}(e:j<n)(c:k1 j=a)(d:k2 j=b):A9 k1 k2 n a b=true:=kW.2 ⟨j,e,c,d⟩
theorem oQ{n:Nat}(h : ∀ i,i<n -> ¬ (k1 i=a/\k2 i=b)):A9 k1 k2 n a b=false:=by
 cases e:A9 k1 k2 n a b with
 | false=>rfl
 | true=>obtain⟨j,f,c,d⟩:=kW.1 e; exact L_ ⟨c,d⟩ (h j f)
theorem yJ{j:Nat} : ∀ {n:Nat},(∀ p q,p<n->q<n->k1 p=k1 q->k2 p=k2 q->p=q)->j<n->k1 j=a->k2 j=b->wJ k1 k2 n a b=j
 | 0,_,h,_,_=>L_ h (u_ _)
 | n+1,hi,hj,e1,e2=>by
   unfold wJ;by_cases c:k1 n=a/\k2 n=b
   ·rw[d_ c]; exact hi n j (by omega) hj (c.1.trans e1.symm) (c.2.trans e2.symm)
   ·rw[b_ c];refine yJ (fun p q d f=>hi p q (by omega) (by omega)) ?_ e1 e2;by_cases e:j=n
    ·subst e; exact L_ ⟨e1,e2⟩ c
    ·omega
end
theorem D8{v:EvM}(h:bO v=true)(a:gy v):Fx.Dh v.o v.req/\Fx.Dh v.o v.of:=by
 have d:=nP h;have b:=a.req;have c:=a.of;unfold kF at b c;exact⟨⟨by omega,by omega⟩,⟨by omega,by omega⟩⟩
theorem X4{w:World}{b k n:Nat}{g:Nat->Nat->Int}{o r:Int}{y:Nat->Value}(h:gX w b k (aM (fun i=>g i 0) n o) (aM (fun i=>g i 1) n r) (aM (tY g) n (.agg (aC 5 y))))(x:Nat->Int)(e0:x 0=o)(a:x 1=r)(d : ∀ j,j<5->y j=jf x j) :
 gX w b k (fun i=>aM g n x i 0) (fun i=>aM g n x i 1) (tY (aM g n x)):=h.uD fun i _=>by
 unfold aM tY;by_cases c:i=n
 ·subst c;refine⟨?_,?_,?_⟩
  ·show(if i=i then o else g i 0)=(if i=i then x else g i) 0;rw[d_ rfl,d_ rfl,e0]
  ·show(if i=i then r else g i 1)=(if i=i then x else g i) 1;rw[d_ rfl,d_ rfl,a]
  ·show(if i=i then Value.agg (aC 5 y)else _)=Value.agg (aC 5 (jf (if i=i then x else g i)));rw[d_ rfl,d_ rfl,Fx.eU d]
 ·refine⟨?_,?_,?_⟩
  ·show(if i=n then o else g i 0)=(if i=n then x else g i) 0;rw[b_ c,b_ c]
  ·show(if i=n then r else g i 1)=(if i=n then x else g i) 1;rw[b_ c,b_ c]
  ·show(if i=n then Value.agg (aC 5 y)else Value.agg (aC 5 (jf (g i))))=Value.agg (aC 5 (jf (if i=n then x else g i)));rw[b_ c,b_ c]
theorem X5{w:World}{b n j:Nat}{g:Nat->Nat->Int}{x:Nat->Int}(h:gX w b n (fun i=>g i 0) (fun i=>g i 1) (aM (tY g) j (.agg (aC 5 (jf x)))))(e0:x 0=g j 0)(a:x 1=g j 1) :
 gX w b n (fun i=>aM g j x i 0) (fun i=>aM g j x i 1) (tY (aM g j x)):=h.uD fun i _=>by
 unfold aM tY;show g i 0=(if i=j then x else g i) 0/\g i 1=(if i=j then x else g i) 1/\_=Value.agg (aC 5 (jf (if i=j then x else g i)));by_cases c:i=j
 ·subst c; rw[d_ rfl,d_ rfl]; exact⟨e0.symm,a.symm,rfl⟩
 ·rw[b_ c,b_ c]; exact⟨rfl,rfl,rfl⟩
theorem Oy{w:World}{b k n:Nat}{o r:Nat->Int}{x y:Int}(h:gX w b k (aM o n x) (aM r n y) (aM Dr n (.bool true))):gX w b k (aM o n x) (aM r n y) Dr:=h.uD fun i _=>⟨rfl,rfl,by unfold aM Dr; split <;> rfl⟩
theorem agz(x:Nat->Int)(r:Int):dA (jf x) 4 (aF r)=jf (upd x 4 r):=by
 funext p
 unfold dA;by_cases c:p=4
 ·subst c; rw[d_ rfl]; rfl
 rw[b_ c]; unfold jf upd;by_cases a:p=0
 ·rw[d_ a,d_ a]; rfl
 rw[b_ a,b_ a];by_cases b:p=3
 ·rw[d_ b,d_ b]; rfl
 rw[b_ b,b_ b,b_ c]
def FT(a b:Int):Nat->Value:=fun p=>if p=0 then au a else aF b
def U3(m:dP)(a:Nat->Nat->Int)(v:EvM):dP := { m with R:=a,an:=m.an+1,ao:=aM m.ao m.an v.o,ar:=aM m.ar m.an v.req,gn:=m.gn+1,g:=aM m.g m.gn (pY v) }
def Oz(m:dP)(a:Nat->Nat->Int)(v:EvM)(j:Nat):dP := { m with R:=a,an:=m.an+1,ao:=aM m.ao m.an v.o,ar:=aM m.ar m.an v.req,g:=aM m.g j (upd (m.g j) 4 v.req) }
structure Bw(w0 w:World):Prop where
 b:Below w0.heap.size w0 w
theorem Bw.up{a w w':World}(h:Bw a w)(c:Below w.heap.size w w'):Bw a w':=⟨Jg h.b c⟩
instance {a w w':World}:Rt.Tr w w' (Bw a w) (Bw a w'):=⟨fun b h=>h.up b⟩
end Rt
theorem ada{y:Nat->Value}{a b:Int}(c:y 0=au a)(h1:y 1=aF b){w:World}{g:Nat}(h:aS w g 2 y 113):aS w g 2 (FT a b) 113:=h.congr fun j d=>by
 rcases(show j=0\/j=1 by omega)with rfl|rfl
 ·exact c
 ·exact h1
structure LtT(gl gq ge b:Nat):Prop where
 gl:gl<b
 gq:gq<b
 ge:ge<b
structure LtF(gl gq ge gg go b:Nat):Prop where
 gl:gl<b
 gq:gq<b
 ge:ge<b
 gg:gg<b
 go:go<b
theorem U4(m:dP)(l B:Nat)(w:World)(h:lD w B l m)(v:EvM)(hv:bO v=true)(hwf:gy v)(I:Nat->Nat->Int)(D J G:Nat)(adb:J<=D)(cap:Array Value)(U:Uk w B l m { m with R:=I } D (.func (.func G) #[] cap) G cap)(S:Nat)(K:Nat)(M:Nat)(A:Nat)(Y:aS w S 1 (fun _ => .func (.func G) #[] cap) 107)(hl:aS w K 1 (fun _=>(pt l)) 37)(hq:aS w M 2 (FT v.o v.req) 113)(E:aS w A 14 (bS v) 32)(N:LtT K M A D)(hnz : ∀ i,i<m.an -> ¬ (m.ao i=v.o/\m.ar i=v.req))(hny : ∀ i,i<m.gn -> ¬ ((fun i=>m.g i 0) i=v.o/\(fun i=>m.g i 1) i=v.req)) :
 Calls Tryz.prog 177 #[(pt S),(pt K),(pt M),(pt A)] w fun e w'=>e = .returned (.tuple #[])/\lD w' B l (U3 m I v)/\jO (Uj m l J) w w':=by
 have hC:=h.c;have hT:=h.t;have hP:=h.p;have hR:=h.r;have hG:=h.g;have hA:=h.a;have d:=h.ne;have lC:=h.c.lt;have lT:=h.t.lt;have lP:=h.p.lt;have lR:=h.r.lt;have lG:=h.g.lt;have lA:=h.a.lt;have lgd:=Y.lt;have Zc:=hl.lt;have lgq:=hq.lt;have ZA:=E.lt;have Z:=D8 hv hwf;refine Kent Tryz.func177 25 ?_;refine ay<|Lv (.func (.func G) #[] cap) (aN Y.aI 0)<|Bc (by rfl) (Fx.Oh (args := []) rfl rfl rfl (by simp) U.f) rfl<|(U.s _ (Below.refl _ _)).mono ?_;rintro e9 z ⟨E,C,H⟩;refine⟨_,E,?_⟩;clear E;have V:=H.mono (S':=Uj m l J) fun k hk=>hk.imp id (m_ adb);have m1:aS z l 29 (vg m) 106:=C.c;have lm1:=m1.lt;have m2:rD z B m.tp m.mb m.T:=C.t;have lm2:=m2.lt;have m3:Mp z m.pb m.T.n m.T.x (Dq m.T):=C.p;have lm3:=m3.lt;have m4:Mp z m.rb m.T.n m.T.x (wG (I)):=C.r;have lm4:=m4.lt;have m5:gX z m.gb m.gn (fun i=>m.g i 0) (fun i=>m.g i 1) (tY m.g):=C.g;have lm5:=m5.lt;have m6:gX z m.ab m.an m.ao m.ar Dr:=C.a;have lm6:=m6.lt;have m7:=h.IW hl (by decide) H N.gl;have lm7:=m7.lt;have m8:=h.IW hq (by decide) H N.gq;have lm8:=m8.lt;have m9:=h.IW E (by decide) H N.ge;have lm9:=m9.lt;refine aD<|Ws ?_;refine jS [0,1,2,3,4,5] [4,0,0,4,4,3] [(5,0,[0]),(5,3,[3]),(5,4,[4])] fun qI W iF => ?_;have s1:Stp z.heap.size z qI:=Sb W;have⟨m10,m11,m12,m13,m14,m15,m16,m17,m18⟩:=Bn W m1 m2 m3 m4 m5 m6 m7 m8 m9;have D:=V.then s1 (.inr V.size);refine Rs (pt l) (aN m16.aI 0) ?_;refine bf (pt l)<|bf (pf l 28)<|Rs (.map (some m.ab)) (aN m10.aI 28) ?_;refine Rs (.agg (aC 2 (FT v.o v.req))) (gI m17.aI 0) ?_;refine gF<|Fx.L.Rl (by rfl) rfl rfl rfl ((show ev _ _ = .agg (aC 2 (FT v.o v.req))from rfl).trans (Fx.zn (y:=FT v.o v.req) (a:=v.o) (b:=v.req) rfl rfl)) Z.1 rfl m15 Tryz.underlying103 F8 hnz fun O m19 s2 z1 => ?_;have q:=m15.Bd s2;have m20:=m10.dQ q;have m21:=m11.dQ q (d.ma);have m22:=m12.dQ q (d.pa);have m23:=m13.dQ q (d.ra);have m24:=m14.dQ q (d.ga);have ni:=m16.dQ q;have nZ:=m17.dQ q;have oz:=m18.dQ q;have Q:=D.then s2 (.inl (.inl (.inr (.inr (.inr (.inr (.inr rfl)))))));have og:gX O m.ab (m.an+1) (aM m.ao m.an v.o) (aM m.ar m.an v.req) Dr:=Oy m19;refine Ln<|bR ?_;refine jS [5,7,9,11,0,1,2,3,4,6,8,10,12,13,14] [4,0,0,4,4,0,4,0,4,0,4,0,4,0,3] [(14,0,[0]),(14,3,[3]),(14,4,[4]),(14,6,[6]),(14,8,[8]),(14,10,[10]),(14,12,[12])] fun Cu X nH => ?_;have s3:Stp O.heap.size O Cu:=Sb X;have⟨oC,pE,mE,m32,qh,oN,pW,F,rW⟩:=Bn X m20 m21 m22 m23 m24 ni nZ oz og;have b3:=Q.then s3 (.inr Q.size);refine bf (pt A)<|bf (pf A 12)<|bf (pf A 9)<|bf (pf A 11)<|Rs (pt l) (aN oN.aI 0) ?_;refine bf (pt l)<|bf (pf l 27)<|Rs (.map (some m.gb)) (aN oC.aI 27) ?_;refine Rs (.agg (aC 2 (FT v.o v.req))) (gI pW.aI 0) ?_;refine Rs (au v.o) (aN F.aI 0) ?_;refine Rs (aF v.req) (aN F.aI 12) ?_;refine Rs (aF v.node) (aN F.aI 9) ?_;refine Rs (au v.aU) (aN F.aI 11) ?_;refine bf (.agg (aC 5 (bI (bI (bI (bI (fun P=>if P<1 then au 0 else if P<3 then aF 0 else if P<4 then au 0 else aF 0) 0 1 (fun _=>au v.o)) 1 1 (fun _=>aF v.req)) 2 1 (fun _=>aF v.node)) 3 1 (fun _=>au v.aU))))<|gF<|Fx.L.Rl (by rfl) rfl rfl rfl ((show ev _ _ = .agg (aC 2 (FT v.o v.req))from rfl).trans (Fx.zn (y:=FT v.o v.req) (a:=v.o) (b:=v.req) rfl rfl)) Z.1 rfl qh Tryz.underlying102 F8 hny fun w3 qy s4 z2 => ?_;have u:=qh.Bd s4;have pF:=oC.dQ u;have sj:=pE.dQ u (d.mg);have nk:=mE.dQ u (d.pg);have mV:=m32.dQ u (d.rg);have nu:=oN.dQ u;have rX:=pW.dQ u;have qK:=F.dQ u;have nU:=rW.dQ u (Ne.symm d.ga);have b4:=b3.then s4 (.inl (.inl (.inr (.inr (.inr (.inr (.inl rfl)))))));have ru:gX w3 m.gb (m.gn+1) (fun i=>aM m.g m.gn (pY v) i 0) (fun i=>aM m.g m.gn (pY v) i 1) (tY (aM m.g m.gn (pY v))):=X4 qy (pY v) rfl rfl (by intro j hj; rcases(show j=0\/j=1\/j=2\/j=3\/j=4 by omega)with rfl|rfl|rfl|rfl|rfl <;> rfl)
 refine Ln (Rn (⟨.tuple #[],iN Tryz.results177,?_⟩));unfold U3;exact⟨rfl,{ c:=pF,t:=sj,p:=nk,r:=mV,g:=ru,a:=nU,ne:=⟨d.mp,d.mr,d.mg,d.ma,d.pr,d.pg,d.pa,d.rg,d.ra,d.ga⟩,lB:=h.lB,pB:=h.pB,rB:=h.rB,gB:=h.gB,aB:=h.aB },b4⟩
theorem U5(m:dP)(l B:Nat)(w:World)(h:lD w B l m)(v:EvM)(hv:bO v=true)(hwf:gy v)(K:Nat->Nat->Int)(E H I:Nat)(adb:H<=E)(cap:Array Value)(S:Uk w B l m { m with R:=K } E (.func (.func I) #[] cap) I cap)(j:Nat)(Q:Nat)(M:Nat)(N:Nat)(J:Nat)(A:Nat)(go:Nat)(X:aS w Q 1 (fun _ => .func (.func I) #[] cap) 107)(hl:aS w M 1 (fun _=>(pt l)) 37)(hq:aS w N 2 (FT v.o v.req) 113)(F:aS w J 14 (bS v) 32)(Y:aS w A 5 (jf (m.g j)) 66)(hof:aS w go 2 (FT v.o v.of) 113)(hgg:H<=A)(G:LtF M N J A go E)(hnz : ∀ i,i<m.an -> ¬ (m.ao i=v.o/\m.ar i=v.req))(Z:j<m.gn)(ejy:(fun i=>m.g i 0) j=v.o)(fjy:(fun i=>m.g i 1) j=v.of) :
 Calls Tryz.prog 180 #[(pt Q),(pt M),(pt N),(pt J),(pt A),(pt go)] w fun e w'=>e = .returned (.tuple #[])/\lD w' B l (Oz m K v j)/\jO (Uj m l H) w w':=by
 have hC:=h.c;have hT:=h.t;have hP:=h.p;have hR:=h.r;have hG:=h.g;have hA:=h.a;have d:=h.ne;have lC:=h.c.lt;have lT:=h.t.lt;have lP:=h.p.lt;have lR:=h.r.lt;have lG:=h.g.lt;have lA:=h.a.lt;have lgd:=X.lt;have Zc:=hl.lt;have lgq:=hq.lt;have ZA:=F.lt;have lgg:=Y.lt;have lgo:=hof.lt;have aa:=D8 hv hwf;have auS:=Z;refine Kent Tryz.func180 22 ?_;refine ay<|Lv (.func (.func I) #[] cap) (aN X.aI 0)<|Bc (by rfl) (Fx.Oh (args := []) rfl rfl rfl (by simp) S.f) rfl<|(S.s _ (Below.refl _ _)).mono ?_;rintro e9 z ⟨F,D,C⟩;refine⟨_,F,?_⟩;clear F;have U:=C.mono (S':=Uj m l H) fun k hk=>hk.imp id (m_ adb);have m1:aS z l 29 (vg m) 106:=D.c;have lm1:=m1.lt;have m2:rD z B m.tp m.mb m.T:=D.t;have lm2:=m2.lt;have m3:Mp z m.pb m.T.n m.T.x (Dq m.T):=D.p;have lm3:=m3.lt;have m4:Mp z m.rb m.T.n m.T.x (wG (K)):=D.r;have lm4:=m4.lt;have m5:gX z m.gb m.gn (fun i=>m.g i 0) (fun i=>m.g i 1) (tY m.g):=D.g;have lm5:=m5.lt;have m6:gX z m.ab m.an m.ao m.ar Dr:=D.a;have lm6:=m6.lt;have m7:=h.IW hl (by decide) C G.gl;have lm7:=m7.lt;have m8:=h.IW hq (by decide) C G.gq;have lm8:=m8.lt;have m9:=h.IW F (by decide) C G.ge;have lm9:=m9.lt;have m10:=h.IW Y (by decide) C G.gg;have auT:=m10.lt;have m11:=h.IW hof (by decide) C G.go;have auU:=m11.lt;refine aD<|Ws ?_;refine jS [0,1,2,3,4,5] [4,0,0,4,4,3] [(5,0,[0]),(5,3,[3]),(5,4,[4])] fun qI V iF => ?_;have s1:Stp z.heap.size z qI:=Sb V;have⟨m12,m13,m14,m15,m16,m17,m18,m19,m20,m21,m22⟩:=Ej V m1 m2 m3 m4 m5 m6 m7 m8 m9 m10 m11;have E:=U.then s1 (.inr U.size);refine Rs (pt l) (aN m18.aI 0) ?_;refine bf (pt l)<|bf (pf l 28)<|Rs (.map (some m.ab)) (aN m12.aI 28) ?_;refine Rs (.agg (aC 2 (FT v.o v.req))) (gI m19.aI 0) ?_;refine gF<|Fx.L.Rl (by rfl) rfl rfl rfl ((show ev _ _ = .agg (aC 2 (FT v.o v.req))from rfl).trans (Fx.zn (y:=FT v.o v.req) (a:=v.o) (b:=v.req) rfl rfl)) aa.1 rfl m17 Tryz.underlying103 F8 hnz fun w2 m23 s2 z1 => ?_;have q:=m17.Bd s2;have m24:=m12.dQ q;have ni:=m13.dQ q (d.ma);have nZ:=m14.dQ q (d.pa);have oz:=m15.dQ q (d.ra);have og:=m16.dQ q (d.ga);have oC:=m18.dQ q;have pE:=m19.dQ q;have mE:=m20.dQ q;have m32:=m21.dQ q;have qh:=m22.dQ q;have b2:=E.then s2 (.inl (.inl (.inr (.inr (.inr (.inr (.inr rfl)))))));have oN:gX w2 m.ab (m.an+1) (aM m.ao m.an v.o) (aM m.ar m.an v.req) Dr:=Oy m23;refine Ln<|bR<|ay<|av (pf J 12)<|Lv (aF v.req) (aN mE.aI 12)<|av (pf A 4)<|jm m32 4 (aF v.req) fun O pW s3 z2 => ?_;have qx:aS O A 5 (jf (upd (m.g j) 4 v.req)) 66:=pW.to (agz _ _);have gK:=gY s3 m32.ty;have⟨rW,qy,pF,sj,nk,mV,nu,rX,qK,nU⟩:=Nw gK m24 ni nZ oz og oC pE mE qh oN;have P:=b2.then s3 (.inl (.inr hgg));refine aD ?_;refine jS [0,1,2,3,4,5,6] [4,0,0,4,4,4,3] [(6,0,[0]),(6,3,[3]),(6,4,[4]),(6,5,[5])] fun Cu W nH => ?_;have s4:Stp O.heap.size O Cu:=Sb W;have⟨ru,xq,su,sS,vw,uH,uh,uI,wR,tL,rY⟩:=Ej W rW qy pF sj nk mV nu rX qK nU qx;have b4:=P.then s4 (.inr P.size);refine Rs (pt l) (aN uH.aI 0) ?_;refine bf (pt l)<|bf (pf l 27)<|Rs (.map (some m.gb)) (aN ru.aI 27) ?_;refine Rs (.agg (aC 2 (FT v.o v.of))) (gI wR.aI 0) ?_;refine Rs (.agg (aC 5 (jf (upd (m.g j) 4 v.req)))) (gI rY.aI 0) ?_;refine gF<|Fx.L.aex (by rfl) rfl rfl rfl ((show ev _ _ = .agg (aC 2 (FT v.o v.of))from rfl).trans (Fx.zn (y:=FT v.o v.of) (a:=v.o) (b:=v.of) rfl rfl)) aa.2 rfl vw Tryz.underlying102 F8 Z ejy fjy fun w4 rz s5 z3 => ?_;have u:=vw.Bd s5;have wS:=ru.dQ u;have pG:=xq.dQ u (d.mg);have uJ:=su.dQ u (d.pg);have nS:=sS.dQ u (d.rg);have sw:=uH.dQ u;have m64:=uh.dQ u;have vV:=uI.dQ u;have vE:=wR.dQ u;have vW:=tL.dQ u (Ne.symm d.ga);have vX:=rY.dQ u;have b5:=b4.then s5 (.inl (.inl (.inr (.inr (.inr (.inr (.inl rfl)))))));have qz:gX w4 m.gb m.gn (fun i=>aM m.g j (upd (m.g j) 4 v.req) i 0) (fun i=>aM m.g j (upd (m.g j) 4 v.req) i 1) (tY (aM m.g j (upd (m.g j) 4 v.req))):=X5 rz rfl rfl;refine Ln (Rn (⟨.tuple #[],iN Tryz.results180,?_⟩));unfold Oz;exact⟨rfl,{ c:=wS,t:=pG,p:=uJ,r:=nS,g:=qz,a:=vW,ne:=⟨d.mp,d.mr,d.mg,d.ma,d.pr,d.pg,d.pa,d.rg,d.ra,d.ga⟩,lB:=h.lB,pB:=h.pB,rB:=h.rB,gB:=h.gB,aB:=h.aB },b5⟩
end
set_option maxRecDepth 20000
set_option linter.unusedVariables false
namespace Rt
def gL(m:dP)(o r:Int):Bool:=A9 m.ao m.ar m.an o r
def iD(m:dP)(o r:Int):Bool:=A9 (fun i=>m.g i 0) (fun i=>m.g i 1) m.gn o r
def eT(m:dP)(o r:Int):Nat:=wJ (fun i=>m.g i 0) (fun i=>m.g i 1) m.gn o r
noncomputable def U6(m:dP)(v:EvM):dP:=oK m (fun x=>bC x v.o v.aU) (m.T.path v.node)
def jM(m:dP)(v:EvM):Int:=if gL m v.o v.req=true then 14 else if m.T.has v.node=false then 9 else dz m (fun x=>bC x v.o v.aU) (m.T.path v.node)
noncomputable def kg(m:dP)(v:EvM):dP:=U3 m (U6 m v).R v
noncomputable def U7(m:dP)(v:EvM):dP:=oK m (fun x=>bG x v.o (m.g (eT m v.o v.of) 3)) (m.T.path (m.g (eT m v.o v.of) 2))
def jg(m:dP)(v:EvM):Int:=if gL m v.o v.req=true then 14 else if iD m v.o v.of=false\/m.g (eT m v.o v.of) 4≠0 then 12 else dz m (fun x=>bG x v.o (m.g (eT m v.o v.of) 3)) (m.T.path (m.g (eT m v.o v.of) 2))
noncomputable def iy(m:dP)(v:EvM):dP:=Oz m (U7 m v).R v (eT m v.o v.of)
def Qg(m:dP):Prop := ∀ i,i<m.gn->gL m (m.g i 0) (m.g i 1)=true
end Rt
theorem Fx.agA{f:Nat->Value}{x1 x2 e g h i:Operand}{v1 v2 a b c d:Value}(h1:ev f x1=v1)(j:ev f x2=v2)(k:ev f e=a)(l:ev f g=b)(m:ev f h=c)(n:ev f i=d) : [x1,x2,e,g,h,i].map (ev f) = [v1,v2,a,b,c,d]:=by rw[List.map_cons,h1,Fx.aen j k l m n]
theorem Uk.up{w w':World}{B d a b:Nat}{m e:dP}{c:Value}{cap:Array Value}(h:Uk w B d m e a c b cap)(f:Below w.heap.size w w'):Uk w' B d m e a c b cap := { h with s:=fun i g=>h.s i (Jg f g) }
instance {w w':World} {B e a c:Nat} {m f:dP} {d:Value} {cap:Array Value}:Rt.Tr w w' (Uk w B e m f a d c cap) (Uk w' B e m f a d c cap):=⟨fun b h=>h.up b⟩
theorem X6(m:dP)(d B:Nat)(w:World)(h:lD w B d m)(v:EvM)(M:bO v=true)(hwf:gy v)(hga:Qg m) :
 Calls Tryz.prog 164 #[(pt d),.agg (aC 14 (bS v))] w fun e w'=>QI w B d m (kg m v) (jM m v) e w':=by
 have hC:=h.c;have hT:=h.t;have hP:=h.p;have hR:=h.r;have hG:=h.g;have hA:=h.a;have hN:=h.ne;have lC:=h.c.lt;have lT:=h.t.lt;have lP:=h.p.lt;have lR:=h.r.lt;have lG:=h.g.lt;have lA:=h.a.lt;obtain⟨a,ha,ho⟩ : ∃ a:Nat,a<6/\v.o=(a:Int)+1:=fA (iL M);have hra:aP v=a:=by unfold aP; omega
 have hko:=D8 M hwf;have hvo:1<=v.o/\v.o<=6:=by omega
 refine Kent Tryz.func164 40 ?_;refine ay<|zH (pt d) fun C w1 mD N s1 z1 => ?_;have⟨m2,m3,m4,m5,m6,m7,V⟩:=jo s1.old hC hT hP hR hG hA (Below.refl w.heap.size w);have uG:=iE mD;have⟨nI,zB,wY,AZ,zx⟩:=Df mD hC.lt hP.lt hR.lt hG.lt hA.lt;have wO:=N.lt;refine rU fun f w2 yA D s2 z2 => ?_;have⟨m9,m10,m11,m12,m13,m14,m15,W⟩:=lu s2.old m2 m3 m4 m5 m6 m7 N V;have sG:=jI yA V.size;have⟨Oq,Fb,Fe,zZ,Fg,Br⟩:=Ii yA m2.lt m4.lt m5.lt m6.lt m7.lt N.lt;have Bg:=D.lt;refine av (.nilFunc)<|av (au 0)<|aD<|ay<|av (pt f)<|Lv (au v.o) (aN D.aI 0)<|av (pf f 12)<|Lv (aF v.req) (aN D.aI 12)<|av (.agg (aC 2 (bI (bI (fun q=>if q<1 then au 0 else aF 0) 0 1 (fun _=>au v.o)) 1 1 (fun _=>aF v.req))))<|xg 2 (fun q=>if q<1 then au 0 else aF 0) fun l w3 zN O s3 z3 => ?_;have⟨m17,m18,m19,m20,m21,m22,m23,m24,X⟩:=Bn s3.old m9 m10 m11 m12 m13 m14 m15 D W;have Eo:=jI zN W.size;have⟨ade,acU,anM,UZ,acV,U0,U1⟩:=LU zN m9.lt m11.lt m12.lt m13.lt m14.lt m15.lt D.lt;have Ma:=O.lt;refine fH O 0 (h1:=(bV (bV (fun jq _=>by show((fun q=>if q<1 then au 0 else aF 0:Nat->Value) jq).oneCell'=true; simp only[]; repeat (first|rfl|split)) (fun _ _=>rfl)) (fun _ _=>rfl))) fun w4 ni s4 z4 => ?_
 have nZ:aS w4 l 2 (bI (bI (fun q=>if q<1 then au 0 else aF 0) 0 1 (fun _=>au v.o)) 1 1 (fun _=>aF v.req)) 113:=aW ni;have oz:aS w4 l 2 (FT v.o v.req) 113:=ada (Fx.Am (by omega) (Fx.qc (j:=0) (by omega) (by omega) rfl)) (Fx.qc (j:=0) (by omega) (by omega) rfl) nZ;have gK:=gY s4 O.ty;have⟨og,oC,pE,mE,m32,qh,oN,pW⟩:=aap gK m17 m18 m19 m20 m21 m22 m23 m24;have b4:=s4.below X X.size (by omega);refine aD<|Ws<|Ws ?_;refine jS [0,1,2,3,4,5] [4,0,0,4,4,4] [] fun qI dY iF => ?_;have⟨qx,rW,qy,pF,sj,P,mV,nu,rX,Y⟩:=uz dY og oC pE mE m32 qh oN pW oz b4;refine Rs (pt d) (aN mV.aI 0) ?_;refine bf (pt d)<|bf (pf d 28)<|Rs (.map (some m.ab)) (aN qx.aI 28) ?_;refine Rs (.agg (aC 2 (FT v.o v.req))) (gI rX.aI 0) ?_
 rcases Fx.xO m.ao m.ar m.an v.o v.req with ⟨UL,CO,CP,KM⟩|jk
 ·refine Rs aH (Fx.JI (z := .bool false) rfl rfl ((show ev _ _ = .agg (aC 2 (FT v.o v.req))from rfl).trans (Fx.zn (y:=FT v.o v.req) (a:=v.o) (b:=v.req) rfl rfl)) hko.1 P Tryz.underlying103 F8 (by rfl) CO CP KM rfl) ?_;refine bR<|aO<|ay<|av (.nilFunc)<|av (au 14)<|aD<|Wr<|sR<|aK (.tuple #[.nilFunc,au 14]) ?_;have k:jM m v=14:=by unfold jM; exact d_ (rR CO CP KM)
  exact⟨⟨.nilFunc,0,#[],by rw[k],rfl,fun A=>L_ (k.symm.trans A) (by first|decide|omega|assumption)⟩,Y⟩
 refine Rs aG (Fx.JH (z := .bool false) rfl rfl ((show ev _ _ = .agg (aC 2 (FT v.o v.req))from rfl).trans (Fx.zn (y:=FT v.o v.req) (a:=v.o) (b:=v.req) rfl rfl)) hko.1 P Tryz.underlying103 F8 (by rfl) jk) ?_;refine bR<|aL<|Wk<|sN<|Ws<|Ws ?_;refine jS [4,0,1,2,3,5,6,7] [4,0,0,4,0,4,3,0] [(6,0,[3,2,1,0]),(6,3,[3]),(6,5,[5]),(7,6,[6])] fun Cu fV nH => ?_;have⟨qK,nU,ru,xq,su,sS,Q,G,uh,I⟩:=uz fV qx rW qy pF sj P mV nu rX Y;refine bf (pf f 9)<|Rs (pt d) (aN Q.aI 0) ?_;refine bf (pt d)<|bf (pf d 18)<|Rs (pt m.tp) (aN qK.aI 18) ?_;refine Rs (aF v.node) (aN G.aI 9) ?_;refine gF ?_;by_cases s:(dK.has m.T v.node)=true
 ·refine lU (Zq v.node nU) aH (by rw[s])<|Ln<|bf aG<|bR<|aL<|Wk<|sN<|ay<|Lv (pt d) (aN Q.aI 0)<|av (pf f 9)<|Lv (aF v.node) (aN G.aI 9)<|Lv (.func (.func 175) #[] #[(pt f)]) (Fx.ny (us := []) (vs := [(pt f)]) rfl rfl rfl)<|lS (UY m d B _ (h.up I) v.node v hvo f G) ?_;rintro e9 H ⟨⟨F,fi1,Pg,he,ho1,hD1⟩,hb1⟩;refine⟨_,he,?_⟩;clear he;have⟨uI,tL,rY,rz,wS,pG,uJ,nS,Z⟩:=Bn hb1 qK ru xq su sS Q G uh I;have bw1:Bw H H:=⟨Below.refl _ _⟩;refine av (.tuple #[F,au (dz m (fun x=>bC x v.o v.aU) (m.T.path (v.node)))])<|av (F)<|av (au (dz m (fun x=>bC x v.o v.aU) (m.T.path (v.node))))<|xg 1 (fun _ => .nilFunc) fun n w6 K S s8 z5 => ?_;have⟨sD,sU,sF,sV,b8⟩:=vP s8.old pG uJ nS bw1 Z;have VZ:=jI K Z.size;have⟨anN,acs,acu,acv,acw,acy,anO,acz⟩:=Wz K uI.lt tL.lt rY.lt rz.lt wS.lt pG.lt uJ.lt nS.lt;have TP:=S.lt;have kg4:H.heap.size<=n:=by rw[K]; exact bw1.b.size
  refine jm S 0 F (h1:=ho1) fun w7 xu U z6 => ?_;have uK:aS w7 n 1 (fun _=>F) 107:=dM xu;have jV:=gY U S.ty;have⟨wW,yR,xA⟩:=FW jV sD sU sF;have zu:=(⟨U.below sV.b sV.b.size kg4⟩:Bw H _);have J:=U.below b8 b8.size (by omega);refine av (au (dz m (fun x=>bC x v.o v.aU) (m.T.path (v.node))))<|aD<|Ws<|ay<|av (au (dz m (fun x=>bC x v.o v.aU) (m.T.path (v.node)))) ?_;by_cases E:(dz m (fun x=>bC x v.o v.aU) (m.T.path (v.node)))=0
  ·refine Lv aG (kr E)<|aD<|aL<|Wk<|sN<|ay<|Lv (.func (.func 177) #[] #[(pt n),(pt C),(pt l),(pt f)]) (Fx.ny (us := []) (vs := [(pt n),(pt C),(pt l),(pt f)]) rfl rfl rfl)<|av (.func (.func 177) #[] #[(pt n),(pt C),(pt l),(pt f)])<|av (au 0)<|aD<|Wr<|aK (.tuple #[.func (.func 177) #[] #[(pt n),(pt C),(pt l),(pt f)],au 0]) ?_;have hD0:=hD1 E;have hfe:=hD0.e;subst hfe;have b01:w.heap.size<=Cu.heap.size:=(by omega);have k:jM m v=0:=(by unfold jM; rw[b_ (show ¬ gL m v.o v.req=true by unfold gL; rw[oQ jk]; decide)]; rw[b_ (by rw[s]; decide)]; exact E);exact⟨⟨_,177,#[(pt n),(pt C),(pt l),(pt f)],by rw[k],rfl,fun _=>⟨rfl,⟨_,_,Tryz.func177,rfl,rfl⟩,fun w2 u=>(U4 m d B w2 ((h.up J).up u) v M hwf (U6 m v).R Cu.heap.size w.heap.size _ (by omega) _ (hD0.up (Jg zu.b u)) _ _ _ _ (uK.cZ (Sb u) (t_ uK.lt)) (wW.cZ (Sb u) (t_ wW.lt)) (xA.cZ (Sb u) (t_ xA.lt)) (yR.cZ (Sb u) (t_ yR.lt)) ⟨by omega,by omega,by omega⟩ jk (fun i hi e=>by have q9:=hga i hi; obtain⟨j9,hj9,e9,f9⟩:=kW.1 q9; exact jk j9 hj9 ⟨e9.trans e.1,f9.trans e.2⟩)).mono fun _ _ L=>⟨L.1,L.2.1,L.2.2.mono fun _ hk=>hk⟩⟩⟩,J⟩
  refine Lv aH (nE E)<|aD<|aO<|ay<|av (au (dz m (fun x=>bC x v.o v.aU) (m.T.path (v.node))))<|av (.nilFunc)<|av (au (dz m (fun x=>bC x v.o v.aU) (m.T.path (v.node))))<|aD<|Wr<|sR<|aK (.tuple #[.nilFunc,au (dz m (fun x=>bC x v.o v.aU) (m.T.path (v.node)))]) ?_;have k:jM m v=dz m (fun x=>bC x v.o v.aU) (m.T.path (v.node)):=by unfold jM; rw[b_ (show ¬ gL m v.o v.req=true by unfold gL; rw[oQ jk]; decide)]; rw[b_ (by rw[s]; decide)]
  exact⟨⟨.nilFunc,0,#[],by rw[k],rfl,fun A=>L_ (k.symm.trans A) (by first|decide|omega|assumption)⟩,J⟩
 rw[S_]at s;refine lU (Zq v.node nU) aG (by rw[s])<|Ln<|bf aH<|bR<|aO<|ay<|av (.nilFunc)<|av (au 9)<|aD<|Wr<|sR<|aK (.tuple #[.nilFunc,au 9]) ?_;have k:jM m v=9:=by unfold jM; rw[b_ (show ¬ gL m v.o v.req=true by unfold gL; rw[oQ jk]; decide)]; exact d_ s
 exact⟨⟨.nilFunc,0,#[],by rw[k],rfl,fun A=>L_ (k.symm.trans A) (by first|decide|omega|assumption)⟩,I⟩
theorem X7(m:dP)(A B:Nat)(w:World)(h:lD w B A m)(v:EvM)(hv:bO v=true)(hwf:gy v) :
 Calls Tryz.prog 165 #[(pt A),.agg (aC 14 (bS v))] w fun e w'=>QI w B A m (iy m v) (jg m v) e w':=by
 have hC:=h.c;have hT:=h.t;have hP:=h.p;have hR:=h.r;have hG:=h.g;have hA:=h.a;have hN:=h.ne;have lC:=h.c.lt;have lT:=h.t.lt;have lP:=h.p.lt;have lR:=h.r.lt;have lG:=h.g.lt;have lA:=h.a.lt;obtain⟨a,ha,ho⟩ : ∃ a:Nat,a<6/\v.o=(a:Int)+1:=fA (iL hv);have hra:aP v=a:=by unfold aP; omega
 have ac:=D8 hv hwf;have hvo:1<=v.o/\v.o<=6:=by omega
 refine Kent Tryz.func165 56 ?_;refine ay<|zH (pt A) fun K w1 mD m1 s1 z1 => ?_;have⟨m2,m4,m5,m6,m7,b1⟩:=uy s1.old hC hP hR hG hA (Below.refl w.heap.size w);have uG:=iE mD;have⟨nI,zB,wY,AZ,zx⟩:=Df mD hC.lt hP.lt hR.lt hG.lt hA.lt;have wO:=m1.lt;refine rU fun n w2 yA E s2 z2 => ?_;have⟨m9,m11,m12,m13,m14,m15,b2⟩:=jo s2.old m2 m4 m5 m6 m7 m1 b1;have sG:=jI yA b1.size;have⟨Oq,Fb,Fe,zZ,Fg,Br⟩:=Ii yA m2.lt m4.lt m5.lt m6.lt m7.lt m1.lt;have Bg:=E.lt;refine av (.nilFunc)<|av (au 0)<|aD<|Ws ?_;refine I4 (T1:=113) (T2:=113) (T1':=113) (T2':=113) (a1 := .tmp 6) (v1 := .tmp 16) (a2 := .tmp 7) (v2 := .tmp 21) (m1:=2) (m2:=2) (z1:=fun d=>if d<1 then au 0 else aF 0) (y1:=bI (bI (fun d=>if d<1 then au 0 else aF 0) 0 1 (fun _=>au v.o)) 1 1 (fun _=>aF v.req)) (z2:=fun d=>if d<1 then au 0 else aF 0) (y2:=bI (bI (fun d=>if d<1 then au 0 else aF 0) 0 1 (fun _=>au v.o)) 1 1 (fun _=>aF v.of)) (u1 := .agg (aC 2 (bI (bI (fun d=>if d<1 then au 0 else aF 0) 0 1 (fun _=>au v.o)) 1 1 (fun _=>aF v.req)))) (u2 := .agg (aC 2 (bI (bI (fun d=>if d<1 then au 0 else aF 0) 0 1 (fun _=>au v.o)) 1 1 (fun _=>aF v.of)))) 10 11 12 13 [[],[],[],[],[],[],[],[],[],[],[],[],[(0,[10]),(1,[11])],[(0,[10]),(1,[11]),(2,[12])]] [[(2,[0]),(3,[0])],[(2,[1]),(3,[1])],[(2,[2]),(3,[2])],[(2,[3]),(3,[3])],[(2,[4]),(3,[4])],[(3,[5])],[(3,[6])],[(3,[7])],[(3,[8])],[(3,[9])],[(2,[10]),(3,[10])],[(2,[11]),(3,[11])],[(3,[12])],[]] #[(pt n),au v.o,(pf n 12),aF v.req,.agg (aC 2 (bI (bI (fun d=>if d<1 then au 0 else aF 0) 0 1 (fun _=>au v.o)) 1 1 (fun _=>aF v.req))),(pt n),au v.o,(pf n 13),aF v.of,.agg (aC 2 (bI (bI (fun d=>if d<1 then au 0 else aF 0) 0 1 (fun _=>au v.o)) 1 1 (fun _=>aF v.of))),undef,undef,undef,undef] (by kernel_rfl) (by kernel_rfl) (by kernel_rfl) (by kernel_rfl) (by kernel_rfl) (by kernel_rfl) (by kernel_rfl) (by kernel_rfl) (by kernel_rfl) (by kernel_rfl) rfl rfl (by kernel_rfl) (by kernel_rfl) rfl rfl rfl rfl (by kernel_rfl) (by kernel_rfl) (fun k l=>(show ev _ (.tmp 6)=(pt k)from by kernel_rfl)) (fun k l=>(show ev _ (.tmp 7)=(pt l)from by kernel_rfl)) (fun k l=>(show ev _ (.tmp 16) = .agg (aC 2 (bI (bI (fun d=>if d<1 then au 0 else aF 0) 0 1 (fun _=>au v.o)) 1 1 (fun _=>aF v.req)))from by kernel_rfl)) (fun k l=>(show ev _ (.tmp 21) = .agg (aC 2 (bI (bI (fun d=>if d<1 then au 0 else aF 0) 0 1 (fun _=>au v.o)) 1 1 (fun _=>aF v.of)))from by kernel_rfl)) (bJ _ _) (bJ _ _) (bV (bV (fun jq _=>by show((fun d=>if d<1 then au 0 else aF 0:Nat->Value) jq).oneCell'=true; simp only[]; repeat (first|rfl|split)) (fun _ _=>rfl)) (fun _ _=>rfl)) (bV (bV (fun jq _=>by show((fun d=>if d<1 then au 0 else aF 0:Nat->Value) jq).oneCell'=true; simp only[]; repeat (first|rfl|split)) (fun _ _=>rfl)) (fun _ _=>rfl)) (fun k l => ?_) ?_
 ·refine⟨?_,?_,?_,?_,?_,?_,?_,?_,?_,?_,?_,?_,?_,?_,trivial⟩
  ·exact .inr pV
  ·exact .inr (rZ (au v.o) fun G u=>bD (x:=bS v) rfl (show ev _ (.tmp 12)=(pt n)from by kernel_rfl) (by kernel_rfl) (E.aI.below u (by have:=E.lt; omega)) (i:=0) (by omega) (by omega) rfl)
  ·exact .inr pV
  ·exact .inr (rZ (aF v.req) fun G u=>bD (x:=bS v) rfl (show ev _ (.tmp 14)=(pf n 12)from by kernel_rfl) (by kernel_rfl) (E.aI.below u (by have:=E.lt; omega)) (i:=12) (by omega) (by omega) rfl)
  ·exact .inr (rZ (.agg (aC 2 (bI (bI (fun d=>if d<1 then au 0 else aF 0) 0 1 (fun _=>au v.o)) 1 1 (fun _=>aF v.req)))) fun G u=>fU (vs := [(0,au v.o),(1,aF v.req)]) (places := #[(0,1),(1,1)]) (m:=2) (x:=fun d=>if d<1 then au 0 else aF 0) rfl (Fx.LK (show ev _ (.tmp 13)=au v.o from by kernel_rfl) (show ev _ (.tmp 15)=aF v.req from by kernel_rfl)) Tryz.underlying113 (by kernel_rfl) (by kernel_rfl) (by rw[bF (off:=0) (s:=1) (y:=fun _=>au v.o) (by kernel_rfl) (cells_one (by rfl)) (by rfl)]; rw[bF (off:=1) (s:=1) (y:=fun _=>aF v.req) (by kernel_rfl) (cells_one (by rfl)) (by rfl)]; rfl))
  ·exact .inr pV
  ·exact .inr (rZ (au v.o) fun G u=>bD (x:=bS v) rfl (show ev _ (.tmp 17)=(pt n)from by kernel_rfl) (by kernel_rfl) (E.aI.below u (by have:=E.lt; omega)) (i:=0) (by omega) (by omega) rfl)
  ·exact .inr pV
  ·exact .inr (rZ (aF v.of) fun G u=>bD (x:=bS v) rfl (show ev _ (.tmp 19)=(pf n 13)from by kernel_rfl) (by kernel_rfl) (E.aI.below u (by have:=E.lt; omega)) (i:=13) (by omega) (by omega) rfl)
  ·exact .inr (rZ (.agg (aC 2 (bI (bI (fun d=>if d<1 then au 0 else aF 0) 0 1 (fun _=>au v.o)) 1 1 (fun _=>aF v.of)))) fun G u=>fU (vs := [(0,au v.o),(1,aF v.of)]) (places := #[(0,1),(1,1)]) (m:=2) (x:=fun d=>if d<1 then au 0 else aF 0) rfl (Fx.LK (show ev _ (.tmp 18)=au v.o from by kernel_rfl) (show ev _ (.tmp 20)=aF v.of from by kernel_rfl)) Tryz.underlying113 (by kernel_rfl) (by kernel_rfl) (by rw[bF (off:=0) (s:=1) (y:=fun _=>au v.o) (by kernel_rfl) (cells_one (by rfl)) (by rfl)]; rw[bF (off:=1) (s:=1) (y:=fun _=>aF v.of) (by kernel_rfl) (cells_one (by rfl)) (by rfl)]; rfl))
  ·exact .inl rfl
  ·exact .inl rfl
  ·exact .inl rfl
  exact .inl rfl
 rintro k l w3 S P H I ne1 m16 m17 hb1;have agd:A≠k:=t_ (n_ (m9.lt) H);have adf:m.pb≠k:=t_ (n_ (m11.lt) H);have adg:m.rb≠k:=t_ (n_ (m12.lt) H);have anP:m.gb≠k:=t_ (n_ (m13.lt) H);have adh:m.ab≠k:=t_ (n_ (m14.lt) H);have anQ:K≠k:=t_ (n_ (m15.lt) H);have agc:n≠k:=t_ (n_ (E.lt) H);have aqX:A≠l:=t_ (n_ (m9.lt) I);have anR:m.pb≠l:=t_ (n_ (m11.lt) I);have anS:m.rb≠l:=t_ (n_ (m12.lt) I);have anT:m.gb≠l:=t_ (n_ (m13.lt) I);have adi:m.ab≠l:=t_ (n_ (m14.lt) I);have adj:K≠l:=t_ (n_ (m15.lt) I);have aqY:n≠l:=t_ (n_ (E.lt) I);have⟨m18,m20,m21,m22,m23,m24,ni,b3⟩:=lu hb1 m9 m11 m12 m13 m14 m15 E b2;have H:w.heap.size<=k:=m_ b2.size H;have Ma:=m16.lt;have I:w.heap.size<=l:=m_ b2.size I;have TP:=m17.lt;have q1:S 2=(pt K):=by rw[P]; kernel_rfl
 have q2:S 3=(pt n):=by rw[P]; kernel_rfl
 have q3:S 4 = .nilFunc:=by rw[P]; kernel_rfl
 have q4:S 5=au 0:=by rw[P]; kernel_rfl
 have q5:S 6=(pt k):=by rw[P]; kernel_rfl
 have q6:S 7=(pt l):=by rw[P]; kernel_rfl
 clear P;refine sN<|Ws<|Ws ?_;refine jS [0,1,2,3,4,5] [4,0,0,4,4,4] [] fun qI dY iF => ?_;have⟨nZ,og,oC,pE,mE,m32,qh,oN,pW,b4⟩:=uz dY m18 m20 m21 m22 m23 m24 ni m16 m17 b3;refine Rs (pt A) (aN m32.aI 0 (ha:=q1)) ?_;refine bf (pt A)<|bf (pf A 28)<|Rs (.map (some m.ab)) (aN nZ.aI 28) ?_;refine Rs (.agg (aC 2 (bI (bI (fun d=>if d<1 then au 0 else aF 0) 0 1 (fun _=>au v.o)) 1 1 (fun _=>aF v.req)))) (gI oN.aI 0 (ha:=q5)) ?_
 rcases Fx.xO m.ao m.ar m.an v.o v.req with ⟨UL,CO,CP,KM⟩|jk
 ·refine Rs aH (Fx.JI (z := .bool false) rfl rfl ((show ev _ _ = .agg (aC 2 (bI (bI (fun d=>if d<1 then au 0 else aF 0) 0 1 (fun _=>au v.o)) 1 1 (fun _=>aF v.req)))from rfl).trans (Fx.zn (y:=bI (bI (fun d=>if d<1 then au 0 else aF 0) 0 1 (fun _=>au v.o)) 1 1 (fun _=>aF v.req)) (a:=v.o) (b:=v.req) (Fx.Am (by omega) (Fx.qc (j:=0) (by omega) (by omega) rfl)) (Fx.qc (j:=0) (by omega) (by omega) rfl))) ac.1 mE Tryz.underlying103 F8 (by rfl) CO CP KM rfl) ?_;refine bR<|aO<|ay<|av (.nilFunc)<|av (au 14)<|aD<|Wr<|sR<|aK (.tuple #[.nilFunc,au 14]) ?_;have C:jg m v=14:=by unfold jg; exact d_ (rR CO CP KM)
  exact⟨⟨.nilFunc,0,#[],by rw[C],rfl,fun L=>L_ (C.symm.trans L) (by first|decide|omega|assumption)⟩,b4⟩
 refine Rs aG (Fx.JH (z := .bool false) rfl rfl ((show ev _ _ = .agg (aC 2 (bI (bI (fun d=>if d<1 then au 0 else aF 0) 0 1 (fun _=>au v.o)) 1 1 (fun _=>aF v.req)))from rfl).trans (Fx.zn (y:=bI (bI (fun d=>if d<1 then au 0 else aF 0) 0 1 (fun _=>au v.o)) 1 1 (fun _=>aF v.req)) (a:=v.o) (b:=v.req) (Fx.Am (by omega) (Fx.qc (j:=0) (by omega) (by omega) rfl)) (Fx.qc (j:=0) (by omega) (by omega) rfl))) ac.1 mE Tryz.underlying103 F8 (by rfl) jk) ?_;refine bR<|aL<|Wk<|sN<|Ws ?_;refine jS [0,1,2,3,4,5,6,7,8,9,10,11] [1,0,0,1,1,1,0,0,0,2,3,0] [(10,0,[0]),(10,3,[3]),(10,4,[4]),(10,5,[5]),(10,9,[9]),(11,9,[9]),(11,10,[10])] fun Cu fV nH => ?_;have⟨U,qy,pF,V,nk,W,nu,rX,X,Y⟩:=uz fV nZ og oC pE mE m32 qh oN pW b4;refine Rd (v:=(pt A)) (by rfl) (by rfl) (uq _) (fun G u=>bD (x:=fun _=>(pt A)) rfl q1 (by kernel_rfl) (W.aI.below u (by have:=W.lt; omega)) (i:=0) (by omega) (by omega) rfl) ?_;refine bf (pt A)<|bf (pf A 27)<|Rd (v := .map (some m.gb)) (by rfl) (by rfl) (uq _) (fun G u=>bD (x:=vg m) rfl rfl (by kernel_rfl) (U.aI.below u (by have:=U.lt; omega)) (i:=27) (by omega) (by omega) rfl) ?_;refine Rd (v := .agg (aC 2 (bI (bI (fun d=>if d<1 then au 0 else aF 0) 0 1 (fun _=>au v.o)) 1 1 (fun _=>aF v.of)))) (by rfl) (by rfl) (uq _) (fun G u=>eX (x:=bI (bI (fun d=>if d<1 then au 0 else aF 0) 0 1 (fun _=>au v.o)) 1 1 (fun _=>aF v.of)) (y:=bI (bI (fun d=>if d<1 then au 0 else aF 0) 0 1 (fun _=>au v.o)) 1 1 (fun _=>aF v.of)) rfl q6 (by kernel_rfl) (by kernel_rfl) (X.aI.below u (by have:=X.lt; omega)) (i:=0) (by omega) (by omega) (fun j _=>by rw[E_])) ?_
 rcases Fx.xO (fun i=>m.g i 0) (fun i=>m.g i 1) m.gn v.o v.of with ⟨f,Q,M,N⟩|ZH
 ·refine Rd (v := .tuple #[.agg (aC 5 (jf (m.g f))),.bool true]) (by rfl) (by rfl) (uq _) (fun G u=>Fx.O9 (z := .agg (aC 5 (fun d=>if d<1 then au 0 else if d<3 then aF 0 else if d<4 then au 0 else aF 0))) rfl rfl ((show ev _ _ = .agg (aC 2 (bI (bI (fun d=>if d<1 then au 0 else aF 0) 0 1 (fun _=>au v.o)) 1 1 (fun _=>aF v.of)))from rfl).trans (Fx.zn (y:=bI (bI (fun d=>if d<1 then au 0 else aF 0) 0 1 (fun _=>au v.o)) 1 1 (fun _=>aF v.of)) (a:=v.o) (b:=v.of) (Fx.Am (by omega) (Fx.qc (j:=0) (by omega) (by omega) rfl)) (Fx.qc (j:=0) (by omega) (by omega) rfl))) ac.2 (V.up u) Tryz.underlying102 F8 (by kernel_rfl) Q M N rfl) ?_;refine bf (.tuple #[.agg (aC 5 (jf (m.g f))),.bool true])<|bf (.agg (aC 5 (jf (m.g f))))<|bf aH<|Ct<|xg 5 (fun d=>if d<1 then au 0 else if d<3 then aF 0 else if d<4 then au 0 else aF 0) fun D w4 eg5 nU s6 z3 => ?_;have⟨ru,su,sS,vw,uH,uh,uI,wR,tL,b6⟩:=uz s6.old U qy pF V nk W nu rX X Y;have lg5:=jI eg5 Y.size;have⟨anU,anV,anW,anX,anY,anZ,aoa,aob,aoc⟩:=WA eg5 U.lt qy.lt pF.lt V.lt nk.lt W.lt nu.lt rX.lt X.lt;have tg5:=nU.lt;refine Ln ⟨s6.old,?_⟩;refine gF<|fH nU 0 (h1:=(fun j hj=>by rcases j with _|_|_|_|_|_|_|_|_|_|_|_|_|_|j <;> first|rfl|omega)) fun w5 rY s7 z4 => ?_
  have rz:aS w5 D 5 (jf (m.g f)) 66:=aW rY;have ad:aS w5 D 5 (jf (m.g f)) 66:=rz;have gK:=gY s7 nU.ty;have⟨pG,nS,sw,m64,vV,vE,vW,vX,qz⟩:=aaq gK ru su sS vw uH uh uI wR tL;have b7:=s7.below b6 b6.size (by omega);refine Ln<|bf aH<|bR<|Ws<|ay<|av aH<|av aG<|av aG<|av (pf D 4)<|Lv (aF ((m.g f) 4)) (aN ad.aI 4) ?_;by_cases RN:((m.g f) 4)=0
  ·refine Lv aG (kr RN)<|av aG<|aD<|aL<|Wk<|sN<|ay<|Lv (pt A) (aN vE.aI 0 (ha:=q1))<|av (pf D 2)<|Lv (aF ((m.g f) 2)) (aN ad.aI 2)<|Lv (.func (.func 178) #[] #[(pt n),(pt D)]) (Fx.ny (us := []) (vs := [(pt n),(pt D)]) rfl rfl (Fx.args2 q2 rfl))<|lS (U2 m A B _ (h.up b7) ((m.g f) 2) v (m.g f) hvo n D vW ad) ?_;rintro e9 w6 ⟨⟨aa,fi1,Pg,he,ho1,hD1⟩,F⟩;refine⟨_,he,?_⟩;clear he;have⟨sD,sF,sV,xu,uK,wT,wU,xw,wV,vY,b8⟩:=Ej F pG nS sw m64 vV vE vW vX qz ad b7;have bw1:Bw w6 w6:=⟨Below.refl _ _⟩;refine av (.tuple #[aa,au (dz m (fun x=>bG x v.o (m.g f 3)) (m.T.path ((m.g f) 2)))])<|av (aa)<|av (au (dz m (fun x=>bG x v.o (m.g f 3)) (m.T.path ((m.g f) 2))))<|xg 1 (fun _ => .nilFunc) fun O w7 eg6 uL s9 z5 => ?_;have⟨yS,yT,zM,Dm,Bz,AA,b9⟩:=jo s9.old wT wU xw wV vY bw1 b8;have lg6:=jI eg6 b8.size;have⟨aod,aoe,aof,aog,aoh,aoi,aoj,aok,aol,aom⟩:=Za eg6 sD.lt sF.lt sV.lt xu.lt uK.lt wT.lt wU.lt xw.lt wV.lt vY.lt;have tg6:=uL.lt;have kg6:w6.heap.size<=O:=(by rw[eg6]; exact bw1.b.size);refine jm uL 0 aa (h1:=ho1) fun w8 Bh s10 z6 => ?_;have yU:aS w8 O 1 (fun _=>aa) 107:=dM Bh;have jV:=gY s10 uL.ty;have⟨tO,rM,nV,nN,oH⟩:=qX jV yS yT zM Dm Bz;have nW:=(⟨s10.below AA.b AA.b.size kg6⟩:Bw w6 _);have b10:=s10.below b9 b9.size (by omega);refine av (au (dz m (fun x=>bG x v.o (m.g f 3)) (m.T.path ((m.g f) 2))))<|aD<|Ws<|ay<|av (au (dz m (fun x=>bG x v.o (m.g f 3)) (m.T.path ((m.g f) 2)))) ?_;by_cases Z:(dz m (fun x=>bG x v.o (m.g f 3)) (m.T.path ((m.g f) 2)))=0
   ·refine Lv aG (kr Z)<|aD<|aL<|Wk<|sN<|ay<|Lv (.func (.func 180) #[] #[(pt O),(pt K),(pt k),(pt n),(pt D),(pt l)]) (Fx.ny (us := []) (vs := [(pt O),(pt K),(pt k),(pt n),(pt D),(pt l)]) rfl rfl (Fx.agA rfl q1 q5 q2 rfl q6))<|av (.func (.func 180) #[] #[(pt O),(pt K),(pt k),(pt n),(pt D),(pt l)])<|av (au 0)<|aD<|Wr<|aK (.tuple #[.func (.func 180) #[] #[(pt O),(pt K),(pt k),(pt n),(pt D),(pt l)],au 0]) ?_;have J:eT m v.o v.of=f:=yJ h.g.inj Q M N;have hD0:=hD1 Z;have hfe:=hD0.e;subst hfe;have em:iy m v=Oz m (oK m (fun x=>bG x v.o (m.g f 3)) (m.T.path (m.g f 2))).R v f:=(by unfold iy U7; rw[J]);rw[em];have C:jg m v=0:=by unfold jg; rw[b_ (show ¬ gL m v.o v.req=true by unfold gL; rw[oQ jk]; decide)]; rw[b_ (show ¬ (iD m v.o v.of=false\/m.g (eT m v.o v.of) 4≠0) by rw[J,show iD m v.o v.of=true from rR Q M N]; rintro (q|q) <;> first|(exact L_ q (by decide))|omega),J]; exact Z
    exact⟨⟨_,180,#[(pt O),(pt K),(pt k),(pt n),(pt D),(pt l)],by rw[C],rfl,fun _=>⟨rfl,⟨_,_,Tryz.func180,rfl,rfl⟩,fun w2 F=>(U5 m A B w2 ((h.up b10).up F) v hv hwf _ w5.heap.size w.heap.size _ (by omega) _ (hD0.up (Jg nW.b F)) f _ _ _ _ _ _ (yU.cZ (Sb F) (t_ yU.lt)) (tO.cZ (Sb F) (t_ tO.lt)) (nV.cZ (Sb F) (t_ nV.lt)) (rM.cZ (Sb F) (t_ rM.lt)) (oH.cZ (Sb F) (t_ oH.lt)) (nN.cZ (Sb F) (t_ nN.lt)) lg5 ⟨by omega,by omega,by omega,by omega,by omega⟩ jk Q M N).mono fun _ _ hc=>⟨hc.1,hc.2.1,hc.2.2.mono fun _ hk=>hk⟩⟩⟩,b10⟩
   refine Lv aH (nE Z)<|aD<|aO<|ay<|av (au (dz m (fun x=>bG x v.o (m.g f 3)) (m.T.path ((m.g f) 2))))<|av (.nilFunc)<|av (au (dz m (fun x=>bG x v.o (m.g f 3)) (m.T.path ((m.g f) 2))))<|aD<|Wr<|sR<|aK (.tuple #[.nilFunc,au (dz m (fun x=>bG x v.o (m.g f 3)) (m.T.path ((m.g f) 2)))]) ?_;have J:eT m v.o v.of=f:=yJ h.g.inj Q M N;have C:jg m v=dz m (fun x=>bG x v.o (m.g f 3)) (m.T.path ((m.g f) 2)):=by unfold jg; rw[b_ (show ¬ gL m v.o v.req=true by unfold gL; rw[oQ jk]; decide)]; rw[b_ (show ¬ (iD m v.o v.of=false\/m.g (eT m v.o v.of) 4≠0) by rw[J,show iD m v.o v.of=true from rR Q M N]; rintro (q|q) <;> first|(exact L_ q (by decide))|omega),J]
   exact⟨⟨.nilFunc,0,#[],by rw[C],rfl,fun L=>L_ (C.symm.trans L) (by first|decide|omega|assumption)⟩,b10⟩
  refine Lv aH (nE RN)<|av aH<|aD<|aO<|ay<|av (.nilFunc)<|av (au 12)<|aD<|Wr<|sR<|aK (.tuple #[.nilFunc,au 12]) ?_;have J:eT m v.o v.of=f:=yJ h.g.inj Q M N;have C:jg m v=12:=by unfold jg; rw[b_ (show ¬ gL m v.o v.req=true by unfold gL; rw[oQ jk]; decide)]; exact d_ (.inr (by rw[J]; omega))
  exact⟨⟨.nilFunc,0,#[],by rw[C],rfl,fun L=>L_ (C.symm.trans L) (by first|decide|omega|assumption)⟩,b7⟩
 refine Rd (v := .tuple #[.agg (aC 5 (fun d=>if d<1 then au 0 else if d<3 then aF 0 else if d<4 then au 0 else aF 0)),.bool false]) (by rfl) (by rfl) (uq _) (fun G u=>Fx.O8 (z := .agg (aC 5 (fun d=>if d<1 then au 0 else if d<3 then aF 0 else if d<4 then au 0 else aF 0))) rfl rfl ((show ev _ _ = .agg (aC 2 (bI (bI (fun d=>if d<1 then au 0 else aF 0) 0 1 (fun _=>au v.o)) 1 1 (fun _=>aF v.of)))from rfl).trans (Fx.zn (y:=bI (bI (fun d=>if d<1 then au 0 else aF 0) 0 1 (fun _=>au v.o)) 1 1 (fun _=>aF v.of)) (a:=v.o) (b:=v.of) (Fx.Am (by omega) (Fx.qc (j:=0) (by omega) (by omega) rfl)) (Fx.qc (j:=0) (by omega) (by omega) rfl))) ac.2 (V.up u) Tryz.underlying102 F8 (by kernel_rfl) ZH) ?_;refine bf (.tuple #[.agg (aC 5 (fun d=>if d<1 then au 0 else if d<3 then aF 0 else if d<4 then au 0 else aF 0)),.bool false])<|bf (.agg (aC 5 (fun d=>if d<1 then au 0 else if d<3 then aF 0 else if d<4 then au 0 else aF 0)))<|bf aG<|Ct<|xg 5 (fun d=>if d<1 then au 0 else if d<3 then aF 0 else if d<4 then au 0 else aF 0) fun g7 w9 eg7 qL s11 z7 => ?_;have b11:=bH s11.old Y;have lg7:=jI eg7 Y.size;have⟨aiz,aiA,aiB,aiC,aiD,aiE,aiF,aiG,aiH⟩:=WA eg7 U.lt qy.lt pF.lt V.lt nk.lt W.lt nu.lt rX.lt X.lt;have tg7:=qL.lt;refine Ln ⟨s11.old,?_⟩;refine gF<|fH qL 0 (h1:=(fun j hj=>by rcases j with _|_|_|_|_|_|_|_|_|_|_|_|_|_|j <;> first|rfl|omega)) fun sQ ql s12 z8 => ?_
 have xR:aS sQ g7 5 (fun d=>if d<1 then au 0 else if d<3 then aF 0 else if d<4 then au 0 else aF 0) 66:=aW ql;have b12:=s12.below b11 b11.size (by omega);refine Ln<|bf aG<|bR<|Ws<|ay<|av aG<|av aH<|av aH<|dB<|dB<|dB<|av aH<|aD<|aO<|ay<|av (.nilFunc)<|av (au 12)<|aD<|Wr<|sR<|aK (.tuple #[.nilFunc,au 12]) ?_;have C:jg m v=12:=by unfold jg; rw[b_ (show ¬ gL m v.o v.req=true by unfold gL; rw[oQ jk]; decide)]; exact d_ (.inl (oQ ZH))
 exact⟨⟨.nilFunc,0,#[],by rw[C],rfl,fun L=>L_ (C.symm.trans L) (by first|decide|omega|assumption)⟩,b12⟩
set_option maxRecDepth 20000
set_option linter.unusedVariables false
namespace Rt
noncomputable def iJ(m:dP)(v:EvM):dP:=if v.kind=1 then CQ m v else if v.kind=2 then uf m v else if v.kind=3 then kg m v else if v.kind=4 then iy m v else if v.kind=5 then CK m v else if v.kind=6 then GZ m v else BP m v
def fB(m:dP)(v:EvM):Int:=if v.kind=1 then iT m v else if v.kind=2 then jA m v else if v.kind=3 then jM m v else if v.kind=4 then jg m v else if v.kind=5 then jZ m v else if v.kind=6 then 0 else 0
def bZ(m:dP)(v:EvM):Int:=if bO v=false then 1 else if lX m.known v=true then 14 else if dI m.known v=false then 13 else if m.inn (aP v)=false\/m.left (aP v)=true then 10 else fB m v
structure QlK(m:dP):Prop where
 own : ∀ a,a<6->0<=m.own a/\m.own a<=1000
 row : ∀ i,i<m.T.n -> ∀ p,p<54->0<=m.R i p/\m.R i p<=1125899906842624
 ga:Qg m
 kn:F3 m.known
def kfn(k:Nat):Nat:=if k=1 then 162 else if k=2 then 163 else if k=3 then 164 else if k=4 then 165 else if k=5 then 166 else if k=6 then 167 else 168
def I6:Nat->Value:=fun p=>if p=0 then .nilFunc else .func (.func (kfn p)) #[] #[]
theorem X8{p:Nat}(h:1<=p):I6 p = .func (.func (kfn p)) #[] #[]:=b_ (by omega)
end Rt
theorem agE {k : Nat} (h1 : 1 ≤ k) (b : k ≤ 7) : ∃ a c, Tryz.prog.funcs[kfn k]? = some a ∧ (a.name == "runtime.NumGoroutine") = false ∧ a.body = some c := by
 rcases(show k=1\/k=2\/k=3\/k=4\/k=5\/k=6\/k=7 by omega)with rfl|rfl|rfl|rfl|rfl|rfl|rfl
 ·exact⟨_,_,Tryz.func162,rfl,rfl⟩
 ·exact⟨_,_,Tryz.func163,rfl,rfl⟩
 ·exact⟨_,_,Tryz.func164,rfl,rfl⟩
 ·exact⟨_,_,Tryz.func165,rfl,rfl⟩
 ·exact⟨_,_,Tryz.func166,rfl,rfl⟩
 ·exact⟨_,_,Tryz.func167,rfl,rfl⟩
 exact⟨_,_,Tryz.func168,rfl,rfl⟩
theorem Uk.low{w:World}{B f b c d:Nat}{m g:dP}{e:Value}{cap:Array Value}(h:Uk w B f m g b e d cap)(i:c<=b):Uk w B f m g c e d cap := { h with s:=fun n j=>(h.s n j).mono fun _ _ a=>⟨a.1,a.2.1,a.2.2.mono fun k l=>l.imp id (m_ i)⟩ }
theorem X9(m:dP)(a B:Nat)(w:World)(h:lD w B a m)(v:EvM)(d:bO v=true)(f:gy v)(e:QlK m)(k:Nat)(l:v.kind=(k:Int))(j:1<=k/\k<=7) :
 Calls Tryz.prog (kfn k) #[(pt a),.agg (aC 14 (bS v))] w (QI w B a m (iJ m v) (fB m v)):=by
 rcases(show k=1\/k=2\/k=3\/k=4\/k=5\/k=6\/k=7 by omega)with rfl|rfl|rfl|rfl|rfl|rfl|rfl
 ·have c:v.kind=1:=by omega
  rw[show iJ m v=CQ m v by unfold iJ; rw[d_ (by omega)],show fB m v=iT m v by unfold fB; rw[d_ (by omega)]];exact X3 m a B w h v d e.own
 ·have c:v.kind=2:=by omega
  rw[show iJ m v=uf m v by unfold iJ; rw[b_ (by omega),d_ (by omega)],show fB m v=jA m v by unfold fB; rw[b_ (by omega),d_ (by omega)]];exact Ux m a B w h v d c e.row
 ·have c:v.kind=3:=by omega
  rw[show iJ m v=kg m v by unfold iJ; rw[b_ (by omega),b_ (by omega),d_ (by omega)],show fB m v=jM m v by unfold fB; rw[b_ (by omega),b_ (by omega),d_ (by omega)]];exact X6 m a B w h v d f e.ga
 ·have c:v.kind=4:=by omega
  rw[show iJ m v=iy m v by unfold iJ; rw[b_ (by omega),b_ (by omega),b_ (by omega),d_ (by omega)],show fB m v=jg m v by unfold fB; rw[b_ (by omega),b_ (by omega),b_ (by omega),d_ (by omega)]];exact X7 m a B w h v d f
 ·have c:v.kind=5:=by omega
  rw[show iJ m v=CK m v by unfold iJ; rw[b_ (by omega),b_ (by omega),b_ (by omega),b_ (by omega),d_ (by omega)],show fB m v=jZ m v by unfold fB; rw[b_ (by omega),b_ (by omega),b_ (by omega),b_ (by omega),d_ (by omega)]];exact XO m a B w h v d c
 ·have c:v.kind=6:=by omega
  rw[show iJ m v=GZ m v by unfold iJ; rw[b_ (by omega),b_ (by omega),b_ (by omega),b_ (by omega),b_ (by omega),d_ (by omega)],show fB m v=0 by unfold fB; rw[b_ (by omega),b_ (by omega),b_ (by omega),b_ (by omega),b_ (by omega),d_ (by omega)]];obtain⟨b,g,i⟩:=GI d c;exact XP m a B w h v d b g i
 have c:v.kind=7:=by omega
 rw[show iJ m v=BP m v by unfold iJ; rw[b_ (by omega),b_ (by omega),b_ (by omega),b_ (by omega),b_ (by omega),b_ (by omega)],show fB m v=0 by unfold fB; rw[b_ (by omega),b_ (by omega),b_ (by omega),b_ (by omega),b_ (by omega),b_ (by omega)]];exact UC m a B w h v d
theorem OA(m:dP)(b B:Nat)(w:World)(h:lD w B b m)(v:EvM)(n:gy v)(R:QlK m)(hB:1<=B)(N:iU w 0 0 8 I6) :
 Calls Tryz.prog 40 #[(pt b),.agg (aC 14 (bS v))] w fun e w'=>QI w B b m (iJ m v) (bZ m v) e w':=by
 have M:=h.c;have hT:=h.t;have hP:=h.p;have hR:=h.r;have hG:=h.g;have hA:=h.a;have hN:=h.ne;have lC:=h.c.lt;have lT:=h.t.lt;have lP:=h.p.lt;have lR:=h.r.lt;have lG:=h.g.lt;have lA:=h.a.lt;obtain⟨s,Q⟩ : ∃ s:Nat,v.kind=(s:Int):=⟨v.kind.toNat,by have:=n.kind; omega⟩;have O:Kr m.known:=fun i hi=>by have:=R.kn i hi; exact⟨by omega,by omega⟩
 refine Kent Tryz.func40 55 ?_;refine ay<|rU fun y w1 A F s1 z1 => ?_;have⟨m2,m8,H⟩:=ku s1.old M N (Below.refl w.heap.size w);have uG:=iE A;have⟨nI,zB,wY,AZ,zx⟩:=Df A M.lt hP.lt hR.lt hG.lt hA.lt;have J9:0≠y:=by rw[A]; exact t_ (N.lt (by omega))
 have wO:=F.lt;refine av (.nilFunc)<|av (au 0)<|aD<|Ws<|Wb<|ay<|av (pt b)<|Lv aG (Fx.qG rfl rfl rfl (by kernel_rfl))<|av aG<|aD<|aL<|ay<|Lv (.agg (aC 14 (bS v))) (gI F.aI 0) ?_;by_cases k:(bO v)=true
 ·have D:bO v=true:=k;obtain⟨a,ha,ho⟩ : ∃ a:Nat,a<6/\v.o=(a:Int)+1:=fA (iL D);have E:aP v=a:=by unfold aP; omega
  have hkr:=iY D;refine eB (GX v _ n) aH (by rw[k]) ?_;intro w2 hb1;have⟨m9,m15,m16,b2⟩:=oZ hb1 m2 m8 F H;refine av aG<|av aG<|aD<|aL<|Ws ?_;refine jS [0,1,2,3,4,5,6] [0,0,0,4,4,3,0] [(5,3,[3]),(5,4,[4]),(6,5,[5])] fun qI dY iF => ?_;have⟨S,m23,T,I⟩:=oZ dY m9 m15 m16 b2;refine bf (pt b)<|bf (pt b)<|bf (pf b 12)<|Rs (.agg (aC 6 (rv .u64 m.known))) (gI S.aI 12 (fun j hj=>vk (p:=j) (by omega) (by omega))) ?_;refine Rs (.agg (aC 14 (bS v))) (gI T.aI 0) ?_;refine gF ?_;by_cases l:(lX m.known v)=true
  ·refine eB (Uu m.known v _ n) aH (by rw[l]) ?_;intro w3 hb2;have b4:=bH hb2 I;refine Ln<|bf aH<|bR<|aO<|ay<|av (.nilFunc)<|av (au 14)<|aD<|Wr<|bM<|sR<|aK (.tuple #[.nilFunc,au 14]) ?_;have d:bZ m v=14:=(by unfold bZ; rw[b_ (by rw[k]; decide)]; exact d_ l);exact⟨⟨.nilFunc,0,#[],by rw[d],rfl,fun f=>L_ (d.symm.trans f) (by first|decide|omega|assumption)⟩,b4⟩
  rw[S_]at l;refine eB (Uu m.known v _ n) aG (by rw[l]) ?_;intro w4 hb3;have⟨qh,pF,sj,b5⟩:=oZ hb3 S m23 T I;refine Ln<|bf aG<|bR<|aL<|Ws ?_;refine jS [0,1,2,3,4,5,6,7] [0,0,0,4,4,3,0,0] [(5,3,[3]),(5,4,[4]),(6,5,[5]),(7,5,[5])] fun Cu fV nH => ?_;have⟨U,ru,V,J⟩:=oZ fV qh pF sj b5;refine bf (pt b)<|bf (pt b)<|bf (pf b 12)<|Rs (.agg (aC 6 (rv .u64 m.known))) (gI U.aI 12 (fun j hj=>vk (p:=j) (by omega) (by omega))) ?_;refine Rs (.agg (aC 14 (bS v))) (gI V.aI 0) ?_;refine gF ?_;by_cases q:(dI m.known v)=true
  ·refine eB (Om m.known v _ n O) aH (by rw[q]) ?_;intro w5 hb4;have⟨su,wR,tL,b7⟩:=oZ hb4 U ru V J;refine Ln<|bf aG<|bf aG<|bR<|aL<|Ws<|Ws ?_;refine jS [0,1,4,5,2,3,6,7,8,9] [0,0,4,0,0,0,0,4,0,0] [] fun QE lI Av => ?_;have⟨G,sw,W,K⟩:=oZ lI su wR tL b7;refine bf (pt b)<|bf (pt y)<|bf (pt b)<|bf (pt b)<|Rs (au v.o) (aN W.aI 0) ?_;refine Rp (au a) (fun _=>gu)<|Rp (pf b a) (fun _=>jE 6 1) ?_;by_cases u:(m.inn a)=true
   ·refine Rs aH (aN G.aI a ((BN (by omega)).trans (K_ Value.bool u))) ?_;refine bf aG<|bf aG<|bR<|aL ?_;refine jS [0,1,4,5,2,3,6,7,8] [0,0,4,0,0,0,0,4,0] [] fun wt4 qw Gs => ?_;have⟨X,sU,Y,L⟩:=oZ qw G sw W K;refine bf (pt b)<|bf (pt y)<|bf (pt b)<|bf (pf b 6)<|Rs (au v.o) (aN Y.aI 0) ?_;refine Rp (au a) (fun _=>gu)<|Rp (pf b (a+6)) (fun _=>jE 6 1) ?_;by_cases x:(m.left a)=true
    ·refine Rs aH (aN X.aI (a+6) ((AX (p:=a) (by omega) (by omega)).trans (K_ Value.bool x))) ?_;refine bf aH<|bR<|aO<|ay<|av (.nilFunc)<|av (au 10)<|aD<|Wr<|bM<|sR<|aK (.tuple #[.nilFunc,au 10]) ?_;have d:bZ m v=10:=(by unfold bZ; rw[b_ (by rw[k]; decide)]; rw[b_ (by rw[l]; decide)]; rw[b_ (by rw[q]; decide)]; exact d_ (.inr (by rw[E]; exact x)));exact⟨⟨.nilFunc,0,#[],by rw[d],rfl,fun f=>L_ (d.symm.trans f) (by first|decide|omega|assumption)⟩,L⟩
    rw[S_]at x;refine Rs aG (aN X.aI (a+6) ((AX (p:=a) (by omega) (by omega)).trans (K_ Value.bool x))) ?_;refine bf aG<|bR<|aL<|Wk<|bQ<|sN<|Ws ?_;refine jS [0,4,1,2,3,5,6,7,8,9,10] [0,4,0,4,0,4,3,0,0,0,0] [(6,1,[3,2,1]),(6,3,[3]),(6,5,[5]),(7,6,[6]),(8,6,[6]),(9,6,[6]),(10,6,[6])] fun wt5 zo RQ => ?_;have⟨wV,Z,z⟩:=ku zo sU Y L;refine bf (pf y 8)<|bf (pt b)<|Rs (.int .u8 (s:Int)) (aN Z.aI 8 (K_ (Value.int IntKind.u8) Q)) ?_;refine Rp (pf 0 s) (fun _=>jE 8 1)<|Rs (.func (.func (kfn s)) #[] #[]) (aN wV s (X8 (by omega))) ?_;refine Rs (.agg (aC 14 (bS v))) (gI Z.aI 0) ?_;refine gF<|Bc (by rfl) (Fx.Oh (args := [(pt b),.agg (aC 14 (bS v))]) rfl rfl rfl (by rfl) (agE (by omega) (by omega))) rfl<|(X9 m b B _ (h.up z) v D n R s Q (by omega)).mono ?_;rintro e9 w6 ⟨⟨C,fi1,Pg,P,ho1,hD1⟩,hb5⟩;refine⟨_,P,?_⟩;clear P;have aa:=bH hb5 z;refine Ln<|bf (C)<|bf (au (fB m v))<|bf (C)<|bf (au (fB m v))<|bR<|Wr<|aK (.tuple #[C,au (fB m v)]) ?_;have d:bZ m v=fB m v:=(by unfold bZ; rw[b_ (by rw[k]; decide)]; rw[b_ (by rw[l]; decide)]; rw[b_ (by rw[q]; decide)]; exact b_ (by rw[E,u,x]; decide));exact⟨⟨_,_,_,by rw[d],ho1,fun f=>(hD1 (d.symm.trans f)).low z.size⟩,aa⟩
   rw[S_]at u;refine Rs aG (aN G.aI a ((BN (by omega)).trans (K_ Value.bool u))) ?_;refine bf aH<|bf aH<|bR<|aO<|Wk<|sN<|aO<|ay<|av (.nilFunc)<|av (au 10)<|aD<|Wr<|bM<|sR<|aK (.tuple #[.nilFunc,au 10]) ?_;have d:bZ m v=10:=(by unfold bZ; rw[b_ (by rw[k]; decide)]; rw[b_ (by rw[l]; decide)]; rw[b_ (by rw[q]; decide)]; exact d_ (.inl (by rw[E]; exact u)));exact⟨⟨.nilFunc,0,#[],by rw[d],rfl,fun f=>L_ (d.symm.trans f) (by first|decide|omega|assumption)⟩,K⟩
  rw[S_]at q;refine eB (Om m.known v _ n O) aG (by rw[q]) ?_;intro w7 hb6;have ab:=bH hb6 J;refine Ln<|bf aH<|bf aH<|bR<|aO<|ay<|av (.nilFunc)<|av (au 13)<|aD<|Wr<|bM<|sR<|aK (.tuple #[.nilFunc,au 13]) ?_;have d:bZ m v=13:=by unfold bZ; rw[b_ (by rw[k]; decide)]; rw[b_ (by rw[l]; decide)]; exact d_ q
  exact⟨⟨.nilFunc,0,#[],by rw[d],rfl,fun f=>L_ (d.symm.trans f) (by first|decide|omega|assumption)⟩,ab⟩
 rw[S_]at k;refine eB (GX v _ n) aG (by rw[k]) ?_;intro w8 hb7;have ac:=bH hb7 H;refine av aH<|av aH<|aD<|aO<|ay<|av (.nilFunc)<|av (au 1)<|aD<|Wr<|bM<|sR<|aK (.tuple #[.nilFunc,au 1]) ?_;have d:bZ m v=1:=by unfold bZ; exact d_ k
 exact⟨⟨.nilFunc,0,#[],by rw[d],rfl,fun f=>L_ (d.symm.trans f) (by first|decide|omega|assumption)⟩,ac⟩
set_option maxRecDepth 20000
set_option linter.unusedVariables false
namespace Rt
noncomputable def iA(m:dP)(v:EvM):dP:=if bZ m v=0 then { iJ m v with known:=aJ (iJ m v).known (aP v) ((iJ m v).known (aP v)+1) } else m
theorem KN(m:dP)(v:EvM):(iJ m v).known=m.known:=by
 unfold iJ
 repeat (first|rfl|split)
def Fv:Nat->Int:=fun _=>0
def aZ(m:dP)(k:Int):Nat->Int:=if m.T.has k=true then CS m k else Fv
end Rt
theorem lD.known{w w':World}{B d:Nat}{m:dP}{K:Nat->Int}(h:lD w B d m)(f:Stp d w w')(e:aS w' d 29 (vg { m with known:=K }) 106):lD w' B d { m with known:=K }:=by
 have b:=gY f h.c.ty;exact { c:=e,t:=h.t.jN b (by decide),p:=h.p.jN b trivial,r:=h.r.jN b trivial,g:=h.g.jN b trivial,a:=h.a.jN b trivial,ne:=⟨h.ne.mp,h.ne.mr,h.ne.mg,h.ne.ma,h.ne.pr,h.ne.pg,h.ne.pa,h.ne.rg,h.ne.ra,h.ne.ga⟩,lB:=h.lB,pB:=h.pB,rB:=h.rB,gB:=h.gB,aB:=h.aB }
theorem pO{m:dP}{v:EvM}(h:bZ m v=0):bO v=true:=by
 cases hc:bO v with
 | true=>rfl
 | false=>unfold bZ at h; rw[d_ hc]at h; cases h
theorem pQ{m:dP}{v:EvM}(h:bZ m v=0):v.seq=m.known (aP v)+1/\fB m v=0/\m.inn (aP v)=true/\m.left (aP v)=false:=by
 have d:=pO h;unfold bZ at h;rw[b_ (by rw[d]; decide)]at h;by_cases c:lX m.known v=true
 ·rw[d_ c]at h; cases h
 rw[b_ c]at h;by_cases a:dI m.known v=false
 ·rw[d_ a]at h; cases h
 rw[b_ a]at h;by_cases b:m.inn (aP v)=false\/m.left (aP v)=true
 ·rw[d_ b]at h; cases h
 rw[b_ b]at h;refine⟨?_,h,?_,?_⟩
 ·have a:dI m.known v=true:=by cases e:dI m.known v with|true=>rfl|false=>exact L_ e a
  unfold dI at a;simp only[R_,O_]at a;exact a.1.2
 ·cases e:m.inn (aP v)with|true=>rfl|false=>exact L_ (.inl e) b
 cases e:m.left (aP v)with|false=>rfl|true=>exact L_ (.inr e) b
theorem aon(m:dP)(b B:Nat)(w:World)(h:lD w B b m)(v:EvM)(D:gy v)(C:QlK m)(s:1<=B)(j:iU w 0 0 8 I6) :
 Calls Tryz.prog 22 #[(pt b),.agg (aC 14 (bS v))] w fun e G=>e = .returned (au (bZ m v))/\Below w.heap.size w G:=by
 have u:=h.c;have M:=h.t;have y:=h.p;have z:=h.r;have x:=h.g;have q:=h.a;have L:=h.ne;have P:=h.c.lt;have T:=h.t.lt;have R:=h.p.lt;have S:=h.r.lt;have Q:=h.g.lt;have O:=h.a.lt;refine Kent Tryz.func22 14 ?_;refine ay<|rU fun o w1 d l F z1 => ?_;have⟨E,i⟩:=fC F.old j (Below.refl w.heap.size w);have U:=iE d;have⟨V,W,X,Y,Z⟩:=Df d u.lt y.lt z.lt x.lt q.lt;have aa:0≠o:=by rw[d]; exact t_ (j.lt (by omega))
 have ab:=l.lt;refine av (au 0)<|aD<|ay<|av (pt b)<|Lv (.agg (aC 14 (bS v))) (gI l.aI 0)<|lS (OA m b B _ (h.up i) v D C s E) ?_;rintro I w2 ⟨⟨f,J,H,k,N,K⟩,A⟩;refine⟨_,k,?_⟩;clear k;have n:=bH A i;refine av (.tuple #[f,au (bZ m v)])<|av (f)<|av (au (bZ m v))<|av (f)<|av (au (bZ m v))<|aD<|ay<|av (au (bZ m v))<|av (au (bZ m v))<|aD<|Wr<|aK (au (bZ m v)) ?_;exact⟨rfl,n⟩
theorem Ya(m:dP)(b B:Nat)(w:World)(h:lD w B b m)(v:EvM)(hwf:gy v)(M:QlK m)(hB:1<=B)(I:iU w 0 0 8 I6) :
 Calls Tryz.prog 15 #[(pt b),.agg (aC 14 (bS v))] w fun e S=>e = .returned (au (bZ m v))/\lD S B b (iA m v)/\jO (Uj m b w.heap.size) w S:=by
 have F:=h.c;have hT:=h.t;have hP:=h.p;have hR:=h.r;have hG:=h.g;have Z:=h.a;have hN:=h.ne;have lC:=h.c.lt;have lT:=h.t.lt;have lP:=h.p.lt;have lR:=h.r.lt;have lG:=h.g.lt;have lA:=h.a.lt;refine Kent Tryz.func15 30 ?_;refine ay<|rU fun E w1 x D s1 z1 => ?_;have⟨d,m8,l⟩:=ku s1.old F I (Below.refl w.heap.size w);have uG:=iE x;have⟨nI,zB,wY,AZ,zx⟩:=Df x F.lt hP.lt hR.lt hG.lt Z.lt;have J9:0≠E:=by rw[x]; exact t_ (I.lt (by omega))
 have wO:=D.lt;refine av (au 0)<|aD<|ay<|av (pt b)<|Lv (.agg (aC 14 (bS v))) (gI D.aI 0)<|lS (OA m b B _ (h.up l) v hwf M hB m8) ?_;rintro W w2 ⟨⟨z,Y,V,j,ho1,hD1⟩,hb1⟩;refine⟨_,j,?_⟩;clear j;have⟨O,n⟩:=fC hb1 D l;refine av (.tuple #[z,au (bZ m v)])<|av (z)<|av (au (bZ m v))<|av (z)<|av (au (bZ m v))<|aD<|Ws<|ay<|av (au (bZ m v)) ?_;by_cases i:(bZ m v)=0
 ·refine Lv aG (kr i)<|aD<|aL<|Wk<|sN<|Ws ?_;have A:=hD1 i;have hfe:=A.e;subst hfe;refine Wl<|av (.func (.func Y) #[] V)<|Bc (by rfl) (Fx.Oh (args := []) rfl rfl rfl (by simp) A.f) rfl<|(A.s _ (Below.refl _ _)).mono ?_;rintro W u ⟨j,C,G⟩;refine⟨_,j,?_⟩;clear j;have J:jO (Uj m b w.heap.size) w u:=(Fx.jO.of_below n) |> fun q=>Fx.jO.trans _ _ _ q (G.mono fun k hk=>hk.imp id (m_ l.size));obtain⟨d,y⟩ : ∃ q,q=iJ m v:=⟨_,rfl⟩;rw[<- y]at C;have X:d.known=m.known:=by rw[y,KN]
  have H:=C.c;have lC2:=H.lt;have hkb:=(pQ i).1;have N:=pO i;obtain⟨a,K,ho⟩ : ∃ a:Nat,a<6/\v.o=(a:Int)+1:=fA (iL N);have hra:aP v=a:=by unfold aP; omega
  have hbd:=nP N;have hka:=M.kn a K;have P:=(h.up n).IW (w':=u) (O) (by decide) G (by have:=O.lt; have:=l.size; omega);have auY:=P.lt;refine aD<|Ws ?_;refine jS [0,1,4,5,9,10,2,3,6,7,8,11,12] [0,0,4,0,0,0,0,4,0,0,0,0,3] [(12,2,[2]),(12,7,[7])] fun qI L iF => ?_;have s3:Stp u.heap.size u qI:=Sb L;have⟨Q,m19,m20⟩:=ku L H C P;have T:=J.then s3 (.inr J.size);refine bf (pt b)<|bf (pt E)<|bf (pt b)<|bf (pf b 12)<|bf (pt b)<|bf (pf b 12)<|Rs (au v.o) (aN m20.aI 0) ?_;refine Rp (au a) (fun _=>gu)<|Rp (pf b (a+12)) (fun _=>jE 6 1)<|Rs (aF (d.known a)) (aN Q.aI (a+12) (vk (p:=a) (by omega) (by omega))) ?_;refine Rp (aF (d.known a+1)) (fun v1=>Fx.Jr rfl rfl rfl (jK (by rw[X]; omega) rfl))<|Rp (pf b (a+12)) (fun _=>jE 6 1)<|gF<|jm Q (a+12) (aF (d.known a+1)) fun w4 m21 R z2 => ?_;have m22:aS w4 b 29 (vg { d with known:=aJ d.known a (d.known a+1) }) 106:=m21.to (P9 K (by omega) _);have U:=T.then R (.inl (.inl (.inl rfl)));refine Ln (bR (ay (av (au 0) (aD (Wr (aK (au 0) (⟨by rw[i],?_,U⟩)))))));rw[show iA m v = { d with known:=aJ d.known a (d.known a+1) } by unfold iA; rw[d_ i,<- y,hra]];exact m19.known R m22
 refine Lv aH (nE i) (aD (aO (ay (av (au (bZ m v)) (av (au (bZ m v)) (aD (Wr (sR (aK (au (bZ m v)) (⟨rfl,?_,Fx.jO.of_below n⟩))))))))));rw[show iA m v=m by unfold iA; exact b_ i]; exact h.up n
set_option maxRecDepth 20000
set_option linter.unusedVariables false
namespace Rt
def xZ(k f c d e b a:Nat):dP := { inn:=fun i=>decide (i<k),left:=fun _=>false,known:=fun _=>0,own:=fun _=>0,T:=dK.zero,R:=fun _ _=>0,gn:=0,g:=fun _ _=>0,an:=0,ao:=fun _=>0,ar:=fun _=>0,tp:=f,mb:=c,pb:=d,rb:=e,gb:=b,ab:=a }
end Rt
theorem U8(k g c d f b a:Nat)(h:k<6):dA (vg (xZ k g c d f b a)) k (.bool true)=vg (xZ (k+1) g c d f b a):=by
 rw[Uh h];have:aJ (xZ k g c d f b a).inn k true=(xZ (k+1) g c d f b a).inn:=by
  funext i
  show(if i=k then true else decide (i<k))=decide (i<k+1);by_cases e:i=k
  ·subst e; rw[d_ rfl]; exact(f_ (by omega)).symm
  ·rw[b_ e]; exact decide_eq_decide.2 (by omega)
 show vg { xZ k g c d f b a with inn:=_ }=_;rw[this]; rfl
theorem Yb(m:dP)(f B:Nat)(w:World)(h:lD w B f m)(i b:Int)(hi : -9223372036854775808<=i/\i<=9223372036854775807) :
 Calls Tryz.prog 19 #[(pt f),au i,aF b] w fun e C=>e = .returned (au (fE (aZ m b) i))/\Below w.heap.size w C:=by
 have v:=h.c;have H:=h.t;have G:=h.p;have o:=h.r;have E:=h.g;have D:=h.a;have F:=h.ne;have J:=h.c.lt;have N:=h.t.lt;have L:=h.p.lt;have M:=h.r.lt;have K:=h.g.lt;have I:=h.a.lt;refine Kent Tryz.func19 17 ?_;refine ay<|av (au 0)<|aD<|Ws<|ay<|av (pt f)<|Lv aG (Fx.qG rfl rfl rfl (by kernel_rfl))<|aD<|aL<|Wk<|sN<|ay<|av (pt f)<|av (pt f)<|av (pf f 20)<|Lv (.map (some m.rb)) (aN v.aI 20)<|av (aF b) ?_
 rcases Fx.qZ m.T.x m.T.n b with ⟨d,l,j⟩|jk
 ·refine Lv (.agg (aC 54 (rv .i64 (m.R d)))) (Fx.vQ (z := .agg (aC 54 (rv .i64 (fun _=>0)))) rfl rfl rfl o Tryz.underlying101 Tryz.underlying28 (by kernel_rfl) l j rfl)<|av (au i)<|eB (wm (m.R d) i _ hi) _ rfl ?_;intro O y;have s:=bH y (Below.refl w.heap.size w);refine av (au (fE (m.R d) i))<|aD<|Wr<|aK (au (fE (m.R d) i)) ?_;have k:aZ m b=m.R d:=by unfold aZ CS; rw[d_ (show m.T.has b=true from jF l j),show m.idx b=d from mH h.t.inv.inj l j]
  exact⟨K_ (fun q=>Ending.returned (Value.int .i64 (fE q i))) k.symm,s⟩
 refine Lv (.agg (aC 54 (rv .i64 (fun _=>0)))) (Fx.Ny (z := .agg (aC 54 (rv .i64 (fun _=>0)))) rfl rfl rfl o Tryz.underlying101 Tryz.underlying28 (by kernel_rfl) jk)<|av (au i)<|eB (wm (fun _=>0) i _ hi) _ rfl ?_;intro P A;have u:=bH A (Below.refl w.heap.size w);refine av (au (fE (fun _=>0) i))<|aD<|Wr<|aK (au (fE (fun _=>0) i)) ?_;have k:aZ m b=Fv:=by unfold aZ; exact b_ (by rw[show m.T.has b=false from yw jk]; decide)
 exact⟨K_ (fun q=>Ending.returned (Value.int .i64 (fE q i))) k.symm,u⟩
theorem adk(m:dP)(d B:Nat)(w:World)(h:lD w B d m)(b:Int) :
 Calls Tryz.prog 20 #[(pt d),aF b] w fun e k => ∃ a c,e = .returned (.slice a (m.T.path b).length c)/\VW k w.heap.size a c (m.T.path b)/\Below w.heap.size w k:=by
 have n:=h.c;have o:=h.t;have z:=h.p;have A:=h.r;have x:=h.g;have v:=h.a;have y:=h.ne;have D:=h.c.lt;have H:=h.t.lt;have F:=h.p.lt;have G:=h.r.lt;have E:=h.g.lt;have C:=h.a.lt;refine Kent Tryz.func20 13 ?_;refine ay<|av (.slice none 0 0)<|aD<|Ws<|ay<|av (pt d)<|Lv aG (Fx.qG rfl rfl rfl (by kernel_rfl))<|aD<|aL<|Wk<|sN<|ay<|av (pt d)<|av (pt d)<|av (pf d 18)<|Lv (pt m.tp) (aN n.aI 18)<|av (aF b)<|lS (Iq b o) ?_;rintro u I ⟨i,j,f,s,q⟩;refine⟨_,f,?_⟩;clear f;have l:=bH q (Below.refl w.heap.size w);refine av (.slice i ((dK.path m.T b).length) (j))<|aD<|Wr<|aK (.slice i ((dK.path m.T b).length) (j)) ?_;exact⟨_,_,rfl,s,l⟩
theorem agF(k:Nat)(hk:1<=k/\k<=6)(w:World) :
 Calls Tryz.prog 14 #[au (k:Int)] w fun e w' => ∃ W m,e = .returned (.tuple #[(pt W),au 0])/\(∃ tp mb pb rb gb ab,m=xZ k tp mb pb rb gb ab)/\lD w' w.heap.size W m/\Below w.heap.size w w':=by
 refine Kent Tryz.func14 30 ?_;refine ay<|av (.pointer none)<|av (au 0)<|aD<|Ws<|ay<|av (au k)<|Lv aG Cq<|av aG<|av (au k)<|Lv aG wM<|av aG<|aD<|aL<|Wk<|sN<|ay<|lS (Zp _) ?_;rintro e9 w1 ⟨n,x,V,hg1,X,hb1⟩;refine⟨_,V,?_⟩;clear V;have J:=bH hb1 (Below.refl w.heap.size w);have m2:rD w1 (w.heap.size) n x dK.zero:=X.weak (Below.refl w.heap.size w).size;clear X hg1;refine Fx.L.JD (by rfl) rfl rfl fun o w2 Q G s2 z1 => ?_;have⟨m4,K⟩:=fC s2.old m2 J;have uG:=jI Q J.size;have adl:=cO Q m2.lt;have wO:=G.lt;refine Fx.L.JD (by rfl) rfl rfl fun q w3 R H s3 z2 => ?_;have⟨m6,m7,M⟩:=ku s3.old m4 G K;have sG:=jI R K.size;have⟨adn,Tg⟩:=xM R m4.lt G.lt;have Bg:=H.lt;refine Fx.L.Rm (by rfl) rfl rfl fun s w4 S I s4 z3 => ?_;have⟨m9,Y,Z,N⟩:=oZ s4.old m6 m7 H M;have Eo:=jI S M.size;have⟨ado,aoo,adf⟩:=JC S m6.lt m7.lt H.lt;have Ma:=I.lt;refine Fx.L.Rm (by rfl) rfl rfl fun u w5 T E s5 z4 => ?_;have⟨m13,aa,ac,ad,O⟩:=vP s5.old m9 Y Z I N;have VZ:=jI T N.size;have⟨adp,adi,adj,aop⟩:=aar T m9.lt Y.lt Z.lt I.lt;have TP:=E.lt;refine av (.agg (aC 29 (bI (bI (bI (bI (bI (fun d=>if d<12 then .bool false else if d<18 then aF 0 else if d<19 then .pointer none else if d<21 then .map none else if d<27 then au 0 else .map none) 18 1 (fun _=>(pt n))) 19 1 (fun _ => .map (some o))) 20 1 (fun _ => .map (some q))) 27 1 (fun _ => .map (some s))) 28 1 (fun _ => .map (some u)))))<|Dw (m:=29) (y:=bI (bI (bI (bI (bI (fun d=>if d<12 then .bool false else if d<18 then aF 0 else if d<19 then .pointer none else if d<21 then .map none else if d<27 then au 0 else .map none) 18 1 (fun _=>(pt n))) 19 1 (fun _ => .map (some o))) 20 1 (fun _ => .map (some q))) 27 1 (fun _ => .map (some s))) 28 1 (fun _ => .map (some u))) (by rfl) rfl rfl (bJ _ _) rfl fun b w6 U ae s6 z5 => ?_;have⟨m18,m19,m20,m21,m22,b6⟩:=uy s6.old m13 aa ac ad E O;have lg5:=jI U O.size;have⟨aoq,aor,aos,aot⟩:=aar U aa.lt ac.lt ad.lt E.lt;have tg5:=ae.lt;have l:QlN (xZ 0 n x o q s u):=⟨adl,adn,ado,adp,by assumption,by assumption,by assumption,by assumption,by assumption,by assumption⟩;have m23:aS w6 b 29 (vg (xZ 0 n x o q s u)) 106:=ae.congr (fun j hj=>match j,hj with|0,_=>rfl|1,_=>rfl|2,_=>rfl|3,_=>rfl|4,_=>rfl|5,_=>rfl|6,_=>rfl|7,_=>rfl|8,_=>rfl|9,_=>rfl|10,_=>rfl|11,_=>rfl|12,_=>rfl|13,_=>rfl|14,_=>rfl|15,_=>rfl|16,_=>rfl|17,_=>rfl|18,_=>rfl|19,_=>rfl|20,_=>rfl|21,_=>rfl|22,_=>rfl|23,_=>rfl|24,_=>rfl|25,_=>rfl|26,_=>rfl|27,_=>rfl|28,_=>rfl|j+29,h=>L_ h (by omega))
 refine av (pt b)<|aD<|Ws<|ay<|av (au k)<|av (au 0)<|aD<|Wb<|Wo (fun f z => ∃ i:Nat,i<=k/\f 4=(pt b)/\f 19=au (k:Int)/\f 20=au (i:Int)/\rD z (w.heap.size) n x dK.zero/\Mp z o 0 (fun _=>0) (fun _ => .pointer none)/\Mp z q 0 (fun _=>0) (fun _ => .pointer none)/\gX z s 0 (fun _=>0) (fun _=>0) (fun _ => .pointer none)/\gX z u 0 (fun _=>0) (fun _=>0) (fun _ => .pointer none)/\aS z b 29 (vg (xZ i n x o q s u)) 106/\Below w.heap.size w z) (fun f _=>((k:Int)-intOf (f 20)).toNat) ⟨0,(by omega),(by rfl),Fx.ic,Fx.ic,m18,m19,m20,m21,m22,m23,b6⟩ ?_;rintro f1 w7 ⟨i,v,C,D,A,m24,ni,nZ,oz,og,F,B⟩;refine ay ?_;by_cases P:(i:Int)<(k:Int)
 ·refine Lv aH (gV P (hx:=A) (hy:=D))<|aD<|Ws<|aO<|Wk<|sN<|Ws<|Wb<|ay<|aX A<|av (au i)<|aD<|Wl<|aX C<|av (au i)<|av (pt b)<|av (pt b)<|Lv (pf b i) (jE 6 1)<|jm F i aH fun w8 pE s7 z6 => ?_;have mE:aS w8 b 29 (vg (xZ (i+1) n x o q s u)) 106:=pE.to (U8 i _ _ _ _ _ _ (by omega));have gK:=gY s7 F.ty;have⟨m32,qh,oN,pW,qx⟩:=qX gK m24 ni nZ oz og;have b8:=s7.below B B.size (by omega);refine Ln<|bQ<|sN<|Wl<|Lv (au ((i:Int)+1)) (eY (hx:=A))<|av (au ((i:Int)+1))<|Ln<|gT ⟨i+1,(by omega),C,(D.trans Fx.ic),Fx.ic,m32,qh,oN,pW,qx,mE,b8⟩ ?_;show((k:Int)-intOf (au ((i:Int)+1))).toNat<_;simp only[A,intOf]; omega
 refine Lv aG (gW P (hx:=A) (hy:=D))<|aD<|Ws<|aL<|Wx<|cu<|gJ<|cB<|sN<|ay<|aX C<|av (pt b)<|av (au 0)<|aD<|Wr<|aK (.tuple #[(pt b),au 0]) ?_;have eik:i=k:=by omega
 subst eik;exact⟨b,xZ i n x o q s u,rfl,⟨_,_,_,_,_,_,rfl⟩,{ c:=F,t:=m24,p:=ni.uD fun i v=>L_ v (u_ _),r:=nZ.uD fun i v=>L_ v (u_ _),g:=oz.uD fun i v=>L_ v (u_ _),a:=og.uD fun i v=>L_ v (u_ _),ne:=⟨l.mp,l.mr,l.mg,l.ma,l.pr,l.pg,l.pa,l.rg,l.ra,l.ga⟩,lB:=lg5,pB:=uG,rB:=sG,gB:=Eo,aB:=VZ },B⟩
end Go.Proofs.YtahbiajdgealnaaGreatDoor
namespace Go.Proofs.YtahbiajdgealnaaGreatDoor.Fx
open Go.RowKit Go.Shelf Go.Sort Go.Lib
def kI(a b:Int):Int:=if a<b then -1 else if b<a then 1 else 0
theorem OB(a b:Int):kI a b<0<->a<b:=by
 unfold kI;split
 ·simp_all
 split <;> simp_all
theorem Yc{c:Type}(ky:c->Int):SWO (ltOf fun x y=>kI (ky x) (ky y)):=by
 have e : ∀ x y,(ltOf fun x y=>kI (ky x) (ky y)) x y=decide (ky x<ky y):=fun x y=>by
  unfold ltOf;exact decide_eq_decide.2 (OB _ _)
 refine⟨fun x => ?_,fun x y z a b => ?_,fun x y z a b => ?_⟩ <;> simp only[e,decide_eq_true_eq,decide_eq_false_iff_not]at * <;> omega
end Go.Proofs.YtahbiajdgealnaaGreatDoor.Fx
namespace Go.Proofs.YtahbiajdgealnaaGreatDoor.Fx
open Go.RowKit Go.Shelf Go.Sort Go.Lib
theorem KO{w:World}{B g cap m N s:Nat}{E:TypeId}(a:Array Value)(os:Array Obj){x:Nat->Value}(h:Own w B E s (.slice (some ⟨g,0,none⟩) m cap) m x)(f:a.size=m*s) :
 Own (sortWorld id w g 0 N a os) B E s (.slice (some ⟨g,0,none⟩) m cap) m (fun q=>a[q]!)/\Stp g w (sortWorld id w g 0 N a os):=by
 rcases h.2 with ⟨b,_⟩|⟨g',cap',cur,b,hB,hg,hn,hm,hs,ht⟩
 ·cases b
 simp only[Value.slice.injEq,Option.some.injEq,Addr.mk.injEq]at b;obtain⟨⟨rfl,_⟩,_,rfl⟩:=b;have n:g<w.heap.size:=(Array.getElem?_eq_some_iff.1 hg).1;have d:(sortWorld id w g 0 N a os).heap=(w.heap.modify g (onCells (putCells id 0 a)))++os:=rfl;have e : ∀ k,k<w.heap.size->(sortWorld id w g 0 N a os).heap[k]? = (w.heap.modify g (onCells (putCells id 0 a)))[k]? := fun k c=>by
  rw[d,Array.getElem?_append_left (by simpa using c)]
 have p:m*s<=cap*s:=Nat.mul_le_mul_right s hn;refine⟨⟨by simp,.inr ⟨g,cap,putCells id 0 a cur,rfl,hB,?_,hn,hm,?_,?_⟩⟩,⟨rfl,rfl,rfl,by rw[d]; simp,fun k c o => ?_⟩⟩
 ·rw[e g n,Array.getElem?_modify,d_ rfl,hg]; rfl
 ·simp[putCells,hs]
 ·apply List.ext_getElem?;intro i;by_cases j:i<m*s
  ·have l:i<cur.size:=(by omega);rw[List.getElem?_take_of_lt (by omega),Array.getElem?_toList];unfold putCells;rw[Array.getElem?_mapIdx,Array.getElem?_eq_getElem l];simp[j,f]
  rw[List.getElem?_eq_none (by simp; omega),List.getElem?_eq_none (by simp; omega)]
 rw[e k c,Array.getElem?_modify,b_ (Ne.symm o)]
theorem M0{w:World}{B g cap m s:Nat}{E:TypeId}(d:Array Value){x:Nat->Value}(h:Own w B E s (.slice (some ⟨g,0,none⟩) m cap) m x)(n:d.size=m*s)(hx : ∀ q,q<m*s->x q=d[q]!)(i:0<m) :
 Holds id w g 0 d/\g<w.heap.size:=by
 obtain⟨l,k,e,_,f,_,c⟩:=h.form i
 rcases h.2 with ⟨a,_⟩|⟨g2,cap2,cur,a,hB,hg,hn,hm,hs,ht⟩
 ·cases a
 simp only[Value.slice.injEq,Option.some.injEq,Addr.mk.injEq]at a e;obtain⟨⟨rfl,_⟩,_,rfl⟩:=a;obtain⟨⟨rfl,_⟩,_,rfl⟩:=e;refine⟨fun j o=>⟨?_,?_⟩,f⟩
 ·have b:=c j (by omega);rw[b,hx j (by omega)]; rfl
 simp[World.frozen?,hg]
theorem He{a:Type} [Inhabited a]{s:Nat}{enc:a->Nat->Value}{e0:a}{l:List a}(f:0<s) : ∀ q,q<l.length*s->flat s (fun k=>enc (l.getD k e0)) q=(Go.Sort.flatK (fun x=>(List.range s).map (enc x)) s l.toArray)[q]! := fun q b=>by
 have d:q / s<l.length:=Nat.div_lt_of_lt_mul (by rw[Nat.mul_comm]; exact b);have e:q % s<s:=I_ _ f;rw[Go.Sort.get_flatK _ _ _ q (by simpa using b)];unfold flat;have c:l.toArray[q / s]! = l.getD (q / s) e0:=by simp[d]
 rw[c];simp[e]
theorem U9{P:Program}{ρ:Ren}(I:SlLaysF0.n6 P ρ){p:Nat}(U : ∀ J w,(callFunc p J).run P w = .ok (.enter p J) w){w:World}{B cap s:Nat}{a:Option Addr}{E:TypeId}(L:0<s)
 (S : ∀ w,(isAgg (ρ.t 24)).run P w = .ok true w) (zE : ∀ w,(Go.sizeOf (ρ.t 24)).run P w = .ok s w) {o:Type} [Inhabited o] {enc:o->Nat->Value} {e0:o} (h1 : ∀ x j,j<s->(enc x j).oneCell'=true) {ky:o->Int} {l:List o}
 (h:Own w B E s (.slice a l.length cap) l.length (flat s fun q=>enc (l.getD q e0)))
 (Y : ∀ O x y,Calls P p #[.agg (aC s (enc x)),.agg (aC s (enc y))] O fun e c=>e = .returned (.int .i64 (kI (ky x) (ky y))) /\ ∃ q os',c=grow (O.drewN q) os') (hm:l.length<4611686018427387904) :
 Calls P (ρ.f 6) #[.slice a l.length cap,.func (.func p) #[] #[]] w fun e c=>e = .returned (.tuple #[]) /\ ∃ H:List o,H.Perm l/\H.Pairwise (fun x y=>ky x<=ky y)/\Own c B E s (.slice a l.length cap) l.length (flat s fun q=>enc (H.getD q e0))/\(∀ k,k<w.heap.size->(Value.slice a l.length cap).ownBlock≠some k->c.heap[k]? = w.heap[k]?)/\iP [E] w c/\Below B w c:=by
 by_cases V:l.length=0
 ·have F:l = []:=List.length_eq_zero_iff.1 V;subst F;refine(AnyF.slices_SortFunc_none I a cap _ w).mono ?_;rintro e c ⟨D,rfl⟩;exact⟨D,[],List.Perm.refl _,List.Pairwise.nil,h,fun _ _ _=>rfl,vO _,Below.refl _ _⟩
 obtain⟨g,c2,u,hB,hg,hmc,_⟩:=h.form (by omega);simp only[Value.slice.injEq]at u;obtain⟨rfl,_,rfl⟩:=u;have A : ∀ x,((fun x=>(List.range s).map (enc x)) x).length=s:=fun x=>by simp
 have hsz:(Go.Sort.flatK (fun x=>(List.range s).map (enc x)) s l.toArray).size=l.length*s:=by simp
 obtain⟨X,F⟩:=M0 _ h hsz (He L) (by omega);have hty:Ty w g E:=h.ty rfl;have C : ∀ x,((List.range s).map (enc x)).toArray=aC s (enc x):=fun x=>by
  apply Array.ext
  ·simp[bX]
  ·intro i h1 W;have m:i<s:=(by simpa using h1);have:=fK (enc x) m;rw[Array.getElem?_eq_getElem W]at this;rw[B_ this]; simp
 have K:=AnyQ.slices_SortFunc I s S zE (fun x=>(List.range s).map (enc x)) A (fun x v C=>by
  obtain⟨j,z,rfl⟩:=List.mem_map.1 C;exact h1 x j (N_.1 z)) (fun x y=>kI (ky x) (ky y)) (Yc _) p #[] g 0 cap l.toArray w U
  (fun N r dk hdk x y=>by rw[C,C]; exact Y _ x y) X F (by simpa using hm)
 rw[show l.toArray.size=l.length by simp]at K;refine K.mono ?_;rintro e c ⟨D,b,N,r,⟨n,_,M⟩,hso,rfl⟩;have n:b.size=l.length:=by simpa using n
 have hw:sortWorldK (fun x=>(List.range s).map (enc x)) s w g 0 N b r=sortWorld id w g 0 N (Go.Sort.flatK (fun x=>(List.range s).map (enc x)) s b) r:=rfl;rw[hw];obtain⟨o1,d⟩:=KO (N:=N) (Go.Sort.flatK (fun x=>(List.range s).map (enc x)) s b) r h (by simp[n]);have u:(b.extract 0 l.length).toList=b.toList:=by
  rw[<- n]; simp
 have T:(l.toArray.extract 0 l.length).toList=l:=by simp
 rw[u,T]at M;refine⟨D,b.toList,M,?_,?_,fun k A hne=>d.block k A (fun e=>hne (by rw[e]; rfl)),gY d hty,⟨d.os,d.tape,d.output,d.size,fun k A=>d.block k (by omega) (by omega)⟩⟩
 ·rw[List.pairwise_iff_getElem];intro i j Z z aa;have m:=hso i j (J_ _) aa (by rw[<- n]; simpa using z);unfold ltOf at m;rw[decide_eq_false_iff_not,OB]at m;have Q:b[i]! = b.toList[i]:=by rw[getElem!_pos b i (by simpa using Z)]; simp
  have R:b[j]! = b.toList[j]:=by rw[getElem!_pos b j (by simpa using z)]; simp
  rw[Q,R]at m;exact Int.not_lt.1 m
 have:=fun q (G:q<l.length*s)=>He (enc:=enc) (e0:=e0) (l:=b.toList) L q (by simpa [n] using G);have o3:Own (sortWorld id w g 0 N (Go.Sort.flatK (fun x=>(List.range s).map (enc x)) s b) r) B E s (.slice (some ⟨g,0,none⟩) l.length cap) l.length (flat s fun q=>enc (b.toList.getD q e0)):=o1.congr fun q G=>by
  have:=this q G;simp only[Array.toArray_toList]at this;exact this.symm
 exact o3
end Go.Proofs.YtahbiajdgealnaaGreatDoor.Fx
namespace Go.Proofs.YtahbiajdgealnaaGreatDoor
open Go.Shelf
def Qh:Go.Shelf.Ren:=⟨fun|6=>43|15=>68|14=>67|28=>102|29=>103|20=>94|21=>95|22=>96|23=>97|24=>98|25=>99|26=>100|27=>101|46=>121|47=>122|48=>123|49=>124|50=>125|57=>138|n=>n,fun|22=>51|24=>66|25=>118|3=>3|39=>142|0=>0|53=>173|55=>28|4=>4|46=>166|45=>165|50=>170|5=>5|9=>9|66=>184|70=>188|76=>200|77=>201|n=>n,fun|n=>n⟩
theorem agG:Go.Proofs.SlLaysF0.n6 Tryz.prog Qh := {
 mixed:=by kernel_rfl
 f6:=⟨Tryz.f43.name,by decide,Tryz.func43.trans (K_ some (by kernel_rfl))⟩
 f14:=⟨Tryz.f67.name,by decide,Tryz.func67.trans (K_ some (by kernel_rfl))⟩
 f15:=Tryz.func68.trans (K_ some (by kernel_rfl))
 f20:=⟨Tryz.f94.name,by decide,Tryz.func94.trans (K_ some (by kernel_rfl))⟩
 f21:=⟨Tryz.f95.name,by decide,Tryz.func95.trans (K_ some (by kernel_rfl))⟩
 f22:=⟨Tryz.f96.name,by decide,Tryz.func96.trans (K_ some (by kernel_rfl))⟩
 f23:=⟨Tryz.f97.name,by decide,Tryz.func97.trans (K_ some (by kernel_rfl))⟩
 f24:=⟨Tryz.f98.name,by decide,Tryz.func98.trans (K_ some (by kernel_rfl))⟩
 f25:=⟨Tryz.f99.name,by decide,Tryz.func99.trans (K_ some (by kernel_rfl))⟩
 f26:=⟨Tryz.f100.name,by decide,Tryz.func100.trans (K_ some (by kernel_rfl))⟩
 f27:=⟨Tryz.f101.name,by decide,Tryz.func101.trans (K_ some (by kernel_rfl))⟩
 f28:=Tryz.func102.trans (K_ some (by kernel_rfl))
 f29:=Tryz.func103.trans (K_ some (by kernel_rfl))
 f46:=⟨Tryz.f121.name,by decide,Tryz.func121.trans (K_ some (by kernel_rfl))⟩
 f47:=Tryz.func122.trans (K_ some (by kernel_rfl))
 f48:=Tryz.func123.trans (K_ some (by kernel_rfl))
 f49:=⟨Tryz.f124.name,by decide,Tryz.func124.trans (K_ some (by kernel_rfl))⟩
 f50:=⟨Tryz.f125.name,by decide,Tryz.func125.trans (K_ some (by kernel_rfl))⟩
 f57:=⟨Tryz.f138.name,by decide,Tryz.func138.trans (K_ some (by kernel_rfl))⟩
 t0:=Tryz.underlying0
 a0:=Tryz.isAgg0
 z0:=Tryz.sizeOf0
 v0:=Tryz.zeroValue0
 t3:=Tryz.underlying3
 a3:=Tryz.isAgg3
 z3:=Tryz.sizeOf3
 v3:=Tryz.zeroValue3
 t4:=Tryz.underlying4
 a4:=Tryz.isAgg4
 z4:=Tryz.sizeOf4
 v4:=Tryz.zeroValue4
 t5:=Tryz.underlying5
 a5:=Tryz.isAgg5
 z5:=Tryz.sizeOf5
 v5:=Tryz.zeroValue5
 t9:=Tryz.underlying9
 a9:=Tryz.isAgg9
 z9:=Tryz.sizeOf9
 v9:=Tryz.zeroValue9
 t22:=Tryz.underlying51
 a22:=Tryz.isAgg51
 z22:=Tryz.sizeOf51
 v22:=Tryz.zeroValue51
 t25:=Tryz.underlying118
 a25:=Tryz.isAgg118
 z25:=Tryz.sizeOf118
 v25:=Tryz.zeroValue118
 t39:=Tryz.underlying142
 a39:=Tryz.isAgg142
 z39:=Tryz.sizeOf142
 v39:=Tryz.zeroValue142
 t45:=Tryz.underlying165
 a45:=Tryz.isAgg165
 z45:=Tryz.sizeOf165
 v45:=Tryz.zeroValue165
 t46:=Tryz.underlying166
 a46:=Tryz.isAgg166
 z46:=Tryz.sizeOf166
 v46:=Tryz.zeroValue166
 t50:=Tryz.underlying170
 a50:=Tryz.isAgg170
 z50:=Tryz.sizeOf170
 v50:=Tryz.zeroValue170
 t53:=Tryz.underlying173
 a53:=Tryz.isAgg173
 z53:=Tryz.sizeOf173
 v53:=Tryz.zeroValue173
 t55:=Tryz.underlying28
 a55:=Tryz.isAgg28
 z55:=Tryz.sizeOf28
 v55:=Tryz.zeroValue28
 t66:=Tryz.underlying184
 a66:=Tryz.isAgg184
 z66:=Tryz.sizeOf184
 v66:=Tryz.zeroValue184
 t70:=Tryz.underlying188
 a70:=Tryz.isAgg188
 z70:=Tryz.sizeOf188
 v70:=Tryz.zeroValue188
 t76:=Tryz.underlying200
 a76:=Tryz.isAgg200
 z76:=Tryz.sizeOf200
 v76:=Tryz.zeroValue200
 t77:=Tryz.underlying201
 a77:=Tryz.isAgg201
 z77:=Tryz.sizeOf201
 v77:=Tryz.zeroValue201 }
end Go.Proofs.YtahbiajdgealnaaGreatDoor
namespace Go.Proofs.YtahbiajdgealnaaGreatDoor
open Go.RowKit Go.Sort Rt
set_option linter.unusedVariables false
set_option maxRecDepth 20000
namespace Fx
def Yd(w w':World):Prop := ∃ q a,w'=grow (w.drewN q) a
theorem Yd.refl(w:World):Yd w w:=⟨0,#[],by rw[grow_empty]; rfl⟩
theorem Yd.alloc{w a b:World}(h:Yd w a)(z : ∃ o,b=a.alloc o):Yd w b:=by
 obtain⟨q,c,rfl⟩:=h;obtain⟨o,rfl⟩:=z;exact⟨q,c ++ #[o],by rw[alloc_eq_grow,grow_grow]⟩
theorem Yd.drew{w a b:World}(h:Yd w a)(z:b=a.drew):Yd w b:=by
 obtain⟨q,c,rfl⟩:=h;subst z;exact⟨q+1,c,rfl⟩
section
variable {P:Program} {n:Nat} {Q:Post} {f:Nat->Value} {w:World} {ops:Array Oper} {rest:List Oper} {o:Oper}
theorem L.agH{T:TypeId}{x:Operand}{v:Value}{m:Nat}{y:Nat->Value}(i:Region.wanted o (yf ops f)=true)(d:o.op = .box T x)(hx:ev f x=v)(b:v.cells=aC m y)(c:inn n o.dst=true)
 (h : ∀ g a,g=w.heap.size->aS a g m y T->Stp w.heap.size w a->(∃ o,a=w.alloc o)->L P n ops Q rest (put f o.dst (.pointer (some ⟨g,0,none⟩))) a):L P n ops Q (o::rest) f w:=by
 have e:(execOp (ev f) o).run P w = .ok (.value (.pointer (some ⟨w.heap.size,0,none⟩))) (w.alloc (.cells v.cells T)):=by
  unfold execOp;simp[d,hx,Instr.box,newVar,newRow]
 refine L.val i e c (h _ _ rfl ?_ (Stp.alloc _ _) ⟨_,rfl⟩);show(w.alloc _).heap[w.heap.size]? = _;rw[alloc_at,d_ rfl,b]
theorem L.Ye{T E:TypeId}{len s:Nat}{l:List (Nat × Operand)}{vs:List (Nat × Value)}{zc y:Nat->Value}(I:Region.wanted o (yf ops f)=true)(B:o.op = .buildSlice T len l.toArray)(C:l.map (fun p=>(p.1,ev f p.2))=vs)(H:P.underlying T=some (.slice E))(k:(P.info? E).map (·.size)=some s)
 (q:Nat.ble (len*s) 16777216=true) (d:Nat.beq (len*s) 0=false) (J:((P.info? E).bind (·.zero)).map (·.cells)=some (aC s zc)) (u:Instr.fill (fun i=>some (i*s,s)) (aC (len*s) (fun j=>zc (j % s))) vs=some (aC (len*s) y)) (t:inn n o.dst=true)
 (h : ∀ g a,g=w.heap.size->aS a g (len*s) y E->Stp w.heap.size w a->(∃ o,a=w.alloc o)->L P n ops Q rest (put f o.dst (.slice (some ⟨g,0,none⟩) len len)) a):L P n ops Q (o::rest) f w:=by
 obtain⟨z,K,M⟩:=Option.map_eq_some_iff.1 J;obtain⟨i,c,N⟩:=Option.bind_eq_some_iff.1 K;have G:i.size=s:=by rw[c]at k; simpa using k
 have O : ¬ len*s>2^24:=by have:=Nat.le_of_ble_eq_true q; omega
 have b:len*s≠0:=fun e=>by rw[e]at d; exact L_ d (by decide)
 have F:0<s:=Nat.pos_of_ne_zero fun e=>b (by rw[e,Nat.mul_zero]);have r:(Array.range (len*s)).map (fun j=>z.cells[j % z.cells.size]!)=aC (len*s) (fun j=>zc (j % s)):=by
  refine uj (by simp) fun j x => ?_;have A:j % s<s:=I_ _ F;have v:=fK zc A;rw[M];simp[x,bX];rw[getElem!_def,v]
 have D:(execOp (ev f) o).run P w = .ok (.value (.slice (some ⟨w.heap.size,0,none⟩) len len)) (w.alloc (.cells (aC (len*s) y) E)):=by
  unfold execOp;simp only[B,List.map_toArray,C];unfold Instr.buildSlice;have m : ¬ 16777216<len*s:=by omega
  simp[underlying,sizeOf,typeInfo,zeroValue,H,c,G,N,m];simp[b,r,u,newRow]
 refine L.val I D t (h _ _ rfl ?_ (Stp.alloc _ _) ⟨_,rfl⟩);show(w.alloc _).heap[w.heap.size]? = _;rw[alloc_at,d_ rfl]
end
section
variable {P:Program} {n:Nat} {ops:List Oper} {Q:Post}
theorem W.adq{f:Nat->Value}{w:World}{id:Nat}(l:List Nat)(cs:List Nat)(S:World->World->Prop)(j : ∀ w,S w w)(m : ∀ a b c,S a b->S b c->S a c)(fG:List (Nat × Nat × List Nat))(t:P.follows .mixedOrders=true)(u:lH n ops=true)(x:Region.noSelect ops.toArray=true)(e:zG ops l=true)(v:vM ops cs fG l=true)
 (h : ∀ g,Below w.heap.size w g->g=w.drew->R P n ops cs S Q l f g):W P n (.region id ops.toArray true) Q f w:=fun a o=>by
 refine wp_region_any t ?_;unfold zG at e;rw[R_,R_,R_,List.all_eq_true,List.all_eq_true]at e;obtain⟨⟨⟨y,z⟩,p3⟩,p4⟩:=e;have s:=A_ y;have A:l.Nodup:=h_ p3;have:=R.any (P:=P) (Q:=Q) (fG:=fG) u x j m ops.length l (Array.replicate ops.length false) a f w.drew s (by simp) (Jh.start _ _ _) (fun i=>by
  have p : ∀ i,(Array.replicate ops.length false).getD i false=false:=fun i=>getD_replicate_false _ _;constructor
  ·intro d; exact⟨by simpa [Nat.blt_eq] using z i d,p i⟩
  ·intro d;obtain⟨k,q,r⟩:=List.any_eq_true.1 (p4 i (by simpa using d.1));rw[A_ r]; exact q) A (vN v) o (h w.drew (Below.refl _ _).drew rfl)
 simpa using this
end
end Fx
namespace Rt
structure I7 where
 x:Nat->Int
 h:0<=x 1/\x 1<=18446744073709551615
def g0:I7:=⟨fun _=>0,by decide⟩
instance:Inhabited I7:=⟨g0⟩
def Jo(x:Nat->Int):I7:=if h:0<=x 1/\x 1<=18446744073709551615 then⟨x,h⟩else g0
def KP(x:I7):Int:=x.x 0*18446744073709551616+x.x 1
theorem ZI{x:Nat->Int}(h:0<=x 1/\x 1<=18446744073709551615):(Jo x).x=x:=by unfold Jo; rw[dif_pos h]
def QK(a b:Int):Int:=if a=0 then b else a
def M4(a b:Int)(i:Nat):Int:=if i=0 then a else b
def orW(a b:Int):Nat->Value:=fun j => .int .i64 (M4 a b j)
section
variable {a b:Int} {i:Nat}
theorem aou(d:i=0\/a=0)(c:M4 a b i=0):i+1=0\/a=0:=by
 unfold M4 at c
 rcases d with rfl|e
 ·exact .inr (by simpa using c)
 exact .inr e
theorem aov(d:i=0\/a=0)(c:M4 a b i=0):i+1<2\/QK a b=0:=by
 unfold M4 at c;by_cases e:i=0
 ·exact .inl (by omega)
 rw[b_ e]at c
 rcases d with h|h
 ·exact L_ h e
 exact .inr (by unfold QK; rw[d_ h]; exact c)
theorem aow(d:i=0\/a=0)(c : ¬ M4 a b i=0):QK a b=M4 a b i:=by
 unfold M4 at c ⊢;unfold QK;by_cases e:i=0
 ·rw[d_ e]at c ⊢; rw[b_ c]
 rw[b_ e]
 rcases d with h|h
 ·exact L_ h e
 rw[d_ h]
theorem aox(h:i<2\/QK a b=0)(c : ¬ (i:Int)<2):QK a b=0:=by
 rcases h with h|h
 ·omega
 exact h
end
theorem adr(x y:I7):QK (Fx.kI (x.x 0) (y.x 0)) (Fx.kI (x.x 1) (y.x 1))=Fx.kI (KP x) (KP y):=by
 have a:=x.h;have b:=y.h;unfold QK Fx.kI KP
 repeat' split
 all_goals first|rfl|omega
structure Qi(n:Nat)(S:Nat->Bool)(il:List Nat):Prop where
 nd:il.Nodup
 mem : ∀ i,i∈il<->(i<n/\S i=true)
theorem Qi.start(n:Nat):Qi n (fun _=>false) []:=⟨List.nodup_nil,fun i=>⟨fun h=>(nomatch h),fun h=>(nomatch h.2)⟩⟩
theorem Qi.step{n i:Nat}{S:Nat->Bool}{c:List Nat}(h:Qi n S c)(hi:i<n)(l:S i=false):Qi n (Fx.aM S i true) (c ++ [i]):=by
 have k:i ∉ c:=fun g=>by have:=((h.mem i).1 g).2; rw[l]at this; cases this
 refine⟨List.nodup_append.2 ⟨h.nd,by simp,fun a f b d e => ?_⟩,fun j => ?_⟩
 ·rw[List.mem_singleton]at d; subst d; subst e; exact k f
 rw[List.mem_append,List.mem_singleton,h.mem];show _<->(j<n/\(if j=i then true else S j)=true);by_cases e:j=i
 ·subst e; rw[d_ rfl]; exact⟨fun _=>⟨hi,rfl⟩,fun _ => .inr rfl⟩
 rw[b_ e]; exact⟨fun h=>h.elim id fun h=>L_ h e,fun h => .inl h⟩
theorem Qi.len{n:Nat}{S:Nat->Bool}{c:List Nat}(h:Qi n S c):c.length<=n :=
 BQ n c.length (fun q=>c.getD q 0) (fun q d=>by
  have:c.getD q 0∈c:=by rw[r_,o_ d]; exact P_ d
  exact((h.mem _).1 this).1) fun a b f g e=>by
  have e:c.getD a 0=c.getD b 0:=e;rw[r_,r_,o_ f,o_ g]at e;exact(List.getElem_inj h.nd).1 e
structure GrS(m:dP)(l:List I7):Prop where
 mem : ∀ x,x∈l -> ∃ i,i<m.gn/\x.x=m.g i
 all : ∀ i,i<m.gn -> ∃ x,x∈l/\x.x=m.g i
 up:l.Pairwise fun x y=>KP x<KP y
theorem GrS.of{m:dP}{w:World}{b:Nat}{t:List Nat}{l:List I7}{S:Nat->Bool}(o:Fx.gX w b m.gn (fun i=>m.g i 0) (fun i=>m.g i 1) (tY m.g))(hi:Qi m.gn S t)(z : ∀ i,i<m.gn->S i=true)(r:l.Perm (t.map fun i=>Jo (m.g i)))(B:l.Pairwise fun x y=>KP x<=KP y):GrS m l:=by
 have k : ∀ i,i<m.gn->(Jo (m.g i)).x=m.g i:=fun i hi=>ZI (o.ok hi).b;have f : ∀ i,i∈t<->i<m.gn:=fun i=>by rw[hi.mem]; exact⟨fun h=>h.1,fun h=>⟨h,z i h⟩⟩
 have p : ∀ x,x∈l -> ∃ i,i<m.gn/\x=Jo (m.g i):=fun x s=>by
  obtain⟨i,c,d⟩:=List.mem_map.1 (r.mem_iff.1 s);exact⟨i,(f i).1 c,d.symm⟩
 have A:l.Nodup:=by
  rw[r.nodup_iff,List.nodup_iff_pairwise_ne,List.pairwise_map];refine(List.nodup_iff_pairwise_ne.1 hi.nd).imp_of_mem fun {a b} ha hb q e=>q ?_;have c:=K_ I7.x e;rw[k a ((f a).1 ha),k b ((f b).1 hb)]at c;exact o.inj a b ((f a).1 ha) ((f b).1 hb) (by show m.g a 0=m.g b 0; rw[c]) (by show m.g a 1=m.g b 1; rw[c])
 refine⟨fun x s => ?_,fun i c => ?_,?_⟩
 ·obtain⟨i,c,d⟩:=p x s;exact⟨i,c,by rw[d,k i c]⟩
 ·exact⟨Jo (m.g i),r.mem_iff.2 (List.mem_map.2 ⟨i,(f i).2 c,rfl⟩),k i c⟩
 refine(B.and (List.nodup_iff_pairwise_ne.1 A)).imp_of_mem fun {a b} ha hb h => ?_;obtain⟨i,c,u⟩:=p a ha;obtain⟨j,d,v⟩:=p b hb;have q:=h.2
 rcases Int.lt_or_eq_of_le h.1 with h3|h3
 ·exact h3
 exfalso;have C:=a.h;have D:=b.h;unfold KP at h3;refine q ?_;have n:a.x 0=b.x 0/\a.x 1=b.x 1:=by omega
 rw[u,v,k i c,k j d]at n;have:=o.inj i j c d n.1 n.2;rw[u,v,this]
def Va(m:dP)(l:List Int)(k:Nat):Nat->Value:=lY (l.getD k 0) (m.T.par (l.getD k 0)) (CS m (l.getD k 0))
def V6(l:List I7)(k:Nat):Nat->Value:=jf (l.getD k g0).x
theorem KQ{id par:Int}{R:Nat->Int}{z:Nat->Value} : ∀ j,j<56->Fx.bI (Fx.bI (Fx.bI z 0 1 (fun _ => .int .u64 id)) 1 1 (fun _ => .int .u64 par)) 2 54 (Fx.rv .i64 R) j=lY id par R j:=fun j a=>by
 unfold Fx.bI lY
 rcases(show j=0\/j=1\/2<=j by omega)with rfl|rfl|h
 ·rfl
 ·rfl
 ·rw[d_ (by omega),b_ (by omega),b_ (by omega)]; rfl
theorem Yf{m:dP}{l:List Int}{n:Nat}{id par:Int}{R:Nat->Int}{z z2:Nat->Value}(b:l.getD n 0=id)(c:m.T.par id=par)(d:CS m id=R) : ∀ j,j<(n+1)*56->Fx.iB (Fx.flat 56 (Va m l)) (n*56) (Fx.bI z (0*56) 56 (Fx.bI (Fx.bI (Fx.bI z2 0 1 (fun _ => .int .u64 id)) 1 1 (fun _ => .int .u64 par)) 2 54 (Fx.rv .i64 R))) j=Fx.flat 56 (Va m l) j:=fun j a =>
 (Fx.xI j a).trans (Fx.bK (fun k _ q f=>by
  unfold Fx.qH;by_cases e:k=n
  ·subst e; rw[d_ rfl,KQ q f]; unfold Va; rw[b,c,d]
  ·rw[b_ e]) j a)
theorem Yg{g:Nat->Nat->Int}{a:List Nat}{i:Nat}{z:Nat->Value} : ∀ j,j<(a.length+1)*5->Fx.iB (Fx.flat 5 fun k=>jf (g (a.getD k 0))) (a.length*5) (Fx.bI z (0*5) 5 (jf (g i))) j=Fx.flat 5 (fun k=>jf (g ((a ++ [i]).getD k 0))) j:=fun j b =>
 (Fx.xI j b).trans (Fx.bK (fun k c q _=>by
  unfold Fx.qH;by_cases e:k=a.length
  ·subst e; rw[d_ rfl]; simp[r_]
  ·rw[b_ e]; show jf (g (a.getD k 0)) q=_; rw[r_,r_,List.getElem?_append_left (by omega)]) j b)
theorem Yh{m:dP}{a:List Nat}{S:Nat->Bool}{w:World}{b:Nat}(d:Fx.gX w b m.gn (fun i=>m.g i 0) (fun i=>m.g i 1) (tY m.g))(hi:Qi m.gn S a) : ∀ j,j<(a.map fun i=>Jo (m.g i)).length*5->Fx.flat 5 (fun k=>jf (m.g (a.getD k 0))) j=Fx.flat 5 (V6 (a.map fun i=>Jo (m.g i))) j:=fun j f =>
 Fx.bK (n:=(a.map fun i=>Jo (m.g i)).length) (fun k c q _=>by
  rw[List.length_map]at c;unfold V6;have h:a.getD k 0∈a:=by rw[r_,o_ c]; exact P_ c
  have e:((a.map fun i=>Jo (m.g i)).getD k g0)=Jo (m.g (a.getD k 0)):=by
   rw[r_,r_,o_ (by rw[List.length_map]; exact c),o_ c,List.getElem_map]; rfl
  rw[e,ZI (d.ok ((hi.mem _).1 h).1).b]) j f
theorem Qj(s:DL)(a:Option Addr)(n c:Nat):Fx.dA (pX s) 18 (.slice a n c)=pX { s with na:=a,nn:=n,nc:=c }:=by
 funext p
 unfold Fx.dA pX;by_cases e:p=18
 ·subst e; rw[d_ rfl,b_ (by omega),b_ (by omega),b_ (by omega),d_ rfl]
 rw[b_ e]
 repeat' split
 all_goals first|rfl|omega
theorem M5(s:DL)(a:Option Addr)(n c:Nat) : ∀ p,p<20->Fx.dA (pX s) 19 (.slice a n c) p=pX { s with ga:=a,gn:=n,gc:=c } p:=fun p b=>by
 unfold Fx.dA pX;by_cases e:p=19
 ·subst e; rw[d_ rfl,b_ (by omega),b_ (by omega),b_ (by omega),b_ (by omega)]
 ·rw[b_ e]
  repeat' split
  all_goals first|rfl|omega
def Vb(m:dP)(d:Option Addr)(f e:Nat)(a:Option Addr)(c b:Nat):DL:=⟨m.inn,m.left,m.known,d,f,e,a,c,b⟩
theorem Yi{id par:Int}{R:Nat->Int}{z z2:Nat->Value} : ∀ j,j<1*56->(Fx.bI z (0*56) 56 (Fx.bI (Fx.bI (Fx.bI z2 0 1 (fun _ => .int .u64 id)) 1 1 (fun _ => .int .u64 par)) 2 54 (Fx.rv .i64 R)) j).oneCell'=true:=fun j a=>by
 rw[show Fx.bI z (0*56) 56 (Fx.bI (Fx.bI (Fx.bI z2 0 1 (fun _ => .int .u64 id)) 1 1 (fun _ => .int .u64 par)) 2 54 (Fx.rv .i64 R)) j=Fx.bI (Fx.bI (Fx.bI z2 0 1 (fun _ => .int .u64 id)) 1 1 (fun _ => .int .u64 par)) 2 54 (Fx.rv .i64 R) (j-0*56) by unfold Fx.bI; rw[d_ (by omega)],KQ _ (by omega)];exact uS _ _ _ _
theorem Yj{x:Nat->Int}{z:Nat->Value} : ∀ j,j<1*5->(Fx.bI z (0*5) 5 (jf x) j).oneCell'=true:=fun j a=>by
 unfold Fx.bI; rw[d_ (by omega)]; exact tF x _
theorem ads{m:dP}{c:List Nat}{S:Nat->Bool}{w f:World}{b B cap d:Nat}{a:Option Addr}{T:TypeId}(l:Fx.gX w b m.gn (fun i=>m.g i 0) (fun i=>m.g i 1) (tY m.g))(hi:Qi m.gn S c)(e:d=c.length)(n:Fx.Own f B T 5 (.slice a d cap) d (Fx.flat 5 fun k=>jf (m.g (c.getD k 0)))) :
 Fx.Own f B T 5 (.slice a (c.map fun i=>Jo (m.g i)).length cap) (c.map fun i=>Jo (m.g i)).length (Fx.flat 5 (V6 (c.map fun i=>Jo (m.g i)))):=by
 have h:=n.congr (y:=Fx.flat 5 (V6 (c.map fun i=>Jo (m.g i)))) (fun j o=>Yh l hi j (by rw[List.length_map,<- e]; exact o));rw[List.length_map,<- e]; exact h
theorem Vd(m:dP){z:Nat->Value}(e : ∀ j,18<=j->z j = .slice none 0 0){x1 x2:Nat->Value}(h1 : ∀ j,j<6->x1 j = .bool (m.inn j))(d : ∀ j,j<6->x2 j = .bool (m.left j)) : ∀ j,j<20->Fx.bI (Fx.bI (Fx.bI z 0 6 x1) 6 6 x2) 12 6 (Fx.rv .u64 m.known) j=pX (Vb m none 0 0 none 0 0) j:=fun j f=>by
 unfold Fx.bI pX;by_cases a:j<6
 ·rw[b_ (by omega),b_ (by omega),d_ (by omega),d_ a]; exact h1 _ (by omega)
 ·by_cases b:j<12
  ·rw[b_ (by omega),d_ (by omega),b_ a,d_ b]; exact d _ (by omega)
  ·by_cases c:j<18
   ·rw[d_ (by omega),b_ a,b_ b,d_ c]; rfl
   ·rw[b_ (by omega),b_ (by omega),b_ (by omega),b_ a,b_ b,b_ c,e j (by omega)];split <;> rfl
end Rt
structure StQ(w:World)(B:Nat)(m:dP)(s:DL)(l:List Int)(gl:List I7):Prop where
 inn:s.inn=m.inn
 left:s.left=m.left
 known:s.known=m.known
 nn:s.nn=l.length
 gn:s.gn=gl.length
 ls:l.Pairwise (· < ·) /\ ∀ k,k∈l<->m.T.has k=true
 len:l.length<=32
 gs:GrS m gl
 glb:gl.length<=m.gn
 n:Fx.Own w B 61 56 (.slice s.na s.nn s.nc) s.nn (Fx.flat 56 (Va m l))
 g:Fx.Own w B 66 5 (.slice s.ga s.gn s.gc) s.gn (Fx.flat 5 (V6 gl))
end Go.Proofs.YtahbiajdgealnaaGreatDoor
namespace Go.Proofs.YtahbiajdgealnaaGreatDoor
open Go.RowKit Rt
open Fx (fD eP fJ bD gP gM dD dS gD jB eX jC fU jD je Lv sN Ln Ws Qv Wl Rp Wc Qs Wr Sb Lk Wk rC rV sR Rs Rn Rd Rk Wb Wx Wo Dy Wt qW I4 Qn FM Bc yN zh C9 Dw qo gY zi ng uq uo vO wZ zf Dk Ap rv aC aS bI aM ev cK Stp dH aW flat dA Mp fq aY gX iU bF down iN jO kI iW ou bK bJ cells_one iP bV xk unseen jK iB bY dM bM bQ cu cB gJ gT qb gQ)
set_option maxRecDepth 20000
set_option linter.unusedVariables false
theorem OC(n:Int)(w:World) :
 Calls Tryz.prog 69 #[au n] w fun e a=>e = .returned (.bool false)/\a=w:=by
 refine Kent Tryz.func69 6 ?_;refine ay<|av aG<|aD<|ay<|av (au n)<|av (au n)<|Lv aG (kr rfl)<|av aG<|aD<|Wr<|aK aG ?_;exact⟨rfl,rfl⟩
theorem Yk(a b:Int)(w:World) :
 Calls Tryz.prog 46 #[au a,au b] w fun e f=>e = .returned (au (kI a b))/\f=w:=by
 refine Kent Tryz.func46 20 ?_;refine ay<|av (au 0)<|aD<|ay<|av (au a)<|lU (OC a _) _ rfl<|av aG<|aD<|ay<|av (au b)<|lU (OC b _) _ rfl<|av aG<|aD<|Ws<|ay<|av aG<|aD<|aL<|Wk<|sN<|Ws<|ay<|av aG<|aD<|aL<|Wk<|sN<|Ws<|ay<|av (au a)<|av (au b) ?_;by_cases c:a<b
 ·refine Lv aH (gV c)<|aD<|aO<|ay<|av (au (-1))<|aD<|Wr<|sR<|aK (au (-1)) ?_;exact⟨by unfold kI; simp[c],rfl⟩
 refine Lv aG (gW c)<|aD<|aL<|Wk<|sN<|Ws<|ay<|av (au a)<|av (au b) ?_;by_cases d:b<a
 ·refine Lv aH (mK d)<|aD<|aO<|ay<|av (au 1)<|aD<|Wr<|sR<|aK (au 1) ?_;exact⟨by unfold kI; simp[c,d],rfl⟩
 refine Lv aG (mM d)<|aD<|aL<|Wk<|sN<|ay<|av (au 0)<|aD<|Wr<|aK (au 0) ?_;exact⟨by unfold kI; simp[c,d],rfl⟩
theorem OD(n:Int)(w:World) :
 Calls Tryz.prog 70 #[aF n] w fun e a=>e = .returned (.bool false)/\a=w:=by
 refine Kent Tryz.func70 6 ?_;refine ay<|av aG<|aD<|ay<|av (aF n)<|av (aF n)<|Lv aG (kr rfl)<|av aG<|aD<|Wr<|aK aG ?_;exact⟨rfl,rfl⟩
theorem Yl(a b:Int)(w:World) :
 Calls Tryz.prog 47 #[aF a,aF b] w fun e f=>e = .returned (au (kI a b))/\f=w:=by
 refine Kent Tryz.func47 20 ?_;refine ay<|av (au 0)<|aD<|ay<|av (aF a)<|lU (OD a _) _ rfl<|av aG<|aD<|ay<|av (aF b)<|lU (OD b _) _ rfl<|av aG<|aD<|Ws<|ay<|av aG<|aD<|aL<|Wk<|sN<|Ws<|ay<|av aG<|aD<|aL<|Wk<|sN<|Ws<|ay<|av (aF a)<|av (aF b) ?_;by_cases c:a<b
 ·refine Lv aH (gV c)<|aD<|aO<|ay<|av (au (-1))<|aD<|Wr<|sR<|aK (au (-1)) ?_;exact⟨by unfold kI; simp[c],rfl⟩
 refine Lv aG (gW c)<|aD<|aL<|Wk<|sN<|Ws<|ay<|av (aF a)<|av (aF b) ?_;by_cases d:b<a
 ·refine Lv aH (mK d)<|aD<|aO<|ay<|av (au 1)<|aD<|Wr<|sR<|aK (au 1) ?_;exact⟨by unfold kI; simp[c,d],rfl⟩
 refine Lv aG (mM d)<|aD<|aL<|Wk<|sN<|ay<|av (au 0)<|aD<|Wr<|aK (au 0) ?_;exact⟨by unfold kI; simp[c,d],rfl⟩
theorem aoy(a b:Int)(c:Nat)(w:World)(q:iU w c 0 2 (orW a b)) :
 Calls Tryz.prog 45 #[bL c 2 2] w fun e s=>e = .returned (au (QK a b))/\s=w:=by
 refine Kent Tryz.func45 18 ?_;refine ay<|av (au 0)<|aD<|ay<|av (au 0)<|aD<|Ws<|ay<|av (bL c 2 2)<|av (au 2)<|av (au 0)<|aD<|Wb<|Wo (fun f p => ∃ i:Nat,i<=2/\(i=0\/a=0)/\(i<2\/QK a b=0)/\p=w/\f 3=au 0/\f 6=bL c 2 2/\f 7=au 2/\f 8=au (i:Int)/\iU p c 0 2 (orW a b)) (fun f _=>(2-intOf (f 8)).toNat) ⟨0,(by omega),(.inl rfl),(.inl (by decide)),rfl,Fx.ic,(by rfl),Fx.ic,Fx.ic,q⟩ ?_;rintro t v ⟨i,u,m,r,l,j,n,k,g,o⟩;refine ay ?_;by_cases h:(i:Int)<2
 ·refine Lv aH (gV h (hx:=g) (hy:=k))<|aD<|Ws<|aO<|Wk<|sN<|Ws<|Wb<|ay<|Lv (pf c i) (dh 1 (hx:=n) (hi:=g))<|Lv (au (M4 a b i)) (aN o i)<|av (au (M4 a b i))<|aD<|ay<|av (au (M4 a b i))<|aX j ?_;by_cases d:(M4 a b i)=0
  ·refine Lv aG (kr d)<|aD<|aL<|Wk<|bQ<|sN<|Wl<|Lv (au ((i:Int)+1)) (eY (hx:=g))<|av (au ((i:Int)+1))<|Ln<|gT ⟨i+1,(by omega),(aou m d),(aov m d),l,(j.trans Fx.ic),n,(k.trans Fx.ic),Fx.ic,o⟩ ?_;show(2-intOf (au ((i:Int)+1))).toNat<_;simp only[g,intOf]; omega
  refine Lv aH (nE d)<|aD<|aO<|ay<|av (au (M4 a b i))<|av (au (M4 a b i))<|aD<|Wr<|bM<|sR<|qb<|bM<|sR<|aK (au (M4 a b i)) ?_;exact⟨by rw[aow m d],l⟩
 refine Lv aG (gW h (hx:=g) (hy:=k))<|aD<|Ws<|aL<|Wx<|cu<|gJ<|cB<|sN<|ay<|aX j<|av (au 0)<|aD<|Wr<|aK (au 0) ?_;exact⟨by rw[aox r h],l⟩
set_option maxRecDepth 20000
set_option linter.unusedVariables false
theorem Rt.adt{w:World}{g:Nat}{a b:Int}{z:Nat->Value}{T:TypeId}(h:aS w g 2 (bI (bI z (0*1) 1 (fun _=>au a)) (1*1) 1 (fun _=>au b)) T):iU w g 0 2 (orW a b):=(h.congr (y:=orW a b) fun j c=>by
 rcases(show j=0\/j=1 by omega)with rfl|rfl <;> rfl).aI
theorem adu(x y:I7)(w:World) :
 Calls Tryz.prog 44 #[.agg (aC 5 (jf x.x)),.agg (aC 5 (jf y.x))] w fun e H=>e = .returned (au (kI (KP x) (KP y))) /\ ∃ q C,H=Go.Sort.grow (w.drewN q) C:=by
 refine Kent Tryz.func44 17 ?_;refine ay<|Fx.L.agH (m:=5) (y:=jf x.x) (by rfl) rfl rfl (bJ _ _) rfl fun k V t d D I => ?_;have f:=bH D.old (Below.refl w.heap.size w);have M:=iE t;have S:=d.lt;refine Fx.L.agH (m:=5) (y:=jf y.x) (by rfl) rfl rfl (bJ _ _) rfl fun l X g n E J => ?_;have⟨B,p⟩:=fC E.old d f;have N:=jI g f.size;have P:=cO g d.lt;have T:=n.lt;refine av (au 0)<|aD<|Ws ?_;refine Fx.W.adq [0,2,5,7,1,3,6,8,4,9,10,11,12] [0,4,0,4,2,0,1,0,1,2,2,3,0] Fx.Mk uq Fx.Mk.trans (fG := [(4,1,[1]),(9,1,[4,1]),(10,1,[4,1]),(11,1,[10,4,1]),(4,3,[3]),(9,3,[4,3]),(10,3,[4,3]),(11,3,[10,4,3]),(11,6,[9,6]),(11,8,[9,8]),(9,4,[4]),(10,4,[4]),(11,4,[10,4]),(12,4,[4]),(10,9,[9]),(11,9,[9]),(12,9,[9]),(11,10,[10]),(12,10,[10]),(12,11,[11])]) (by kernel_rfl) (by kernel_rfl) (by kernel_rfl) (by kernel_rfl) (by kernel_rfl) fun Z z A => ?_;have⟨a,b,r⟩:=ku z B n p;refine bf (pt k)<|bf (pt l)<|bf (pf k 1)<|bf (pf l 1)<|Rs (au (x.x 0)) (aN a.aI 0) ?_;refine Rs (au (y.x 0)) (aN b.aI 0) ?_;refine Rd (v:=aF (x.x 1)) (by rfl) (by rfl) (uq _) (fun G c=>bD (x:=jf x.x) rfl rfl (by kernel_rfl) (a.aI.below c (by have:=a.lt; omega)) (i:=1) (by omega) (by omega) rfl) ?_;refine Rd (v:=aF (y.x 1)) (by rfl) (by rfl) (uq _) (fun G c=>bD (x:=jf y.x) rfl rfl (by kernel_rfl) (b.aI.below c (by have:=b.lt; omega)) (i:=1) (by omega) (by omega) rfl) ?_;refine Ct (lU (Yk (x.x 0) (y.x 0) _) _ rfl (Ln ⟨Below.refl _ _,?_⟩));refine Ct (lU (Yl (x.x 1) (y.x 1) _) _ rfl (Ln ⟨Below.refl _ _,?_⟩));refine Ct<|Fx.L.Ye (vs := [(0,au (kI (x.x 0) (y.x 0))),(1,au (kI (x.x 1) (y.x 1)))]) (s:=1) (zc:=rv .i64 (fun _=>0)) (y:=bI (bI (fun j=>(rv .i64 (fun _=>0)) (j % 1)) (0*1) 1 (fun _=>au (kI (x.x 0) (y.x 0)))) (1*1) 1 (fun _=>au (kI (x.x 1) (y.x 1)))) (by rfl) rfl rfl Tryz.underlying88 (by kernel_rfl) (by rfl) (by rfl) (by kernel_rfl) (by rw[bF (off:=0*1) (s:=1) (y:=fun _=>au (kI (x.x 0) (y.x 0))) rfl (cells_one (by rfl)) (by rfl)]; rw[bF (off:=1*1) (s:=1) (y:=fun _=>au (kI (x.x 1) (y.x 1))) rfl (cells_one (by rfl)) (by rfl)]; rfl) rfl fun u Y h o F K => ?_;have O:=jI h r.size;have⟨Q,R⟩:=xM h a.lt b.lt;have U:=o.lt;refine Ln ⟨F.old,?_⟩;refine gF<|lU (aoy (kI (x.x 0) (y.x 0)) (kI (x.x 1) (y.x 1)) u _ (adt o)) _ rfl<|Ln<|bf (au (QK (kI (x.x 0) (y.x 0)) (kI (x.x 1) (y.x 1))))<|bR<|Wr<|aK (au (QK (kI (x.x 0) (y.x 0)) (kI (x.x 1) (y.x 1)))) ?_;exact⟨by rw[<- adr],(((((Fx.Yd.refl w).alloc I).alloc J).drew A).alloc K)⟩
theorem adv{w:World}{B cap:Nat}{a:Option Addr}{l:List I7}(h:Fx.Own w B 66 5 (.slice a l.length cap) l.length (flat 5 (V6 l)))(i:l.length<=1000000) :
 Calls Tryz.prog 43 #[.slice a l.length cap,.func (.func 44) #[] #[]] w fun e b=>e = .returned (.tuple #[]) /\ ∃ c:List I7,c.Perm l/\c.Pairwise (fun x y=>KP x<=KP y)/\Fx.Own b B 66 5 (.slice a l.length cap) l.length (flat 5 (V6 c))/\(∀ k,k<w.heap.size->(Value.slice a l.length cap).ownBlock≠some k->b.heap[k]? = w.heap[k]?)/\iP [66] w b/\Below B w b:=by
 have f:Fx.Own w B 66 5 (.slice a l.length cap) l.length (flat 5 fun q=>(fun x:I7=>jf x.x) (l.getD q g0)):=h
 have:=Fx.U9 agG (fun d w=>enters_of Tryz.func44 (by kernel_rfl) rfl d w) (by decide) Tryz.isAgg66 Tryz.sizeOf66 (enc:=fun x:I7=>jf x.x) (e0:=g0) (ky:=KP) (fun x j _=>tF x.x j) f
  (by intro g x y; refine(adu x y g).mono fun e b h => ?_; exact h) (by omega)
 exact this
theorem Ym{m:dP}{d:List Nat}{S:Nat->Bool}{p w:World}{b B cap c:Nat}{a:Option Addr}(n:gX p b m.gn (fun i=>m.g i 0) (fun i=>m.g i 1) (tY m.g))(hi:Qi m.gn S d)(e:c=d.length)(o:Fx.Own w B 66 5 (.slice a c cap) c (flat 5 fun k=>jf (m.g (d.getD k 0))))(q:c<=1000000) :
 Calls Tryz.prog 43 #[.slice a c cap,.func (.func 44) #[] #[]] w fun e f=>e = .returned (.tuple #[]) /\ ∃ h:List I7,h.Perm (d.map fun i=>Jo (m.g i))/\h.Pairwise (fun x y=>KP x<=KP y)/\Fx.Own f B 66 5 (.slice a c cap) c (flat 5 (V6 h))/\(∀ k,k<w.heap.size->(Value.slice a c cap).ownBlock≠some k->f.heap[k]? = w.heap[k]?)/\iP [66] w f/\Below B w f:=by
 have j:(d.map fun i=>Jo (m.g i)).length=c:=by rw[List.length_map]; exact e.symm
 have l:=adv (ads n hi e o) (by rw[j]; omega);rw[j]at l;exact l
set_option maxRecDepth 20000
set_option linter.unusedVariables false
set_option maxHeartbeats 1000000 in
theorem Yn(m:dP)(u B:Nat)(w:World)(h:lD w B u m)(hgn:m.gn<=900000) :
 Calls Tryz.prog 18 #[(pt u)] w fun e w' => ∃ s l gl,e = .returned (.agg (aC 20 (pX s)))/\StQ w' w.heap.size m s l gl/\Below w.heap.size w w':=by
 have hC:=h.c;have hT:=h.t;have hP:=h.p;have hR:=h.r;have hG:=h.g;have hA:=h.a;have hN:=h.ne;have lC:=h.c.lt;have lT:=h.t.lt;have lP:=h.p.lt;have lR:=h.r.lt;have lG:=h.g.lt;have lA:=h.a.lt;refine Kent Tryz.func18 72 ?_;refine ay<|C9 (m:=20) (y:=fun d=>if d<12 then .bool false else if d<18 then aF 0 else .slice none 0 0) (by rfl) rfl (by kernel_rfl) rfl fun D w1 mD m1 s1 z1 => ?_;have⟨m2,m3,m4,m5,m6,m7,b1⟩:=jo s1.old hC hT hP hR hG hA (Below.refl w.heap.size w);have uG:=iE mD;have⟨nI,zB,wY,AZ,zx⟩:=Df mD hC.lt hP.lt hR.lt hG.lt hA.lt;have wO:=m1.lt;refine aD<|Ws<|ay<|av (pt u)<|Lv aG (Fx.qG rfl rfl rfl (by kernel_rfl))<|aD<|aL<|Wk<|sN<|Ws ?_;refine Wt 13 (by kernel_rfl) (by kernel_rfl) fun qI dY iF => ?_;have⟨m8,m9,m10,m11,m12,m13,m14,b2⟩:=lu dY m2 m3 m4 m5 m6 m7 m1 b1;refine Ei (pt u)<|Ei (pt u)<|Ei (pt u)<|qo (.agg (aC 6 (fun j => .bool (m.inn j)))) (gI m8.aI 0 (fun j J=>by rw[E_]; exact BN J))<|Ei (pt u)<|Ei (pt u)<|Ei (pf u 6)<|qo (.agg (aC 6 (fun j => .bool (m.left j)))) (gI m8.aI 6 (fun j J=>AX (p:=j) J (by omega)))<|Ei (pt u)<|Ei (pt u)<|Ei (pf u 12)<|qo (.agg (aC 6 (rv .u64 m.known))) (gI m8.aI 12 (fun j J=>vk (p:=j) (by omega) (by omega)))<|Ei (.agg (aC 20 (bI (bI (bI (fun d=>if d<12 then .bool false else if d<18 then aF 0 else .slice none 0 0) 0 6 (fun j => .bool (m.inn j))) 6 6 (fun j => .bool (m.left j))) 12 6 (rv .u64 m.known))))<|Fx.St.nil ?_;refine fH m14 0 (h1:=(bV (bV (bV (fun jq _=>by show((fun d=>if d<12 then .bool false else if d<18 then aF 0 else .slice none 0 0:Nat->Value) jq).oneCell'=true; simp only[]; repeat (first|rfl|split)) (fun _ _=>rfl)) (fun _ _=>rfl)) (fun _ _=>rfl))) fun V m15 s3 z2 => ?_
 have m16:aS V D 20 (bI (bI (bI (fun d=>if d<12 then .bool false else if d<18 then aF 0 else .slice none 0 0) 0 6 (fun j => .bool (m.inn j))) 6 6 (fun j => .bool (m.left j))) 12 6 (rv .u64 m.known)) 53:=aW m15;have m17:aS V D 20 (pX (Vb m none 0 0 none 0 0)) 53:=m16.congr (Vd m (fun j J=>by show(if j<12 then _ else if j<18 then _ else _)=_; rw[b_ (by omega),b_ (by omega)]) (fun _ _=>rfl) (fun _ _=>rfl));have gK:=gY s3 m14.ty;have⟨m18,m19,m20,m21,m22,m23⟩:=Rc gK m8 m9 m10 m11 m12 m13;have b3:=s3.below b2 b2.size (by omega);refine aD<|Ws<|ay<|av (pt u)<|av (pt u)<|av (pf u 18)<|Lv (pt m.tp) (aN m18.aI 18)<|lS (SC m19) ?_;rintro e9 w3 ⟨ZG,N,b,he,m24,hq1,agv,hb1⟩;refine⟨_,he,?_⟩;clear he;have⟨ni,nZ,oz,og,oC,pE,mE,b4⟩:=lu hb1 m18 m19 m20 m21 m22 m23 m17 b3;refine av (au b.length)<|av (au 0)<|aD<|Wb ?_;have m32:Fx.Own w3 w.heap.size 61 56 (.slice none 0 0) 0 (flat 56 (Va m b)):=wZ _ _ _ _ _;have kll:=agv;refine Wo (fun f A => ∃ i:Nat,∃ E:Option Addr,∃ F:Nat,i<=b.length/\f 0=(pt u)/\f 2=(pt D)/\f 27 = .slice ZG (b.length) (N)/\f 28=au (b.length:Int)/\f 29=au (i:Int)/\aS A u 29 (vg m) 106/\rD A B m.tp m.mb m.T/\Mp A m.pb m.T.n m.T.x (Dq m.T)/\Mp A m.rb m.T.n m.T.x (wG m.R)/\gX A m.gb m.gn (fun i=>m.g i 0) (fun i=>m.g i 1) (tY m.g)/\gX A m.ab m.an m.ao m.ar Dr/\Fx.Own A V.heap.size 28 1 (.slice ZG (b.length) (N)) b.length (xD b)/\aS A D 20 (pX (Vb m E i F none 0 0)) 53/\Fx.Own A w.heap.size 61 56 (.slice E (i) (F)) i (flat 56 (Va m b))/\Below w.heap.size w A) (fun f _=>((b.length:Int)-intOf (f 29)).toNat) ⟨0,none,0,(by omega),(by rfl),(by rfl),(by rfl),Fx.ic,Fx.ic,ni,nZ,oz,og,oC,pE,m24,mE,m32,b4⟩ ?_;rintro f1 w4 ⟨i,E,F,hi,P,h2,h3,h4,Q,qh,oN,pW,qx,rW,qy,pF,sj,nk,b5⟩;refine ay ?_;by_cases c30:(i:Int)<(b.length:Int)
 ·refine Lv aH (gV c30 (hx:=Q) (hy:=h4))<|aD<|Ws<|aO<|Wk<|sN<|Ws<|Wb<|ay ?_;obtain⟨EC,eq1⟩:=pF.addr (by omega);have mV:Fx.Own w4 V.heap.size 28 1 (bL EC b.length N) b.length (xD b):=pF.dL (K_ (fun q=>Value.slice q b.length N) eq1);refine Lv (pf EC i) (dh 1 (hx:=(h3.trans (K_ (fun q=>Value.slice q (b.length) (N)) eq1))) (hi:=Q))<|Lv (aF (b.getD i 0)) (aN mV.aI i)<|av (aF (b.getD i 0))<|aD ?_;obtain⟨I,hjz,aa⟩:=gG ((hq1.2 _).1 (uF (show i<b.length by omega) rfl));have ejx:CS m (b.getD i 0)=m.R I:=by unfold CS dP.idx; rw[mH h.t.inv.inj hjz aa]
  have ejp:m.T.par (b.getD i 0)=m.T.p I:=Aq h.t.inv.inj hjz aa;refine Ap [0,2,3,4,5,7,9,10,11,13,1,6,8,12,14,15,16,17,18,19] [0,1,0,0,0,0,4,0,4,0,0,0,4,0,4,0,2,2,0,3] (iP [61]) vO Fx.iP.trans (fG := [(19,1,[1]),(16,6,[15,8,6]),(17,6,[16,15,8,6]),(19,6,[6]),(16,8,[15,8]),(17,8,[16,15,8]),(19,8,[8]),(16,12,[15,14,12]),(17,12,[16,15,14,12]),(19,12,[12]),(16,14,[15,14]),(17,14,[16,15,14]),(19,14,[14]),(17,16,[16]),(18,16,[16]),(19,16,[16]),(18,17,[17]),(19,17,[17])]) (by kernel_rfl) (by kernel_rfl) (by kernel_rfl) (by kernel_rfl) (by kernel_rfl) fun Cu fV nH => ?_;have⟨nu,rX,qK,nU,ru,xq,su,sS,vw,b6⟩:=uz fV qh oN pW qx rW qy sj nk mV b5;refine Rp (pf D 18) (fun _=>iV h2 18)<|bf (aF (b.getD i 0))<|bW P<|bf (pt u)<|bf (pf u 19)<|bf (aF (b.getD i 0))<|bW P<|bf (pt u)<|bf (pf u 20)<|bf (aF (b.getD i 0))<|Rd (v := .slice E (i) (F)) (by rfl) (by rfl) (vO _) (fun v1 hv1=>bD (x:=pX (Vb m E i F none 0 0)) rfl rfl (by kernel_rfl) (su.jN hv1 (by decide)).aI (i:=18) (by omega) (by omega) rfl) ?_;refine Rs (.map (some m.pb)) (aN nu.aI 19) ?_;refine Rs (aF (m.T.p I)) (Fx.vQ (z:=aF 0) rfl rfl rfl qK Tryz.underlying100 Tryz.underlying28 (by rfl) hjz aa rfl) ?_;refine Rs (.map (some m.rb)) (aN nu.aI 20) ?_;refine Rs (.agg (aC 54 (rv .i64 (m.R I)))) (Fx.vQ (z := .agg (aC 54 (rv .i64 (fun _=>0)))) rfl rfl rfl nU Tryz.underlying101 Tryz.underlying28 (by kernel_rfl) hjz aa rfl) ?_;refine bf (.agg (aC 56 (bI (bI (bI (fun d=>if d<2 then aF 0 else au 0) 0 1 (fun _=>aF (b.getD i 0))) 1 1 (fun _=>aF (m.T.p I))) 2 54 (rv .i64 (m.R I)))))<|Ct<|yN (vs := [(0,.agg (aC 56 (bI (bI (bI (fun d=>if d<2 then aF 0 else au 0) 0 1 (fun _=>aF (b.getD i 0))) 1 1 (fun _=>aF (m.T.p I))) 2 54 (rv .i64 (m.R I)))))]) (s:=56) (zc:=fun d=>if d<2 then aF 0 else au 0) (y:=bI (fun j=>(fun d=>if d<2 then aF 0 else au 0) (j % 56)) (0*56) 56 (bI (bI (bI (fun d=>if d<2 then aF 0 else au 0) 0 1 (fun _=>aF (b.getD i 0))) 1 1 (fun _=>aF (m.T.p I))) 2 54 (rv .i64 (m.R I)))) (by rfl) rfl rfl Tryz.underlying50 (by kernel_rfl) (by rfl) (by rfl) (by kernel_rfl) (by rw[bF (off:=0*56) (s:=56) (y:=bI (bI (bI (fun d=>if d<2 then aF 0 else au 0) 0 1 (fun _=>aF (b.getD i 0))) 1 1 (fun _=>aF (m.T.p I))) 2 54 (rv .i64 (m.R I))) rfl (bJ _ _) (by rfl)]; rfl) rfl fun g2 w5 Y uH s6 z3 => ?_;have⟨uh,uI,wR,tL,rY,rz,wS,pG,uJ,b7⟩:=uz s6.old nu rX qK nU ru xq su sS vw b6;have sG:=jI Y b6.size;have⟨aoz,abQ,abR,aoA,aoB,abS⟩:=Ii Y nu.lt qK.lt nU.lt ru.lt xq.lt su.lt;have aoC:(.slice E (i) (F):Value).ownBlock≠some g2:=by rw[Y]; exact sS.jT (z_ _)
  have aoD:=cO Y vw.lt;have Bg:=uH.lt;refine Ln ⟨Fx.iP.of_below s6.old,?_⟩;refine Ct<|zh (B:=w.heap.size) (s:=56) (bytes:=448) (k:=i) (m:=1) (v := .slice E (i) (F)) (x:=flat 56 (Va m b)) (by rfl) rfl rfl rfl Tryz.underlying50 (by kernel_rfl) (by kernel_rfl) rfl rfl pG uH.aI Yi (by omega) (by omega) (by omega) b7.size fun g3 W w6 ho1 hg1 vU hlt1 => ?_;have jV:=zi hg1 pG;have⟨sw,m64,vV,vE,vW,vX,qz,sD⟩:=aap jV uh uI wR tL rY rz wS uJ;have nS:Fx.Own w6 w.heap.size 61 56 (bL g3 (i+1) W) (i+1) (flat 56 (Va m b)):=(ho1.congr (fun j J=>Yf rfl ejp ejx j J));have b8:Below w.heap.size w w6:=zf b7 hg1 b7.size (fun q hq=>(pG.ge hq).1);refine Ln ⟨jV,?_⟩;refine Rp (pf D 18) (fun _=>iV h2 18)<|gF<|jm qz 18 (bL g3 (i+1) W) fun w7 sU s7 z4 => ?_;have sF:aS w7 D 20 (pX (Vb m (some ⟨g3,0,none⟩) (i+1) W none 0 0)) 53:=sU.to (Qj _ _ _ _);have tK:=gY s7 qz.ty;have⟨sV,xu,uK,wT,wU,xw,wV,vY⟩:=aap tK sw m64 vV vE vW vX sD nS;have b9:=s7.below b8 b8.size (by omega);refine Ln<|Rn<|bQ<|sN<|Wl<|Lv (au ((i:Int)+1)) (eY (hx:=Q))<|av (au ((i:Int)+1))<|Ln ?_;have uL:Fx.Own w7 V.heap.size 28 1 (.slice ZG (b.length) (N)) b.length (xD b):=wV.dL (K_ (fun q=>Value.slice q b.length N) eq1.symm)
  skip
  refine gT ⟨i+1,(some ⟨g3,0,none⟩),W,(by omega),P,h2,h3,(h4.trans Fx.ic),Fx.ic,sV,xu,uK,wT,wU,xw,uL,sF,vY,b9⟩ ?_;show((b.length:Int)-intOf (au ((i:Int)+1))).toNat<_;simp only[Q,intOf]; omega
 refine Lv aG (gW c30 (hx:=Q) (hy:=h4))<|aD<|Ws<|aL<|Wx<|cu<|gJ<|cB<|sN<|Ws<|ay<|aX P<|av (pt u)<|av (pf u 27)<|Lv (.map (some m.gb)) (aN qh.aI 27)<|Fx.L.aav (by rfl) rfl rfl rfl rW Tryz.underlying102 fun g4 w8 LY wW s8 z5 => ?_;have⟨zw,zM,Dm,b10⟩:=oZ s8.old rW sj nk b5;have VZ:=jI LY b5.size;have TP:=wW.lt;refine aD<|Wb ?_;have Bz:Fx.Own w8 w.heap.size 66 5 (.slice none 0 0) 0 (flat 5 (fun k=>jf (m.g (([]:List Nat).getD k 0)))):=wZ _ _ _ _ _;refine Dy (fun kE f A => ∃ S:Nat->Bool,∃ kk:Nat,∃ K:List Nat,∃ o:Nat,∃ G:Option Addr,∃ H:Nat,kk=unseen S m.gn/\kk=kE/\Qi m.gn S K/\o=K.length/\f 2=(pt D)/\f 57=(pt g4)/\gX A m.gb m.gn (fun i=>m.g i 0) (fun i=>m.g i 1) (tY m.g)/\Fx.Own A w.heap.size 61 56 (.slice E (i) (F)) i (flat 56 (Va m b))/\aS A D 20 (pX (Vb m E i F G o H)) 53/\Fx.Own A w.heap.size 66 5 (.slice G (o) (H)) o (flat 5 (fun k=>jf (m.g (K.getD k 0))))/\Fx.It A g4 m.gb m.gn S/\Below w.heap.size w A) (unseen (fun _=>false) m.gn) ⟨(fun _=>false),(unseen (fun _=>false) m.gn),[],0,none,0,rfl,rfl,(Qi.start _),rfl,h2,(by rfl),zw,Dm,zM,Bz,wW,b10⟩ ?_;rintro kE f2 w9 ⟨S,kk,K,o,G,H,hkk,hkE,U,hgl,M,h7,AA,Bh,yU,DR,CB,b11⟩;refine ay<|Fx.L.aey (by rfl) rfl rfl h7 AA CB (fun rA => ?_)<|fun C sQ hi1 hS1 DT mc1 s9 z6 => ?_
 ·skip
  refine av aG<|aD<|Ws<|aL<|Wx<|cu<|gJ<|cB<|sN<|Ws ?_;have eL:(K.map fun i=>Jo (m.g i)).length=o:=by rw[List.length_map]; exact hgl.symm
  have aoE:=U.len;refine Wl<|Lv (pf D 19) (iV M 19)<|Lv (.slice G (o) (H)) (aN yU.aI 19)<|eB (Ym h.g U hgl DR (by omega)) _ rfl ?_;rintro FP ⟨gl,hpm,hup,EB,_,zK,hb2⟩;have b12:=b11.trans hb2;have⟨tN,wB⟩:=Dc zK Bh yU;have arf:=wB.lt;refine aD<|ay<|Lv (.agg (aC 20 (pX (Vb m E i F G o H)))) (gI wB.aI 0 (ha:=M))<|fH wB 0 (ha:=M) (h1:=(fun j _=>NT _ j)) fun Ag tO s10 z7 => ?_;have rM:aS Ag D 20 (pX (Vb m E i F G o H)) 53:=aW tO;have yP:=gY s10 wB.ty;have⟨nN,oH⟩:=Dc yP tN EB;have b13:=s10.below b12 b12.size (by omega);refine aD (Wr (⟨.agg (aC 20 (pX (Vb m E i F G o H))),rV Tryz.results18 ⟨_,M,aY rM.aI (by kernel_rfl) (by kernel_rfl)⟩,?_⟩));have eil:i=b.length:=by omega
  have egl:o=gl.length:=by rw[hpm.length_eq,eL]
  exact⟨Vb m E i F G o H,b,gl,rfl,{ inn:=rfl,left:=rfl,known:=rfl,nn:=eil,gn:=egl,ls:=hq1,len:=kll,gs:=GrS.of h.g U rA hpm hup,glb:=by omega,n:=nN,g:=oH },b13⟩
 skip
 have hcm1:=CB.Bd s9;have nW:=AA.dQ hcm1 (CB.rb.symm);have qL:=Bh.dQ hcm1;have rO:=yU.dQ hcm1;have uT:=DR.dQ hcm1;have b14:=s9.below b11 b11.size (by omega);refine av aH<|aD<|Ws<|aO<|Wk<|sN<|Wb<|ay<|Lv (.tuple #[Fx.kS (m.g C 0) (m.g C 1),.agg (aC 5 (jf (m.g C)))]) (Fx.Ro (k1:=fun i=>m.g i 0) (k2:=fun i=>m.g i 1) (val:=tY m.g) (i:=C) rfl h7 nW mc1 hi1)<|av (.agg (aC 5 (jf (m.g C))))<|xg 5 (fun d=>if d<1 then au 0 else if d<3 then aF 0 else if d<4 then au 0 else aF 0) fun g5 FZ eg5 qM s11 z8 => ?_;have⟨tQ,yV,uU,yX,xC,b15⟩:=uy s11.old nW qL rO uT DT b14;have lg5:=jI eg5 b14.size;have⟨aiJ,aiK⟩:=xM eg5 nW.lt rO.lt;have OE:(.slice G (o) (H):Value).ownBlock≠some g5:=by rw[eg5]; exact uT.jT (z_ _)
 have tg5:=qM.lt;refine fH qM 0 (h1:=(fun j _=>tF _ j)) fun Gt tT s12 z9 => ?_;have ql:aS Gt g5 5 (jf (m.g C)) 66:=aW tT;have yQ:=gY s12 qM.ty;have⟨xR,xS,tV⟩:=FW yQ tQ yV uU;have BD:=yX.cZ s12 OE;have EF:=lJ yQ xC;have b16:=s12.below b15 b15.size (by omega);refine aD ?_;have aoE:=U.len;have hgn1:o<=m.gn:=by omega
 refine Wl<|Lv (pf D 19) (iV M 19)<|Lv (.slice G (o) (H)) (aN tV.aI 19)<|Lv (.agg (aC 5 (jf (m.g C)))) (gI ql.aI 0)<|yN (vs := [(0,.agg (aC 5 (jf (m.g C))))]) (s:=5) (zc:=fun d=>if d<1 then au 0 else if d<3 then aF 0 else if d<4 then au 0 else aF 0) (y:=bI (fun j=>(fun d=>if d<1 then au 0 else if d<3 then aF 0 else if d<4 then au 0 else aF 0) (j % 5)) (0*5) 5 (jf (m.g C))) (by rfl) rfl rfl Tryz.underlying51 (by kernel_rfl) (by rfl) (by rfl) (by kernel_rfl) (by rw[bF (off:=0*5) (s:=5) (y:=jf (m.g C)) rfl (bJ _ _) (by rfl)]; rfl) rfl fun g6 L9 Z AB s13 z10 => ?_;have⟨EG,F5,BF,zQ,IL,Kg,b17⟩:=jo s13.old xR xS tV BD EF ql b16;have lg6:=jI Z b16.size;have⟨aiL,aiM⟩:=xM Z xR.lt tV.lt;have aiN:(.slice G (o) (H):Value).ownBlock≠some g6:=by rw[Z]; exact BD.jT (z_ _)
 have aiO:=cO Z ql.lt;have tg6:=AB.lt;refine zh (B:=w.heap.size) (s:=5) (bytes:=40) (k:=o) (m:=1) (v := .slice G (o) (H)) (x:=flat 5 (fun k=>jf (m.g (K.getD k 0)))) (by rfl) rfl rfl rfl Tryz.underlying51 (by kernel_rfl) (by kernel_rfl) rfl rfl zQ AB.aI Yj (by omega) (by omega) (by omega) b17.size fun O X w16 ho2 hg2 Ml hlt2 => ?_;have Az:=zi hg2 zQ;have⟨EI,F6,F7,BG⟩:=JA Az EG F5 BF IL;have aiP:g5≠O:=fun e=>Ml.elim (fun e2=>OE (by rw[e]; exact e2)) (fun e2=>by have:=Kg.lt; omega);have EH:Fx.Own w16 w.heap.size 66 5 (bL O (o+1) X) (o+1) (flat 5 (fun k=>jf (m.g ((K ++ [C]).getD k 0)))):=(ho2.congr (fun j J=>by rw[hgl]at J ⊢; exact Yg j J));have b18:Below w.heap.size w w16:=zf b17 hg2 b17.size (fun q hq=>(zQ.ge hq).1);refine Lv (pf D 19) (iV M 19)<|jm F7 19 (bL O (o+1) X) fun RV BH Dl z11 => ?_;have ET:aS RV D 20 (pX (Vb m E i F (some ⟨O,0,none⟩) (o+1) X)) 53:=BH.congr (M5 _ _ _ _);have EA:=gY Dl F7.ty;have⟨EK,zR,BI,IG⟩:=JA EA EI F6 BG EH;have b19:=Dl.below b18 b18.size (by omega);refine Ln<|bQ ?_
 skip
 refine gT ⟨unseen (aM S C true) m.gn,(by have P:=Fx.ow hS1 m.gn hi1; omega),(aM S C true),(unseen (aM S C true) m.gn),(K ++ [C]),o+1,(some ⟨O,0,none⟩),X,rfl,rfl,(U.step hi1 hS1),(by rw[D_,<- hgl]; rfl),M,h7,EK,zR,ET,IG,BI,b19⟩ (by decide)
end Go.Proofs.YtahbiajdgealnaaGreatDoor
namespace Go.Proofs.YtahbiajdgealnaaGreatDoor
open Go.RowKit Go
set_option linter.unusedVariables false
namespace Rt
section
variable {f:(Nat->Int)->(Nat->Int) × Int} {idx:Nat->Nat} {R:Nat->Nat->Int} {r r':Nat->Nat->Int} {n K k:Nat}
theorem CV : ∀ {n:Nat},(∀ i,i<n->r i=r' i)->jH f r n=jH f r' n
 | 0,_=>rfl
 | n+1,h=>by unfold jH; rw[CV (n:=n) fun i a=>h i (by omega),h n (by omega)]
theorem Fw : ∀ {K:Nat},(∀ i j,i<K->j<K->idx i=idx j->i=j)->(dw f idx R K).2=jH f (fun i=>R (idx i)) K/\((dw f idx R K).2=0 -> ∀ k,(dw f idx R K).1 k=R k/\(∀ i,i<K->idx i≠k)\/(dw f idx R K).1 k=(f (R k)).1 /\ ∃ i,i<K/\idx i=k)
 | 0,_=>⟨rfl,fun _ k => .inl ⟨rfl,fun _ h=>L_ h (u_ _)⟩⟩
 | K+1,hi=>by
   obtain⟨q,r⟩:=Fw (K:=K) fun i j a b=>hi i j (by omega) (by omega);unfold jH;rw[<- q];by_cases c:(dw f idx R K).2=0
   ·have n:=r c;have p:(dw f idx R K).1 (idx K)=R (idx K):=by
     rcases n (idx K)with h|⟨_,i,d,g⟩
     ·exact h.1
     ·have:=hi i K (by omega) (by omega) g; omega
    rw[d_ c];have e:dw f idx R (K+1)=(if(f ((dw f idx R K).1 (idx K))).2=0 then(aJ (dw f idx R K).1 (idx K) (f ((dw f idx R K).1 (idx K))).1,0)else((dw f idx R K).1,(f ((dw f idx R K).1 (idx K))).2)):=(by show(if _ then _ else _)=_; rw[d_ c]);rw[e,p];by_cases l:(f (R (idx K))).2=0
    ·rw[d_ l];refine⟨l.symm,fun _ k => ?_⟩;show aJ (dw f idx R K).1 (idx K) _ k=R k/\_\/aJ (dw f idx R K).1 (idx K) _ k=(f (R k)).1/\_;unfold aJ;by_cases e:k=idx K
     ·subst e; rw[d_ rfl]; exact .inr ⟨rfl,K,by omega,rfl⟩
     ·rw[b_ e]
      rcases n k with ⟨d,g⟩|⟨d,i,g,h5⟩
      ·refine .inl ⟨d,fun i s m => ?_⟩;by_cases o:i=K
       ·subst o; exact e m.symm
       ·exact g i (by omega) m
      ·exact .inr ⟨d,i,by omega,h5⟩
    ·rw[b_ l]; exact⟨rfl,fun h=>L_ h l⟩
   ·rw[b_ c];have e:dw f idx R (K+1)=dw f idx R K:=(by show(if _ then _ else _)=_; rw[b_ c]);rw[e];exact⟨rfl,fun h=>L_ h c⟩
end
structure BX(T:dK)(L:fP):Prop where
 has : ∀ k,T.has k=true <-> ∃ i,i<L.nn/\L.id i=k
 n:T.n=L.nn
 par : ∀ i,i<L.nn->T.par (L.id i)=L.par i
section
variable {T:dK} {L:fP} {N:Nat} {x:Int}
theorem BX.find(h:BX T L)(b:Inv0 L N)(x:Int):T.has x=true<->0<=bE L.t L.tn x:=by
 rw[h.has,iC,b.BL];constructor
 ·rintro ⟨i,a,e⟩; exact⟨i,a,by rw[(b.tid i a).1]; exact e⟩
 rintro ⟨i,a,e⟩; exact⟨i,a,by rw[<- (b.tid i a).1]; exact e⟩
theorem BX.findF(h:BX T L)(a:Inv0 L N)(x:Int):T.has x=false<->bE L.t L.tn x<0:=by
 have:=h.find a x
 cases e:T.has x with
 | false=>rw[e]at this; exact⟨fun _=>by rcases Zy (bE L.t L.tn x)with h1|h1; exact h1; exact L_ (this.2 h1) (by decide),fun _=>rfl⟩
 | true=>rw[e]at this; have:=this.1 rfl; exact⟨fun h=>(nomatch h),fun h=>by omega⟩
theorem Inv0.at(c:Inv0 L N){i:Nat}(hi:i<L.nn):L.node (L.id i)=(i:Int):=by
 rw[c.node,<- (c.tid i hi).1];exact uY (fun a b d f e=>c.afT a b d f e) (by rw[c.BL]; exact hi)
theorem BX.next(h:BX T L)(a:Inv0 L N)(hx:T.has x=true):T.par x=L.t (bE L.t L.tn x).toNat 1:=by
 obtain⟨i,b,rfl⟩:=(h.has x).1 hx;have e:=a.at b;rw[a.node]at e;rw[e,h.par i b];exact((a.tid i b).2).symm
theorem BX.path(h:BX T L)(f:T.ok)(a:Inv0 L N)(x:Int):(T.path x).length=bT L.t L.tn x /\ ∀ q,q<(T.path x).length->(T.path x).getD q 0=bA L.t L.tn q x:=by
 have g : ∀ q,q<(T.path x).length->T.has ((T.path x).getD q 0)=true/\(q+1<(T.path x).length->(T.path x).getD (q+1) 0=T.par ((T.path x).getD q 0))/\(q+1=(T.path x).length->T.has (T.par ((T.path x).getD q 0))=false):=qQ (f.stop x);have j : ∀ q,q<(T.path x).length->(T.path x).getD q 0=bA L.t L.tn q x:=by
  intro q
  induction q with
  | zero =>
    intro b
    cases hx:T.has x with
    | false=>rw[show T.path x = []from kL hx]at b; exact L_ b (u_ _)
    | true=>rw[dK.step f hx]; rfl
  | succ q ih =>
    intro b;have l:=ih (by omega);have c:=(g q (by show q<(T.path x).length; omega));have e:=c.2.1 b;show(T.path x).getD (q+1) 0=L.t (bE L.t L.tn (bA L.t L.tn q x)).toNat 1;rw[<- l,<- h.next a c.1]
    exact e
 refine⟨?_,j⟩;obtain⟨D,n,m⟩:=a.dep x;refine uV (D:=D) (fun i k => ?_) ?_ m (by omega)
 ·rw[<- j i k,<- h.find a]; exact(g i k).1
 by_cases d:(T.path x).length=0
 ·rw[d];show bE L.t L.tn x<0;rw[<- h.findF a]
  cases hx:T.has x with
  | false=>rfl
  | true=>rw[dK.step f hx]at d; simp at d
 obtain⟨q,b⟩ : ∃ q,(T.path x).length=q+1:=⟨(T.path x).length-1,by omega⟩;have c:=g q (by show q<(T.path x).length; omega);have e:=c.2.2 (by show q+1=(T.path x).length; omega);rw[b];show bE L.t L.tn (L.t (bE L.t L.tn (bA L.t L.tn q x)).toNat 1)<0;rw[<- j q (by omega),<- h.next a c.1,<- h.findF a]
 exact e
theorem Yo(d:Inv0 L N)(x:Int):bE L.t L.tn (bA L.t L.tn (bT L.t L.tn x) x)<0:=by
 obtain⟨D,e,b⟩:=d.dep x;obtain⟨K,f,a,c⟩:=uZ D b;rw[<- uV c a b (by omega)]; exact a
theorem BX.mem(h:BX T L)(f:T.ok)(d:Inv0 L N)(x y:Int):y∈T.path x <-> ∃ i,i<bT L.t L.tn x/\bA L.t L.tn i x=y:=by
 obtain⟨c,b⟩:=h.path f d x;rw[<- c];constructor
 ·intro g;obtain⟨i,a,e⟩:=List.getElem_of_mem g;refine⟨i,a,?_⟩;rw[<- b i a,r_,o_ a]; exact e
 rintro ⟨i,a,rfl⟩;rw[<- b i a,r_,o_ a]; exact P_ a
theorem BX.err(h:BX T L)(l:T.ok)(a:Inv0 L N)(id pa:Int):T.err id pa=jv L.t L.tn id pa:=by
 unfold dK.err qJ jv;by_cases c:id=0
 ·rw[d_ c,d_ c]
 rw[b_ c,b_ c];by_cases d:dO T.x T.n id=true
 ·rw[d_ d,d_ ((h.find a id).1 d)]
 rw[b_ d,b_ (fun e=>d ((h.find a id).2 e))];have j:(¬ pa=0/\dO T.x T.n pa=false)<->(pa≠0/\bE L.t L.tn pa<0):=by
  rw[<- h.findF a]; exact Iff.rfl
 by_cases f : ¬ pa=0/\dO T.x T.n pa=false
 ·rw[d_ f,d_ (j.1 f)]
 rw[b_ f,b_ (fun e=>f (j.2 e))];have k:(32<=T.n\/4<=(jr T.x T.p T.n 4 pa).length)<->(32<=L.tn\/Cy L.t L.tn pa):=by
  obtain⟨q,r⟩:=h.path l a pa;have v:(T.path pa).length<=4:=dK.yH;have:4<=(T.path pa).length<->Cy L.t L.tn pa:=by
   constructor
   ·intro s i u;have b:=(qQ (l.stop pa)) i (by show i<(T.path pa).length; omega);rw[<- r i (by omega),<- h.find a]; exact b.1
   ·intro o
    rcases Nat.lt_or_ge (T.path pa).length 4 with b|b
    ·exfalso;have m:=o _ b;rw[q]at m;have:=Yo a pa;omega
    ·exact b
  show(32<=T.n\/4<=(T.path pa).length)<->_;rw[this,h.n,a.BL]
 by_cases g:32<=T.n\/4<=(jr T.x T.p T.n 4 pa).length
 ·rw[d_ g,d_ (k.1 g)]
 rw[b_ g,b_ (fun e=>g (k.2 e))]
end
end Rt
end Go.Proofs.YtahbiajdgealnaaGreatDoor
namespace Go.Proofs.YtahbiajdgealnaaGreatDoor
open Go.RowKit Go
set_option linter.unusedVariables false
set_option maxRecDepth 20000
namespace Rt
section
variable {m:dP} {k:Int} {i:Nat}
theorem dP.CW(b:m.T.ok)(c:m.T.has k=true):m.idx k<m.T.n/\m.T.x (m.idx k)=k:=by
 obtain⟨j,a,e⟩:=gG c;have:m.idx k=j:=mH b.inj a e;rw[this]; exact⟨a,e⟩
theorem KR(x:Nat->Int)(id:Int) : ∀ n,(∀ i,i<n->x i≠id)->yZ (Fx.aM x n id) (n+1) id=n:=fun n _=>by
 unfold yZ;rw[d_];unfold Fx.aM;rw[d_ rfl]
theorem Hf{x y:Nat->Int}{k:Int} : ∀ {n:Nat},(∀ i,i<n->x i=y i)->yZ x n k=yZ y n k
 | 0,_=>rfl
 | n+1,h=>by unfold yZ; rw[h n (by omega),Hf (n:=n) fun i a=>h i (by omega)]
theorem KS(x:Nat->Int){id k:Int}(n:Nat)(b:id≠k):yZ (Fx.aM x n id) (n+1) k=yZ x n k:=by
 have a:Fx.aM x n id n=id:=by unfold Fx.aM; rw[d_ rfl]
 show(if Fx.aM x n id n=k then n else yZ (Fx.aM x n id) n k)=_;rw[a,b_ b];exact Hf fun i c=>by unfold Fx.aM; rw[b_ (by omega)]
theorem Hg{f g:Nat->Int}{o:Int} : ∀ {n:Nat},(∀ i,i<n->f i=g i)->nM f o n=nM g o n
 | 0,_=>rfl
 | n+1,h=>by unfold nM; rw[Hg (n:=n) fun i a=>h i (by omega),h n (by omega)]
theorem KT{f:Nat->Int}{o v:Int}{k:Nat} : ∀ n,k<=n->nM (Fx.cK f k v) o (n+1)=nM f o n+if v / 1099511627776=o then 1 else 0
 | 0,h=>by
   obtain rfl:k=0:=(by omega);show 0+(if Fx.cK f 0 v 0 / 1099511627776=o then 1 else 0)=0+_;rw[dG]
 | n+1,h=>by
   by_cases e:k=n+1
   ·subst e;show nM (Fx.cK f (n+1) v) o (n+1)+(if Fx.cK f (n+1) v (n+1) / 1099511627776=o then 1 else 0)=_;rw[dG,Hg (g:=f) fun i a=>DX a]
   ·show nM (Fx.cK f k v) o (n+1)+(if Fx.cK f k v (n+1) / 1099511627776=o then 1 else 0)=nM f o n+(if f n / 1099511627776=o then 1 else 0)+_;rw[KT n (by omega),DY (by omega)];show _+(if f n / 1099511627776=o then 1 else 0)=_;omega
theorem OG{f:Nat->Int}{o:Int} : ∀ n,nM f o n<=n
 | 0=>z_ _
 | n+1=>by have:=OG (f:=f) (o:=o) n; unfold nM; split <;> omega
theorem BZ{P:Nat->Bool}{n:Nat}:0<=gU P n <-> ∃ j,j<n/\P j=true:=by
 rcases jJ P n with ⟨k,c,e,a⟩|⟨e,h⟩
 ·rw[e]; exact⟨fun _=>⟨k,c,a⟩,fun _=>by omega⟩
 rw[e]; exact⟨fun h=>by omega,fun⟨j,b,a⟩=>by rw[h j b]at a; cases a⟩
end
structure fQ(m:dP)(L:fP):Prop where
 T:BX m.T L
 inn:m.inn=L.inn
 left:m.left=L.left
 known:m.known=L.known
 row : ∀ i,i<L.nn->CS m (L.id i)=L.R i
 own : ∀ a,a<6->m.own a=((nM L.id ((a:Int)+1) L.nn:Nat):Int)
 gi : ∀ i j,i<m.gn->j<m.gn->m.g i 0=m.g j 0->m.g i 1=m.g j 1->i=j
 gn:m.gn=L.gn
 g1 : ∀ q,q<L.gn -> ∃ j,j<m.gn/\m.g j=L.g q
 g2 : ∀ j,j<m.gn -> ∃ q,q<L.gn/\L.g q=m.g j
 ask : ∀(a:Nat) (r:Int),a<6->(gL m ((a:Int)+1) r=true <-> ∃ j,j<L.rn a/\L.rq a j=r)
 ga:Qg m
 li : ∀ p q,p<L.gn->q<L.gn->L.g p 0=L.g q 0->L.g p 1=L.g q 1->p=q
section
variable {m:dP} {L:fP} {N:Nat} {v:EvM} {x:Int}
theorem fQ.node(h:fQ m L)(a:Inv0 L N)(x:Int):m.T.has x=true<->0<=L.node x:=by rw[h.T.find a,a.node]
theorem fQ.KU(h:fQ m L)(a:Inv0 L N)(x:Int):m.T.has x=false<->L.node x<0:=by rw[h.T.findF a,a.node]
theorem Inv0.Yp(a:Inv0 L N)(hx:0<=L.node x):(L.node x).toNat<L.nn/\L.id (L.node x).toNat=x:=by
 rw[a.node]at hx ⊢;obtain⟨j,b,e,c⟩:=uR hx;rw[e];rw[a.BL]at b;exact⟨b,by show L.id j=x; rw[<- (a.tid j b).1]; exact c⟩
theorem fQ.rk(h:fQ m L)(c:Inv0 L N)(hx:0<=L.node x):CS m x=L.R (L.node x).toNat:=by
 obtain⟨a,b⟩:=c.Yp hx;rw[<- h.row _ a,b]
theorem fQ.BO(h:fQ m L)(f:m.T.ok)(a:Inv0 L N)(hx:m.T.has x=true)(r:Nat->Int):fQ (BO m x r) { L with R:=aJ L.R (L.node x).toNat r }:=by
 have l:=(h.node a x).1 hx;obtain⟨j,c⟩:=a.Yp l;refine { h with row:=fun i b => ?_,T:=⟨h.T.has,h.T.n,h.T.par⟩ };show Fx.aM m.R (m.idx x) r (m.idx (L.id i))=aJ L.R (L.node x).toNat r i;unfold Fx.aM aJ;by_cases e:i=(L.node x).toNat
 ·subst e; rw[c,d_ rfl,d_ rfl]
 rw[b_ e,b_]
 ·exact h.row i b
 intro g;have d:=(dP.CW f ((h.T.has _).2 ⟨i,b,rfl⟩)).2;have k:=(dP.CW f hx).2;rw[g,k]at d;exact e (a.inj i _ b j (by rw[c]; exact d.symm))
theorem fQ.along(h:fQ m L)(l:m.T.ok)(g:Inv0 L N)(f:(Nat->Int)->(Nat->Int) × Int)(x:Int) :
 dz m f (m.T.path x)=(dw f (nX L x) L.R (bT L.t L.tn x)).2/\((dw f (nX L x) L.R (bT L.t L.tn x)).2=0 -> ∀ i,i<L.nn->(oK m f (m.T.path x)).R (m.idx (L.id i))=(dw f (nX L x) L.R (bT L.t L.tn x)).1 i):=by
 obtain⟨z,p⟩:=h.T.path l g x;have w:(m.T.path x).Nodup:=dK.wI l x;have o : ∀ i,i<bT L.t L.tn x->0<=L.node (bA L.t L.tn i x):=fun i c=>by rw[g.node]; exact AU c
 have y : ∀ i j,i<bT L.t L.tn x->j<bT L.t L.tn x->nX L x i=nX L x j->i=j:=fun i j c v e=>by
  have a:=g.Yp (o i c);have b:=g.Yp (o j v);have e:(L.node (bA L.t L.tn i x)).toNat=(L.node (bA L.t L.tn j x)).toNat:=e;rw[e]at a;have k:bA L.t L.tn i x=bA L.t L.tn j x:=a.2.symm.trans b.2;rw[<- p i (by omega),<- p j (by omega)]at k;exact yI w (by omega) (by omega) k
 obtain⟨A,B⟩:=Fw (f:=f) (idx:=nX L x) (R:=L.R) y;refine⟨?_,fun s i c => ?_⟩
 ·rw[A];unfold dz;rw[z];exact CV fun i c=>by
   rw[p i (by omega)];exact h.rk g (o i c)
 have u:=(dP.CW l ((h.T.has _).2 ⟨i,c,rfl⟩)).2;show(if m.T.x (m.idx (L.id i))∈m.T.path x then(f (m.R (m.idx (L.id i)))).1 else m.R (m.idx (L.id i)))=_;rw[u,show m.R (m.idx (L.id i))=L.R i from h.row i c];have r:L.id i∈m.T.path x <-> ∃ q,q<bT L.t L.tn x/\nX L x q=i:=by
  rw[h.T.mem l g];constructor
  ·rintro ⟨q,d,e⟩;exact⟨q,d,(DZ g c d).2 e⟩
  ·rintro ⟨q,d,e⟩;exact⟨q,d,(DZ g c d).1 e⟩
 rcases B s i with ⟨n,k⟩|⟨n,q,d,k⟩
 ·rw[n,b_];rw[r]; rintro ⟨q,d,e⟩; exact k q d e
 rw[n,d_ (r.2 ⟨q,d,k⟩)]
theorem fQ.asked(h:fQ m L)(f:bO v=true)(r:Int):gL m v.o r=true<->0<=L.kQ (aP v) r:=by
 obtain⟨a,c,d⟩:=fA (iL f);have:aP v=a:=by unfold aP; omega
 rw[this,d,h.ask a r c];unfold fP.kQ;rw[BZ];constructor
 ·rintro ⟨j,b,e⟩; exact⟨j,b,f_ e⟩
 rintro ⟨j,b,e⟩; exact⟨j,b,h_ e⟩
theorem fQ.grant(h:fQ m L)(o r:Int):(iD m o r=true<->0<=L.grant o r)/\(0<=L.grant o r->(L.grant o r).toNat<L.gn/\eT m o r<m.gn/\m.g (eT m o r)=L.g (L.grant o r).toNat/\L.g (L.grant o r).toNat 0=o/\L.g (L.grant o r).toNat 1=r):=by
 have k1:iD m o r=true <-> ∃ j,j<m.gn/\m.g j 0=o/\m.g j 1=r:=kW;have k2:0<=L.grant o r <-> ∃ q,q<L.gn/\L.g q 0=o/\L.g q 1=r:=by
  unfold fP.grant;rw[BZ];constructor
  ·rintro ⟨j,a,e⟩; rw[R_]at e; exact⟨j,a,h_ e.1,h_ e.2⟩
  ·rintro ⟨j,a,b,c⟩; exact⟨j,a,by rw[f_ b,f_ c]; rfl⟩
 refine⟨?_,fun l => ?_⟩
 ·rw[k1,k2];constructor
  ·rintro ⟨j,a,b,c⟩;obtain⟨q,d,e⟩:=h.g2 j a;exact⟨q,d,by rw[e]; exact b,by rw[e]; exact c⟩
  rintro ⟨q,d,b,c⟩;obtain⟨j,a,e⟩:=h.g1 q d;exact⟨j,a,by rw[e]; exact b,by rw[e]; exact c⟩
 have : ∃ q,q<L.gn/\L.grant o r=(q:Int)/\L.g q 0=o/\L.g q 1=r:=by
  unfold fP.grant at l ⊢
  rcases jJ (fun i=>decide (L.g i 0=o)&&decide (L.g i 1=r)) L.gn with ⟨q,d,e,k⟩|⟨e,_⟩
  ·rw[R_]at k; exact⟨q,d,e,h_ k.1,h_ k.2⟩
  ·omega
 obtain⟨q,d,e,b,c⟩:=this;rw[e];obtain⟨j,a,f⟩:=h.g1 q d;have:eT m o r=j:=yJ h.gi a (by show m.g j 0=o; rw[f]; exact b) (by show m.g j 1=r; rw[f]; exact c);rw[this];exact⟨d,a,f,b,c⟩
theorem fQ.agJ(h:fQ m L)(i:m.T.ok)(g:Inv0 L N)(e:bO v=true)(l:v.kind=1):iT m v=jX L v:=by
 obtain⟨a,j,d⟩:=fA (iL e);have k:aP v=a:=by unfold aP; omega
 unfold iT jX;rw[k,h.own a j,d];have b:(5<=((nM L.id ((a:Int)+1) L.nn:Nat):Int)\/140737488355328<v.aU)<->(5<=nM L.id ((a:Int)+1) L.nn\/140737488355328<v.aU):=by omega
 have f:mZ v=jc ((a:Int)+1) v.seq:=by rw[<- d,qN e]; rfl
 by_cases c:5<=nM L.id ((a:Int)+1) L.nn\/140737488355328<v.aU
 ·rw[d_ c,d_ (b.2 c)]
 rw[b_ c,b_ (fun q=>c (b.1 q)),h.T.err i g,f]
theorem fQ.make(h:fQ m L)(A:m.T.ok)(r:Inv0 L N)(l:bO v=true)(D:v.kind=1)(z:jX L v=0):fQ (CQ m v) (qj L v):=by
 obtain⟨k,g,H,I,J,K,M,y,P,Q,G⟩:=wE r l D z;have t:=qN l;have O:=nP l;have f:mZ v=jc v.o v.seq:=by rw[t]; rfl
 have w:m.T.has (mZ v)=false:=by
  rw[h.T.findF r,f,uX];exact G.no
 have E : ∀ i,i<m.T.n->m.T.x i≠mZ v:=fun i d e=>by
  have:=dK.zC d; rw[e,w]at this; cases this
 rw[y];have C : ∀ q,(m.T.put (mZ v) v.node).has q=true<->(m.T.has q=true\/q=mZ v):=fun q=>by
  rw[dK.jw,Bool.or_eq_true,O_];exact⟨fun h=>h.imp id Eq.symm,fun h=>h.imp id Eq.symm⟩
 have u : ∀ q,q<L.nn->L.id q≠mZ v:=fun q F e=>by
  have:=(h.T.has _).2 ⟨q,F,rfl⟩; rw[e,w]at this; cases this
 refine {
  T:=⟨fun q => ?_,?_,fun i d => ?_⟩
  inn:=h.inn
  left:=h.left
  known:=h.known
  row:=fun i d => ?_
  own:=fun a s => ?_
  gi:=h.gi
  gn:=h.gn
  g1:=h.g1
  g2:=h.g2
  ask:=h.ask
  ga:=h.ga
  li:=h.li }
 ·show(m.T.put (mZ v) v.node).has q=true <-> ∃ i,i<L.nn+1/\Fx.cK L.id k (jc v.o v.seq) i=q;rw[C,h.T.has];constructor
  ·rintro (⟨i,d,e⟩|e)
   ·obtain⟨j,b,_,c⟩:=AP (k:=k) d;exact⟨j,b,by rw[c]; exact e⟩
   exact⟨k,by omega,by rw[dG,e,f]⟩
  rintro ⟨i,d,e⟩
  rcases dU g d with rfl|⟨j,b,c,_,_⟩
  ·rw[dG]at e; exact .inr (by rw[<- e,f])
  rw[c]at e; exact .inl ⟨j,b,e⟩
 ·show m.T.n+1=L.nn+1;rw[h.T.n]
 ·show(m.T.put (mZ v) v.node).par (Fx.cK L.id k (jc v.o v.seq) i)=Fx.cK L.par k v.node i;rw[dK.sM]
  rcases dU g d with rfl|⟨j,b,c,_,_⟩
  ·rw[dG,dG,d_ f]
  rw[c,c,b_ (fun e=>u j b e.symm)]; exact h.T.par j b
 ·show Fx.aM m.R m.T.n _ (yZ (Fx.aM m.T.x m.T.n (mZ v)) (m.T.n+1) (Fx.cK L.id k (jc v.o v.seq) i))=Fx.cK L.R k _ i
  rcases dU g d with rfl|⟨j,b,c,_,_⟩
  ·rw[dG,dG,<- f,KR _ _ _ E]; unfold Fx.aM; rw[d_ rfl]
  rw[c,c,KS _ _ (fun e=>u j b e.symm)];have p:=(dP.CW A ((h.T.has _).2 ⟨j,b,rfl⟩)).1;have p:yZ m.T.x m.T.n (L.id j)<m.T.n:=p;unfold Fx.aM;rw[b_ (by omega)];exact h.row j b
 show aJ m.own (aP v) (m.own (aP v)+1) a=((nM (Fx.cK L.id k (jc v.o v.seq)) ((a:Int)+1) (L.nn+1):Nat):Int);rw[KT _ g,t];have B:(1099511627776*v.o+v.seq) / 1099511627776=v.o:=by omega
 rw[B];unfold aJ;by_cases e:a=aP v
 ·rw[d_ e,<- e,h.own a s,d_ (by unfold aP at e; omega)]; rfl
 rw[b_ e,h.own a s,b_ (by unfold aP at e; omega)]; rfl
attribute [local irreducible] bT dw dz in
theorem fQ.qA(h:fQ m L)(d:m.T.ok)(g:Inv0 L N)(i:bO v=true):jM m v=iQ L v:=by
 unfold jM iQ;by_cases c:gL m v.o v.req=true
 ·rw[d_ c,d_ ((h.asked i _).1 c)]
 rw[b_ c,b_ (fun e=>c ((h.asked i _).2 e))];obtain⟨j,_⟩:=h.T.path d g v.node;have f:m.T.has v.node=false<->bT L.t L.tn v.node=0:=by
  rw[<- j];constructor
  ·intro b; rw[show m.T.path v.node = []from kL b]; rfl
  ·intro b
   cases e:m.T.has v.node with
   | false=>rfl
   | true=>rw[dK.step d e]at b; simp at b
 by_cases a:m.T.has v.node=false
 ·rw[d_ a,d_ (f.1 a)]
 rw[b_ a,b_ (fun e=>a (f.2 e))];exact(h.along d g _ _).1
theorem Fy{k1 k2:Nat->Int}{n:Nat}{a b o r:Int}:A9 (Fx.aM k1 n a) (Fx.aM k2 n b) (n+1) o r=true<->(A9 k1 k2 n o r=true\/(a=o/\b=r)):=by
 rw[kW,kW];unfold Fx.aM;constructor
 ·rintro ⟨j,f,c,d⟩;by_cases e:j=n
  ·subst e; rw[d_ rfl]at c d; exact .inr ⟨c,d⟩
  rw[b_ e]at c d; exact .inl ⟨j,by omega,c,d⟩
 rintro (⟨j,f,c,d⟩|⟨c,d⟩)
 ·exact⟨j,by omega,by rw[b_ (by omega)]; exact c,by rw[b_ (by omega)]; exact d⟩
 exact⟨n,by omega,by rw[d_ rfl]; exact c,by rw[d_ rfl]; exact d⟩
theorem fQ.OH(h:fQ m L)(w:bO v=true)(d:dP)(f:fP)(i:d.an=m.an+1)(k:d.ao=Fx.aM m.ao m.an v.o)(l:d.ar=Fx.aM m.ar m.an v.req)(n:f.rn=aJ L.rn (aP v) (L.rn (aP v)+1))(p:f.rq=aJ L.rq (aP v) (aJ (L.rq (aP v)) (L.rn (aP v)) v.req)) :
 (∀(a:Nat) (r:Int),a<6->(gL d ((a:Int)+1) r=true <-> ∃ j,j<f.rn a/\f.rq a j=r))/\(∀ o r,gL m o r=true->gL d o r=true)/\gL d v.o v.req=true:=by
 obtain⟨b,x,t⟩:=fA (iL w);have u:aP v=b:=by unfold aP; omega
 have g : ∀ o r,gL d o r=true<->(gL m o r=true\/(v.o=o/\v.req=r)):=fun o r=>by
  unfold gL; rw[i,k,l]; exact Fy
 refine⟨fun a r q => ?_,fun o r h=>(g o r).2 (.inl h),(g _ _).2 (.inr ⟨rfl,rfl⟩)⟩;rw[g,h.ask a r q,n,p,u];unfold aJ;by_cases e:a=b
 ·subst e;rw[d_ rfl,d_ rfl];constructor
  ·rintro (⟨j,s,e⟩|⟨_,e⟩)
   ·exact⟨j,by omega,by show(if j=L.rn a then v.req else L.rq a j)=r; rw[b_ (by omega)]; exact e⟩
   exact⟨L.rn a,by omega,by show(if L.rn a=L.rn a then v.req else _)=r; rw[d_ rfl]; exact e⟩
  rintro ⟨j,s,e⟩;have e:(if j=L.rn a then v.req else L.rq a j)=r:=e;by_cases c:j=L.rn a
  ·rw[d_ c]at e; exact .inr ⟨t,e⟩
  rw[b_ c]at e; exact .inl ⟨j,by omega,e⟩
 rw[b_ e,b_ e];exact⟨fun h=>h.elim id fun h=>by omega,.inl⟩
attribute [local irreducible] bT dw dz in
theorem fQ.take(h:fQ m L)(F:m.T.ok)(E:Inv0 L N)(D:bO v=true)(t:iQ L v=0):fQ (kg m v) (lN L v):=by
 unfold iQ at t;split at t
 ·cases t
 rename_i c1;split at t
 ·cases t
 have I:=(h.along F E (fun x=>bC x v.o v.aU) v.node).2 t;have G : ¬ gL m v.o v.req=true:=fun e=>c1 ((h.asked D _).1 e);obtain⟨k1,k2,J⟩:=h.OH D (kg m v) (lN L v) rfl rfl rfl rfl rfl;have s : ∀ j,(kg m v).g j=if j=m.gn then pY v else m.g j:=fun j=>rfl;have A:pY v 0=v.o:=rfl;have B:pY v 1=v.req:=rfl;have y : ∀ j,j<m.gn -> ¬ (m.g j 0=v.o/\m.g j 1=v.req):=fun j d e=>G (by have:=h.ga j d; rw[e.1,e.2]at this; exact this);have u:=Fx.yu (fun i=>EN v (L.g i)) L.gn
 refine {
  T:=⟨h.T.has,h.T.n,h.T.par⟩
  inn:=h.inn
  left:=h.left
  known:=h.known
  row:=I
  own:=h.own
  gi:=fun i j r d b a => ?_
  gn:=by show m.gn+1=L.gn+1; rw[h.gn]
  g1:=fun q f => ?_
  g2:=fun j d => ?_
  ask:=k1
  ga:=fun i r => ?_
  li:=fun p q z f b a => ?_ }
 ·have r:i<m.gn+1:=r;have d:j<m.gn+1:=d;rw[s,s]at b a;by_cases c:i=m.gn
  ·by_cases l:j=m.gn
   ·omega
   rw[d_ c,b_ l,A]at b; rw[d_ c,b_ l,B]at a;exact L_ ⟨b.symm,a.symm⟩ (y j (by omega))
  by_cases l:j=m.gn
  ·rw[b_ c,d_ l,A]at b; rw[b_ c,d_ l,B]at a;exact L_ ⟨b,a⟩ (y i (by omega))
  rw[b_ c,b_ l]at b a; exact h.gi i j (by omega) (by omega) b a
 ·have f:q<L.gn+1:=f;show ∃ j,j<m.gn+1/\(kg m v).g j=Fx.cK L.g (Fx.down (fun i=>EN v (L.g i)) L.gn) (pY v) q
  rcases dU u f with e|⟨j,d,a,_,_⟩
  ·rw[e,dG]; exact⟨m.gn,by omega,by rw[s,d_ rfl]⟩
  rw[a];obtain⟨i,r,w⟩:=h.g1 j d;exact⟨i,by omega,by rw[s,b_ (by omega)]; exact w⟩
 ·have d:j<m.gn+1:=d;show ∃ q,q<L.gn+1/\Fx.cK L.g (Fx.down (fun i=>EN v (L.g i)) L.gn) (pY v) q=(kg m v).g j;rw[s];by_cases c:j=m.gn
  ·rw[d_ c]; exact⟨_,by omega,dG⟩
  rw[b_ c];obtain⟨q,f,e⟩:=h.g2 j (by omega);obtain⟨K,H,_,a⟩:=AP (k:=Fx.down (fun i=>EN v (L.g i)) L.gn) f;exact⟨K,H,by rw[a]; exact e⟩
 ·have r:i<m.gn+1:=r;rw[s];by_cases c:i=m.gn
  ·rw[d_ c]; exact J
  rw[b_ c]; exact k2 _ _ (h.ga i (by omega))
 have z:p<L.gn+1:=z;have f:q<L.gn+1:=f;have C : ∀ j,j<L.gn -> ¬ (L.g j 0=v.o/\L.g j 1=v.req):=fun j d e=>by
  obtain⟨i,r,w⟩:=h.g1 j d;rw[<- w]at e;exact y i r e
 have b:Fx.cK L.g (Fx.down (fun i=>EN v (L.g i)) L.gn) (pY v) p 0=Fx.cK L.g (Fx.down (fun i=>EN v (L.g i)) L.gn) (pY v) q 0:=b;have a:Fx.cK L.g (Fx.down (fun i=>EN v (L.g i)) L.gn) (pY v) p 1=Fx.cK L.g (Fx.down (fun i=>EN v (L.g i)) L.gn) (pY v) q 1:=a;generalize Fx.down (fun i=>EN v (L.g i)) L.gn=k at b a u
 rcases dU u z with c|⟨j,d,f1,f2,f3⟩
 ·rcases dU u f with l|⟨j',hj',f1',f2',f3'⟩
  ·omega
  rw[c,dG,f1']at b a; exact L_ ⟨b.symm,a.symm⟩ (C j' hj')
 rcases dU u f with l|⟨j',hj',f1',f2',f3'⟩
 ·rw[l,dG,f1]at b a; exact L_ ⟨b,a⟩ (C j d)
 rw[f1,f1']at b a;have:=h.li j j' d hj' b a;omega
attribute [local irreducible] bT dw dz in
theorem fQ.qB(h:fQ m L)(l:m.T.ok)(k:Inv0 L N)(f:bO v=true):jg m v=iH L v:=by
 unfold jg iH;by_cases c:gL m v.o v.req=true
 ·rw[d_ c,d_ ((h.asked f _).1 c)]
 rw[b_ c,b_ (fun e=>c ((h.asked f _).2 e))];obtain⟨d,j⟩:=h.grant v.o v.of;by_cases b:0<=L.grant v.o v.of
 ·obtain⟨p,r,i,s,t⟩:=j b;have n:=d.2 b;have e:(iD m v.o v.of=false\/m.g (eT m v.o v.of) 4≠0)<->(L.grant v.o v.of<0\/L.g (zy L v) 4≠0):=by
   rw[i,n];show _<->_\/L.g (L.grant v.o v.of).toNat 4≠0;constructor
   ·rintro (h|h)
    ·cases h
    ·exact .inr h
   ·rintro (h|h)
    ·omega
    ·exact .inr h
  by_cases a:L.grant v.o v.of<0\/L.g (zy L v) 4≠0
  ·rw[d_ a,d_ (e.2 a)]
  rw[b_ a,b_ (fun q=>a (e.1 q)),i];exact(h.along l k _ _).1
 rw[d_ (.inl (by
  cases e:iD m v.o v.of with
  | false=>rfl
  | true=>exact L_ (d.1 e) b)),d_ (.inl (by omega))]
attribute [local irreducible] bT dw dz in
theorem fQ.free(h:fQ m L)(G:m.T.ok)(F:Inv0 L N)(I:bO v=true)(k:iH L v=0):fQ (iy m v) (jY L v):=by
 unfold iH at k;split at k
 ·cases k
 split at k
 ·cases k
 rename_i c2;have E:0<=L.grant v.o v.of:=by rcases Zy (L.grant v.o v.of)with h1|h1; exact L_ (.inl h1) c2; exact h1
 obtain⟨C,D,t,K,M⟩:=(h.grant v.o v.of).2 E;have H:=(h.along G F (fun x=>bG x v.o (L.g (zy L v) 3)) (L.g (zy L v) 2)).2 k;obtain⟨k1,k2,J⟩:=h.OH I (iy m v) (jY L v) rfl rfl rfl rfl rfl;have A:zy L v=(L.grant v.o v.of).toNat:=rfl;have w : ∀ j,(iy m v).g j=if j=eT m v.o v.of then upd (m.g (eT m v.o v.of)) 4 v.req else m.g j:=fun j=>rfl;have u : ∀ q,(jY L v).g q=if q=zy L v then aJ (L.g (zy L v)) 4 v.req else L.g q:=fun q=>rfl;have B:upd (m.g (eT m v.o v.of)) 4 v.req=aJ (L.g (zy L v)) 4 v.req:=by rw[t]; rfl
 have f : ∀ j p,(p=0\/p=1)->(iy m v).g j p=m.g j p:=fun j p s=>by
  rw[w];by_cases c:j=eT m v.o v.of
  ·subst c; rw[d_ rfl]; rcases s with rfl|rfl <;> rfl
  ·rw[b_ c]
 have z : ∀ j p,(p=0\/p=1)->(jY L v).g j p=L.g j p:=fun j p s=>by
  rw[u];by_cases c:j=zy L v
  ·subst c; rw[d_ rfl]; rcases s with rfl|rfl <;> rfl
  ·rw[b_ c]
 refine {
  T:=⟨h.T.has,h.T.n,h.T.par⟩
  inn:=h.inn
  left:=h.left
  known:=h.known
  row:=fun i r => ?_
  own:=h.own
  gi:=fun i j r a l d=>h.gi i j r a (by rw[f i 0 (.inl rfl),f j 0 (.inl rfl)]at l; exact l) (by rw[f i 1 (.inr rfl),f j 1 (.inr rfl)]at d; exact d)
  gn:=h.gn
  g1:=fun q b => ?_
  g2:=fun j a => ?_
  ask:=k1
  ga:=fun i r=>by rw[f i 0 (.inl rfl),f i 1 (.inr rfl)]; exact k2 _ _ (h.ga i r)
  li:=fun p q s b l d=>h.li p q s b (by rw[z p 0 (.inl rfl),z q 0 (.inl rfl)]at l; exact l) (by rw[z p 1 (.inr rfl),z q 1 (.inr rfl)]at d; exact d) }
 ·have:=H i r;show(oK m (fun x=>bG x v.o (m.g (eT m v.o v.of) 3)) (m.T.path (m.g (eT m v.o v.of) 2))).R (m.idx (L.id i))=_;rw[t]; exact this
 ·have b:q<L.gn:=b;rw[u];by_cases c:q=zy L v
  ·rw[d_ c]; exact⟨eT m v.o v.of,D,by rw[w,d_ rfl,B]⟩
  rw[b_ c];obtain⟨j,a,y⟩:=h.g1 q b;refine⟨j,a,?_⟩;rw[w,b_]
  ·exact y
  intro e;rw[e,t]at y;exact c (h.li q _ b C (congrFun y.symm 0) (congrFun y.symm 1))
 have a:j<m.gn:=a;rw[w];by_cases c:j=eT m v.o v.of
 ·rw[d_ c]; exact⟨zy L v,C,by rw[u,d_ rfl,B]⟩
 rw[b_ c];obtain⟨q,b,e⟩:=h.g2 j a;refine⟨q,b,?_⟩;rw[u,b_]
 ·exact e
 intro d;rw[d]at e;exact c (h.gi j _ a D (by rw[t,<- e,A]) (by rw[t,<- e,A]))
theorem fQ.move(h:fQ m L)(i:m.T.ok)(a:Inv0 L N)(k:bO v=true)(j:v.kind=5):jZ m v=oI L v/\(oI L v=0->fQ (CK m v) (EW L v)):=by
 obtain⟨b,l,n⟩:=Oo k j;unfold jZ oI;by_cases c:L.node v.node<0
 ·rw[d_ c,d_ ((h.KU a _).2 c)];exact⟨rfl,fun h=>by cases h⟩
 have f:0<=L.node v.node:=by omega
 rw[b_ c,b_ (fun e=>c ((h.KU a _).1 e)),h.inn];have g:rP m v=xU L v:=by unfold rP xU; rw[<- h.rk a f]; rfl
 have e:(v.dst<1\/6<v.dst\/L.inn (v.dst-1).toNat=false)<->L.inn (v.dst-1).toNat=false:=⟨fun h=>by rcases h with h|h|h; omega; omega; exact h,fun h => .inr (.inr h)⟩
 by_cases d:L.inn (v.dst-1).toNat=false
 ·rw[d_ d,d_ (e.2 d)];exact⟨rfl,fun h=>by cases h⟩
 rw[b_ d,b_ (fun q=>d (e.1 q)),g];refine⟨rfl,fun _ => ?_⟩;have:=h.BO i a ((h.node a _).2 f) (xU L v).1;unfold CK EW;rw[g]; exact this
theorem fQ.raise(h:fQ m L)(f:m.T.ok)(a:Inv0 L N):jA m v=wD L v/\(wD L v=0->fQ (uf m v) (EU L v)):=by
 unfold jA wD;by_cases c:L.node v.node<0
 ·rw[d_ c,d_ ((h.KU a _).2 c)];exact⟨rfl,fun h=>by cases h⟩
 have b:0<=L.node v.node:=by omega
 have d:m.R (m.idx v.node)=L.R (L.node v.node).toNat:=h.rk a b;rw[b_ c,b_ (fun e=>c ((h.KU a _).1 e)),d];refine⟨rfl,fun _ => ?_⟩;unfold uf EU;rw[d];exact h.BO f a ((h.node a _).2 b) _
theorem fQ.does(h:fQ m L)(c:m.T.ok)(b:Inv0 L N)(d:bO v=true):fB m v=dR L v/\(dR L v=0->fQ (iJ m v) (iI L v)):=by
 have j:=iY d;unfold fB dR iJ iI;by_cases k1:v.kind=1
 ·rw[d_ k1,d_ k1,d_ k1,d_ k1]; exact⟨h.agJ c b d k1,fun e=>h.make c b d k1 e⟩
 rw[b_ k1,b_ k1,b_ k1,b_ k1];by_cases k2:v.kind=2
 ·rw[d_ k2,d_ k2,d_ k2,d_ k2]; exact h.raise c b
 rw[b_ k2,b_ k2,b_ k2,b_ k2];by_cases f:v.kind=3
 ·rw[d_ f,d_ f,d_ f,d_ f]; exact⟨h.qA c b d,fun e=>h.take c b d e⟩
 rw[b_ f,b_ f,b_ f,b_ f];by_cases g:v.kind=4
 ·rw[d_ g,d_ g,d_ g,d_ g]; exact⟨h.qB c b d,fun e=>h.free c b d e⟩
 rw[b_ g,b_ g,b_ g,b_ g];by_cases a:v.kind=5
 ·rw[d_ a,d_ a,d_ a,d_ a]; exact h.move c b d a
 rw[b_ a,b_ a,b_ a,b_ a];by_cases i:v.kind=6
 ·rw[d_ i,d_ i,d_ i];exact⟨rfl,fun _ => { h with T:=⟨h.T.has,h.T.n,h.T.par⟩,inn:=by show aJ m.inn _ true=aJ L.inn _ true; rw[h.inn] }⟩
 rw[b_ i,b_ i,b_ i];exact⟨rfl,fun _ => { h with T:=⟨h.T.has,h.T.n,h.T.par⟩,left:=by show aJ m.left _ true=aJ L.left _ true; rw[h.left] }⟩
theorem fQ.apply(h:fQ m L)(f:m.T.ok)(d:Inv0 L N)(v:EvM):bZ m v=bP L v/\fQ (iA m v) (aA L v):=by
 have e:bZ m v=bP L v:=by
  unfold bZ bP;rw[h.known,h.inn,h.left]
  cases b:bO v with
  | false=>rfl
  | true =>
    rw[(h.does f d b).1]
 refine⟨e,?_⟩;unfold iA aA;rw[e];by_cases c:bP L v=0
 ·rw[d_ c,d_ c];have b:=(E9 (iZ c)).1;have g:dR L v=0:=by
   unfold bP at c;rw[b_ (by rw[b]; decide)]at c;split at c; · cases c
   split at c; · cases c
   split at c; · cases c
   exact c
  have a:=(h.does f d b).2 g;exact { a with T:=⟨a.T.has,a.T.n,a.T.par⟩,known:=by show aJ (iJ m v).known _ _=aJ (iI L v).known _ _; rw[a.known] }
 rw[b_ c,b_ c]; exact h
theorem fQ.sound(h:fQ m L)(k:m.T.ok)(c:Inv0 L N):QlK m := {
 own:=fun a l=>by
  have b:=OG (f:=L.id) (o:=(a:Int)+1) L.nn;have d:=c.nn;rw[h.own a l]; omega
 row:=fun i g p n=>by
  obtain⟨j,hj,e⟩:=(h.T.has _).1 (dK.zC g);have b:=h.row j hj;rw[e]at b;have d:m.idx (m.T.x i)=i:=mH k.inj g rfl;unfold CS at b;rw[d]at b;rw[b];exact iw (c.may j hj) p n
 ga:=h.ga
 kn:=by rw[h.known]; exact c.kn }
end
end Rt
end Go.Proofs.YtahbiajdgealnaaGreatDoor
