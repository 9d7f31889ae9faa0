/-
  What the proof of the law rests on, part 6: walks of functions, and plain laws; each says its conditions itself.
-/
import Derived.Shelf.SlSortCmp.NoneTotal
import Derived.Shelf.SlSortCmp.WholeK
import Derived.Lib.SliceRun
import Derived.Ground.SlsfProg
import Derived.Test.YtahbiajdgealnaaGreatDoorProg
import Derived.Test.YtahbiajdgealnaaGreatDoorZA5
set_option maxHeartbeats 1600000
set_option linter.unusedVariables false
set_option linter.unusedSimpArgs false
namespace Go.Proofs.YtahbiajdgealnaaGreatDoor
open Go.RowKit
set_option linter.unusedVariables false
namespace Fx
abbrev OV:=List (Nat × List Nat)
def FZ(ops:List Oper)(a:List Nat)(b:Bool)(i:Nat)(l:OV):Bool:=l.all fun x=>match a[x.1]? with|some e => !Nat.beq i e&&(if b then wI ops i x.2 e else wI ops e x.2 i)|none=>false
def LC(ops:List Oper)(a:List Nat)(c b:List OV):Bool:=(List.range ops.length).all fun i=>FZ ops a true i (c.getD i [])&&FZ ops a false i (b.getD i [])
def ou(a:List Nat)(b:Array Bool)(j:Nat):Bool:=match a[j]? with|some e=>b.getD e false|none=>false
def Ti(m:Nat->Bool)(j:Nat):Nat->Bool:=fun q=>bif Nat.beq q j then true else m q
section
variable {P:Program} {n:Nat} {Q:Post} {f:Nat->Value} {w:World} {ops:List Oper}
theorem OW{i e:Nat}{p:List Nat}{b:Array Bool}(hr:i∈Region.ready .any ops.toArray b)(j:H6 ops.toArray .any b)(d:i≠e)(h:wI ops i p e=true):b.getD e false=true:=by
 obtain⟨m,n,l,g⟩:=fq hr
 obtain⟨f,h⟩:=iI h
 cases f with
 | zero=>unfold reach at h; exact absurd (by simpa using h) d
 | succ f =>
   unfold reach at h
   rw[Bool.or_eq_true]at h
   rcases h with h|h
   ·exact absurd (by simpa using h) d
   ·rw[l]at h
    simp only at h
    rw[Array.any_eq_true']at h
    obtain⟨c,k,a⟩:=h
    rw[Bool.and_eq_true]at a
    refine j.reach _ _ a.2<|g c.on ?_
    unfold dB
    rw[Array.any_eq_true']
    exact⟨c,k,by rw[a.1,Nat.beq_refl]; rfl⟩
theorem W.masks{id:Nat}(o:List Nat)(X po:List OV)(y:Gh->Nat->Value)(S:(Nat->Bool)->Gh->World->Prop)(hm:P.follows .mixedOrders=true)(U:kr n ops=true)(hsel:Region.noSelect ops.toArray=true)(Tj:LC ops o X po=true)
 (hes:o.all (fun e=>Nat.blt e ops.length&&(match (opAt ops e).guard with|none=>true|_=>false))=true) (hnd:o.Nodup) (r0:Gh)
 (h0 : ∀ D,Below w.heap.size w D->D.heap.size=w.heap.size->S (fun _=>false) r0 D)
 (J : ∀ i,i<ops.length->o.contains i=false -> ∀ r m w,(∀ x∈X.getD i [],m x.1=true)->(∀ x∈po.getD i [],m x.1=false)->S m r w->if Region.wanted (opAt ops i) (yf ops.toArray (full ops f (y r)))then Oper.quietUpon P (S m r) w (y r i) ((execOp (ev (full ops f (y r))) (opAt ops i)).run P w)else y r i=undef)
 (I : ∀ j i,o[j]? = some i -> ∀ r m w (a:Act) (K:Act->World->Prop),(∀ x∈X.getD i [],m x.1=true)->(∀ x∈po.getD i [],m x.1=false)->m j=false->S m r w->(∀ x∈(opAt ops i).op.operands,a.eval x=ev (full ops f (y r)) x)->(∀ p C,S (Ti m j) (pI r j p) C->K (a.put (opAt ops i).dst (y (pI r j p) i)) C)->(opAt ops i).wp P a w K (lift n Q))
 (hd : ∀ i,i<ops.length -> ∀ j r p,(∀ x∈X.getD i [],x.1≠j)->o[j]? ≠ some i->j<o.length->y (pI r j p) i=y r i)
 (h : ∀ r m C,(∀ j,j<o.length->m j=true)->S m r C->Q .normal (full ops f (y r)) C):W P n (.region id ops.toArray true) Q f w:=fun a M=>by
 refine wp_region_any hm ?_
 have Z : ∀ i,i<ops.length->FZ ops o true i (X.getD i [])=true/\FZ ops o false i (po.getD i [])=true:=fun i t=>by
  unfold LC at Tj
  rw[List.all_eq_true]at Tj
  have:=Tj i (by simpa using t)
  rwa [Bool.and_eq_true]at this
 have hpr : ∀ i,i<ops.length -> ∀ x∈X.getD i [],∃ e,o[x.1]? = some e/\i≠e/\wI ops i x.2 e=true:=fun i t x G=>by
  have c:=(Z i t).1
  unfold FZ at c
  rw[List.all_eq_true]at c
  have c:=c x G
  cases I:o[x.1]? with
  | none=>rw[I]at c; cases c
  | some e =>
    rw[I]at c
    simp only[if_true,Bool.and_eq_true]at c
    exact⟨e,rfl,fun q=>by subst q; rw[Nat.beq_refl]at c; exact absurd c.1 (by simp),c.2⟩
 have hpo : ∀ i,i<ops.length -> ∀ x∈po.getD i [],∃ e,o[x.1]? = some e/\wI ops e x.2 i=true:=fun i t x G=>by
  have c:=(Z i t).2
  unfold FZ at c
  rw[List.all_eq_true]at c
  have c:=c x G
  cases I:o[x.1]? with
  | none=>rw[I]at c; cases c
  | some e =>
    rw[I]at c
    simp only[Bool.and_eq_true]at c
    exact⟨e,rfl,by simpa using c.2⟩
 have PE : ∀ k i,o[k]? = some i->i<ops.length/\(opAt ops i).guard=none:=fun k i hk=>by
  rw[List.all_eq_true]at hes
  have:=hes i (List.mem_of_getElem? hk)
  rw[Bool.and_eq_true]at this
  refine⟨by simpa [Nat.blt_eq] using this.1,?_⟩
  cases hg:(opAt ops i).guard with
  | none=>rfl
  | some _=>rw[hg]at this; exact absurd this.2 (by simp)
 have key : ∀(O:Nat) (b:Array Bool) (a:Act) (D:World) (r:Gh),b.size=ops.length->H6 ops.toArray .any b->Fr a n (over ops f (y r) b)->S (ou o b) r D ->
  (∀ N:List Nat,N=(List.range ops.length).filter (fun i => !b.getD i false)->N.length=O)->wpAny P .any ops.toArray (lift n Q) O b a D:=by
  intro O
  induction O with
  | zero =>
    intro b a D r V Cb M R Y
    have T : ∀ i,i<ops.length->b.getD i false=true:=fun i t=>by
     have c:=List.eq_nil_of_length_eq_zero (Y _ rfl)
     cases J:b.getD i false
     ·have:i∈(List.range ops.length).filter (fun i => !b.getD i false):=by simp only[List.mem_filter,List.mem_range]; exact⟨t,by rw[J]; rfl⟩
      rw[c]at this; cases this
     ·rfl
    have hnone:Region.ready .any ops.toArray b = []:=by
     cases J:Region.ready .any ops.toArray b with
     | nil=>rfl
     | cons i l =>
       have F:i∈Region.ready .any ops.toArray b:=by rw[J]; exact List.mem_cons_self
       obtain⟨c,E,_,_⟩:=fq F
       rw[T i E]at c; cases c
    refine⟨hnone,full ops f (y r),?_,h r _ D (fun j A => ?_) R⟩
    ·have:over ops f (y r) b=full ops f (y r):=by
      funext s
      unfold over full
      cases Z:writer ops s with
      | none=>rfl
      | some i=>simp only; rw[if_pos (T i (lN Z).2)]
     exact this ▸ M
    ·unfold ou
     rw[List.getElem?_eq_getElem A]
     exact T _ (PE j _ (List.getElem?_eq_getElem A)).1
  | succ O ih =>
    intro b a D r V Cb M R Y
    have hcount : ∀ i,i∈Region.ready .any ops.toArray b -> ∀ N:List Nat,N=(List.range ops.length).filter (fun j => !(b.setIfInBounds i true).getD j false)->N.length=O:=by
     intro i F N YA
     obtain⟨c,E,_,_⟩:=fq F
     subst YA
     have e:(List.range ops.length).filter (fun j => !(b.setIfInBounds i true).getD j false)=((List.range ops.length).filter (fun i => !b.getD i false)).erase i:=by
      rw[List.Nodup.erase_eq_filter (List.Nodup.sublist List.filter_sublist List.nodup_range),List.filter_filter]
      apply List.filter_congr
      intro j A
      by_cases e:i=j
      ·subst e; rw[set_self (by rw[V]; exact E)]; simp
      ·rw[jA e]
       have:(j != i)=true:=by simp; exact fun q=>e q.symm
       rw[this,Bool.true_and]
     rw[e,List.length_erase_of_mem (by simp only[List.mem_filter,List.mem_range]; exact⟨E,by rw[c]; rfl⟩),Y _ rfl]
     rfl
    refine⟨fun hnone => ?_,fun i F => ?_⟩
    ·exfalso
     have hlen:=Y _ rfl
     exact(by
      have : ∃ i,i∈Region.ready .any ops.toArray b:=by
       obtain⟨q,J⟩ : ∃ q,q∈(List.range ops.length).filter (fun i => !b.getD i false):=by
        cases hfe:(List.range ops.length).filter (fun i => !b.getD i false)with
        | nil=>rw[hfe]at hlen; cases hlen
        | cons q l=>exact⟨q,List.mem_cons_self⟩
       have Kw : ∀ m q,q<=m->q<ops.length->b.getD q false=false -> ∃ i,i<ops.length/\b.getD i false=false /\ ∀ j,j<i->b.getD j false=true:=by
        intro m
        induction m with
        | zero=>intro q hm B hq2; exact⟨q,B,hq2,fun j A=>by omega⟩
        | succ m ihm =>
          intro q hm B hq2
          by_cases T : ∀ j,j<q->b.getD j false=true
          ·exact⟨q,B,hq2,T⟩
          ·obtain⟨j,A⟩:=Classical.not_forall.1 T
           obtain⟨hj1,hj2⟩:=Classical.not_imp.1 A
           exact ihm j (by omega) (by omega) (by simpa using hj2)
       simp only[List.mem_filter,List.mem_range]at J
       obtain⟨i,t,hi1,hi2⟩:=Kw q q (Nat.le_refl _) J.1 (by simpa using J.2)
       refine⟨i,mem_ready.2 ⟨getD_in (by rw[V]; exact t) hi1,opAt ops i,?_,fun e I hb=>hi2 e.on ((eU U t).2.2.2 e.on ?_)⟩⟩
       ·unfold opAt; rw[List.getElem?_toArray,List.getD_eq_getElem?_getD,List.getElem?_eq_getElem t]; rfl
       ·unfold dB; rw[Array.any_eq_true']; exact⟨e,I,by rw[hb,Nat.beq_refl]; rfl⟩
      obtain⟨i,t⟩:=this
      rw[hnone]at t; cases t)
    ·obtain⟨c,t,hop,T⟩:=fq F
     have hsz':(b.setIfInBounds i true).size=ops.length:=by simpa using V
     have Ii:=Cb.set F
     have hev:=Mc (f:=f) U (v:=y r) F
     have hae : ∀ x∈(opAt ops i).op.operands,a.eval x=ev (full ops f (y r)) x:=fun x G=>by rw[M.ev]; exact hev x G
     have hex:execOp a.eval (opAt ops i)=execOp (ev (full ops f (y r))) (opAt ops i):=execOp_congr _ (Region.noSelect_spec hsel i _ · · hop) hae
     have hwant:Region.wanted (opAt ops i) (yielded ops.toArray a.tmps)=Region.wanted (opAt ops i) (yf ops.toArray (full ops f (y r))):=by rw[M.yf]; exact BG U F
     have hpre : ∀ x∈X.getD i [],ou o b x.1=true:=fun x G=>by
      obtain⟨e,E,h3,H⟩:=hpr i t x G
      unfold ou
      rw[E]; exact OW F Cb h3 H
     have hpost : ∀ x∈po.getD i [],ou o b x.1=false:=fun x G=>by
      obtain⟨e,E,H⟩:=hpo i t x G
      unfold ou
      rw[E]
      cases hle:b.getD e false with
      | false=>exact hle
      | true =>
        obtain⟨mm,H⟩:=iI H
        have:=Cb.reach _ _ H hle
        rw[c]at this; cases this
     unfold wpOp
     simp only[hop]
     rw[hwant]
     by_cases hne:o.contains i=true
     ·have hmem:i∈o:=by simpa using hne
      obtain⟨j,A⟩:=List.getElem?_of_mem hmem
      have hg:=(PE j i A).2
      have hjl:j<o.length:=(List.getElem?_eq_some_iff.1 A).1
      rw[if_pos (by unfold Region.wanted; rw[hg])]
      refine .inl<|I j i A r _ D a _ hpre hpost (by unfold ou; rw[A]; exact c) R hae fun p C hS' => ?_
      have hsame:over ops f (y r) b=over ops f (y (pI r j p)) b:=by
       funext s
       unfold over
       cases Z:writer ops s with
       | none=>rfl
       | some q =>
         simp only
         cases hlq:b.getD q false
         ·rfl
         ·simp only[if_true]
          have hqi:=(lN Z).2
          refine(hd q hqi j r p (fun x G e => ?_) (fun e => ?_) hjl).symm
          ·obtain⟨L,E,h3,H⟩:=hpr q hqi x G
           obtain⟨mm,H⟩:=iI H
           have h5:=Cb.reach _ _ H hlq
           rw[e,A]at E
           rw[<- Option.some.inj E,c]at h5; cases h5
          ·rw[A]at e
           rw[<- Option.some.inj e,c]at hlq; cases hlq
      refine ih _ _ _ (pI r j p) hsz' Ii ?_ ?_ (hcount i F)
      ·have:=(hsame ▸ M).put (d:=(opAt ops i).dst) (by
        cases hd:(opAt ops i).dst with
        | none=>rfl
        | some d=>simp[inn,Nat.blt_eq,((eU U t).1 d hd).2]) (y (pI r j p) i)
       rwa [zA U V t]at this
      ·have e:ou o (b.setIfInBounds i true)=Ti (ou o b) j:=by
        funext q
        unfold Ti
        cases hb:Nat.beq q j with
        | true =>
          have:=Nat.eq_of_beq_eq_true hb
          subst this
          unfold ou
          rw[A]; exact set_self (by rw[V]; exact t)
        | false =>
          have hqj:q≠j:=fun z=>by rw[z,Nat.beq_refl]at hb; cases hb
          unfold ou
          cases hqe:o[q]? with
          | none=>rfl
          | some L =>
            have:i≠L:=fun z=>by
             subst z
             have h9:=List.getElem?_eq_some_iff.1 hqe
             have h10:=List.getElem?_eq_some_iff.1 A
             exact hqj ((List.getElem_inj hnd).1 (h9.2.trans h10.2.symm))
            exact jA this
       rw[e]; exact hS'
     ·have hne':o.contains i=false:=by simpa using hne
      have B:=J i t hne' r _ D hpre hpost R
      have hfin : ∀ C,S (ou o b) r C->wpAny P .any ops.toArray (lift n Q) O (b.setIfInBounds i true) (a.put (opAt ops i).dst (y r i)) C:=fun C hS'=>by
       refine ih _ _ _ r hsz' Ii ?_ ?_ (hcount i F)
       ·have:=M.put (d:=(opAt ops i).dst) (by
         cases hd:(opAt ops i).dst with
         | none=>rfl
         | some d=>simp[inn,Nat.blt_eq,((eU U t).1 d hd).2]) (y r i)
        rwa [zA U V t]at this
       ·have e:ou o (b.setIfInBounds i true)=ou o b:=by
         funext q
         unfold ou
         cases hqe:o[q]? with
         | none=>rfl
         | some L =>
           have:i≠L:=fun z=>by subst z; exact absurd (show o.contains i=true by simpa using List.mem_of_getElem? hqe) hne
           exact jA this
        rw[e]; exact hS'
      by_cases hwt:Region.wanted (opAt ops i) (yf ops.toArray (full ops f (y r)))=true
      ·rw[if_pos hwt]at B ⊢
       refine .inl ?_
       unfold Oper.wp
       rw[hex]
       generalize (execOp (ev (full ops f (y r))) (opAt ops i)).run P D=res at B
       cases res with
       | ok nx C =>
         cases nx <;> simp only[Oper.quietUpon]at B <;> simp only[Oper.upon]
         case value u=>obtain⟨e1,L⟩:=B; subst e1 L; exact hfin _ R
         case skip=>obtain⟨e1,L⟩:=B; subst e1; rw[<- L]; exact hfin _ R
         case enter g args =>
          obtain⟨e1,hc⟩:=B
          subst e1
          exact hc.mono fun e w'' ⟨he',hw''⟩=>by subst he'; exact hfin _ hw''
       | halt x C=>simp only[Oper.quietUpon]at B
      ·rw[if_neg hwt]at B ⊢
       rw[<- B]
       exact hfin _ R
 have hrep : ∀ i,(Array.replicate ops.toArray.size false).getD i false=false:=fun i=>by
  rw[Array.getD_eq_getD_getElem?]
  by_cases t:i<ops.length
  ·simp[t]
  ·simp[t]
 have hstart:over ops f (y r0) (Array.replicate ops.toArray.size false)=f:=by
  funext s
  unfold over
  cases writer ops s with
  | none=>rfl
  | some i=>simp only; rw[hrep]; simp
 have hdn:ou o (Array.replicate ops.toArray.size false)=fun _=>false:=by
  funext j
  unfold ou
  cases o[j]? with
  | none=>rfl
  | some e=>exact hrep e
 have:=key ops.toArray.size (Array.replicate ops.toArray.size false) a { w with drawn:=w.drawn+1 } r0 (by simp) (H6.start _ _ _) (by rw[hstart]; exact M) (by rw[hdn]; exact h0 _ (Below.refl _ _).drew rfl) (fun N Y=>by
  subst Y
  rw[List.filter_eq_self.2 (fun i _=>by rw[hrep]; rfl)]
  simp)
 simpa using this
theorem dQ{r:Gh}{k j:Nat}{p:Nat × Nat}(h:j≠k):pI r k p j=r j:=by
 unfold pI
 have:Nat.beq j k=false:=by
  cases hq:Nat.beq j k
  ·rfl
  ·exact absurd (Nat.eq_of_beq_eq_true hq) h
 rw[this]; rfl
theorem JJ{o:Oper}{ρ:Operand->Value}{T:TypeId}{m:Nat}{z:Nat->Value}(d:o.op = .alloc T)(e:((P.info? T).bind (·.zero)).map (·.cells)=some (aA m z))(a:World) : ∃ b,(execOp ρ o).run P a = .ok (.value (.pointer (some ⟨a.heap.size,0,none⟩))) b/\aP b a.heap.size m z T/\Stp a.heap.size a b:=by
 obtain⟨i,f,g⟩:=Option.map_eq_some_iff.1 e
 obtain⟨j,c,h⟩:=Option.bind_eq_some_iff.1 f
 refine⟨a.alloc (.cells i.cells T),?_,?_,Stp.alloc _ _⟩
 ·unfold execOp
  simp[d,Instr.alloc,zeroValue,typeInfo,c,h,newVar,newRow]
 show(a.alloc _).heap[a.heap.size]? = _
 rw[alloc_at,if_pos rfl,g]
theorem JK{o:Oper}{ρ:Operand->Value}{T T':TypeId}{a v:Operand}{m g:Nat}{x y:Nat->Value}{u:Value}(A:o.op = .store T' a v)(l:(P.info? T').map (·.size)=some m)(n:ρ a = .pointer (some ⟨g,0,none⟩))(p:ρ v=u)(D:u.cells=aA m y)(h1 : ∀ j,j<m->(y j).oneCell'=true){b:World}(t:aP b g m x T) : ∃ d,(execOp ρ o).run P b = .ok .skip d/\aP d g m y T/\Stp g b d:=by
 have h:b.heap[g]? = some (.cells (aA m x) T (0,0)):=t
 have s:(aA m y).all (·.oneCell')=true:=by
  rw[Array.all_eq_true_iff_forall_mem]
  intro q B
  obtain⟨j,i,z⟩:=Array.getElem_of_mem B
  have k:j<m:=by simpa [bS] using i
  have e:=fE y k
  rw[Array.getElem?_eq_getElem i,z]at e
  rw[Option.some.inj e]; exact h1 j k
 have C:(storeVar T' ⟨g,0,none⟩ u).run P b = .ok () (b.setRow g (aA m y)):=by
  have f:=run_storeCells_at (P:=P) g 0 T (aA m y).toList 0 (aA m x) b h (by simp[bS]) (fun q c=>(Array.all_eq_true_iff_forall_mem.1 s) q (by simpa using c))
  have r:((aA m x).toList.take (0+0)++(aA m y).toList++(aA m x).toList.drop (0+0+(aA m y).toList.length)).toArray=aA m y:=by
   rw[List.drop_eq_nil_of_le (by simp[bS])]; simp
  rw[r]at f
  cases c:P.info? T' with
  | none=>simp[c]at l
  | some ti =>
    have E:ti.size=m:=by simp[c]at l; omega
    simp only[storeVar,sizeOf,typeInfo,Sem.run_bind,run_program,c,D,bS,E,ne_eq,not_true_eq_false,if_false,Result.andThen_ok,Sem.run_pure,f]
 obtain⟨F,G,H⟩:=yH (w:=b) (cs:=aA m y) h
 refine⟨_,?_,G,F⟩
 unfold execOp
 simp only[A,n,p,Instr.storeAt,Instr.sureAddr,Sem.run_bind,Sem.run_pure,Result.andThen_ok,C]
def Bq(c d:Nat)(vs:Array Value)(a b:Nat):Nat->Value:=fun i=>bif Nat.beq i c then .pointer (some ⟨a,0,none⟩)else bif Nat.beq i d then .pointer (some ⟨b,0,none⟩)else vs.getD i undef
def Hq(ops:List Oper)(f:Nat->Value)(c d:Nat)(vs:Array Value)(a b:Nat):Nat->Value:=full ops f (Bq c d vs a b)
structure V7(w:World)(m1 m2:Nat)(z1 y1 z2 y2:Nat->Value)(T1 T2:TypeId)(m:Nat->Bool)(r:Gh)(v:World):Prop where
 b:Below w.heap.size w v
 a:m 0=true->w.heap.size<=(r 0).1/\aP v (r 0).1 m1 (if m 2=true then y1 else z1) T1
 c:m 1=true->w.heap.size<=(r 1).1/\aP v (r 1).1 m2 (if m 3=true then y2 else z2) T2
 ne:m 0=true->m 1=true->(r 0).1≠(r 1).1
theorem V7.up{m1 m2:Nat}{z1 y1 z2 y2:Nat->Value}{T1 T2:TypeId}{m:Nat->Bool}{r:Gh}{v e:World}(h:V7 w m1 m2 z1 y1 z2 y2 T1 T2 m r v)(d:Below v.heap.size v e):V7 w m1 m2 z1 y1 z2 y2 T1 T2 m r e :=
 ⟨HZ h.b d,fun q=>⟨(h.a q).1,(h.a q).2.bZ (Sb d) (Nat.ne_of_lt (h.a q).2.lt)⟩,fun q=>⟨(h.c q).1,(h.c q).2.bZ (Sb d) (Nat.ne_of_lt (h.c q).2.lt)⟩,h.ne⟩
def LD(P:Program)(a:Nat->Value)(ops:Array Oper)(w:World)(b:List Nat)(vs:Array Value):List Oper->Nat->Prop
 | [],_=>True
 | o::l,i=>(b.contains i=true\/(if Region.wanted o (yf ops a)then QB P (ev a) o w (vs.getD i undef)else vs.getD i undef=undef))/\LD P a ops w b vs l (i+1)
theorem F3{a:Nat->Value}{c:Array Oper}{b:List Nat}{vs:Array Value} : ∀ {l:List Oper} {k:Nat},LD P a c w b vs l k -> ∀ i,i<l.length->(b.contains (k+i)=true\/(if Region.wanted (opAt l i) (yf c a)then QB P (ev a) (opAt l i) w (vs.getD (k+i) undef)else vs.getD (k+i) undef=undef))
 | [],_,_,i,hi=>absurd hi (by simp)
 | o::l,k,h,0,_=>h.1
 | o::l,k,h,i+1,hi=>by
   have:=F3 h.2 i (by simpa using hi)
   rwa [show k+1+i=k+(i+1) by omega]at this
theorem Ev{i j:Nat}(h:i≠j):Nat.beq i j=false:=by
 cases hq:Nat.beq i j
 ·rfl
 exact absurd (Nat.eq_of_beq_eq_true hq) h
def Br(l:OV)(j:Nat):Bool:=l.any fun x=>Nat.beq x.1 j
theorem vK{l:OV}{j:Nat}(h:Br l j=true) : ∃ x∈l,x.1=j:=by
 unfold Br at h
 rw[List.any_eq_true]at h
 obtain⟨x,a,b⟩:=h
 exact⟨x,a,Nat.eq_of_beq_eq_true b⟩
theorem JL{id:Nat}{T1 T2 T1' T2':TypeId}{a1 v1 a2 v2:Operand}{m1 m2:Nat}{z1 y1 z2 y2:Nat->Value}{u1 u2:Value}(k l y z:Nat)(O N:List OV)(vs:Array Value)(hm:P.follows .mixedOrders=true)(hok:kr n ops=true)(hsel:Region.noSelect ops.toArray=true)(Tj:LC ops [k,l,y,z] O N=true)
 (hes : [k,l,y,z].all (fun e=>Nat.blt e ops.length&&(match (opAt ops e).guard with|none=>true|_=>false))=true) (hnd:decide [k,l,y,z].Nodup=true)
 (hw1:Br (O.getD y []) 0=true) (hw2:Br (O.getD z []) 1=true) (hw3:Br (N.getD k []) 2=true) (hw4:Br (N.getD l []) 3=true)
 (o1:(opAt ops k).op = .alloc T1) (o2:(opAt ops l).op = .alloc T2) (n1:((P.info? T1).bind (·.zero)).map (·.cells)=some (aA m1 z1)) (n2:((P.info? T2).bind (·.zero)).map (·.cells)=some (aA m2 z2))
 (V:(opAt ops y).op = .store T1' a1 v1) (X:(opAt ops z).op = .store T2' a2 v2) (Y:(opAt ops y).dst=none) (Z:(opAt ops z).dst=none) (e1:(P.info? T1').map (·.size)=some m1) (e2:(P.info? T2').map (·.size)=some m2)
 (ha1 : ∀ o s,ev (Hq ops f k l vs o s) a1 = .pointer (some ⟨o,0,none⟩)) (ha2 : ∀ o s,ev (Hq ops f k l vs o s) a2 = .pointer (some ⟨s,0,none⟩)) (hv1 : ∀ o s,ev (Hq ops f k l vs o s) v1=u1) (hv2 : ∀ o s,ev (Hq ops f k l vs o s) v2=u2)
 (hu1:u1.cells=aA m1 y1) (hu2:u2.cells=aA m2 y2) (h11 : ∀ j,j<m1->(y1 j).oneCell'=true) (h12 : ∀ j,j<m2->(y2 j).oneCell'=true)
 (hq : ∀ o s,LD P (Hq ops f k l vs o s) ops.toArray w [k,l,y,z] vs ops 0)
 (h : ∀ o s F f',f'=Hq ops f k l vs o s->w.heap.size<=o->w.heap.size<=s->o≠s->aP F o m1 y1 T1->aP F s m2 y2 T2->Below w.heap.size w F->Q .normal f' F):W P n (.region id ops.toArray true) Q f w:=by
 have hn:=of_decide_eq_true hnd
 simp only[List.nodup_cons,List.mem_cons,List.not_mem_nil,or_false,not_or]at hn
 obtain⟨⟨x12,x1s,x1t⟩,⟨x2s,x2t⟩,xst,_⟩:=hn
 refine W.masks [k,l,y,z] O N (fun r=>Bq k l vs (r 0).1 (r 1).1) (V7 w m1 m2 z1 y1 z2 y2 T1 T2) hm hok hsel Tj hes (of_decide_eq_true hnd) (fun _=>(0,0)) (fun w1 A _=>⟨A,fun h=>(nomatch h),fun h=>(nomatch h),fun h=>(nomatch h)⟩) ?_ ?_ ?_ ?_
 ·intro i hi U r m v _ _ d
  rcases F3 (hq (r 0).1 (r 1).1) i hi with h2|h2
  ·rw[Nat.zero_add]at h2; rw[h2]at U; cases U
  rw[Nat.zero_add]at h2
  have hni':i≠k/\i≠l/\i≠y/\i≠z:=by simpa using U
  have I:Bq k l vs (r 0).1 (r 1).1 i=vs.getD i undef:=by unfold Bq; rw[Ev hni'.1,Ev hni'.2.1]; rfl
  show if Region.wanted (opAt ops i) (yf ops.toArray (Hq ops f k l vs (r 0).1 (r 1).1))then Oper.quietUpon P _ v (Bq k l vs (r 0).1 (r 1).1 i) ((execOp (ev (Hq ops f k l vs (r 0).1 (r 1).1)) (opAt ops i)).run P v)else Bq k l vs (r 0).1 (r 1).1 i=undef
  rw[I]
  by_cases hw:Region.wanted (opAt ops i) (yf ops.toArray (Hq ops f k l vs (r 0).1 (r 1).1))=true
  ·rw[if_pos hw]at h2 ⊢
   rcases h2 v d.b with h3|⟨g,args,h3,h4⟩
   ·rw[h3]; exact⟨rfl,rfl⟩
   rw[h3]; exact⟨rfl,h4.mono fun e w2 ⟨he,hb2⟩=>⟨he,d.up hb2⟩⟩
  rw[if_neg hw]at h2 ⊢; exact h2
 ·intro j i t r m v a K hpr hpo hmj d B L
  match j,t with
  | 0,t =>
    obtain rfl:k=i:=by simpa using t
    obtain⟨v2,E,A,u⟩:=JJ (ρ:=a.eval) o1 n1 v
    unfold Oper.wp
    rw[E]
    obtain⟨x,C,D⟩:=vK hw3
    have hm2:m 2=false:=by rw[<- D]; exact hpo x C
    have:=L (v.heap.size,0) v2 ⟨HZ d.b u.old,fun _=>by
     rw[nA]
     exact⟨d.b.size,by show aP v2 v.heap.size m1 (if m 2=true then y1 else z1) T1; rw[hm2]; exact A⟩,fun q=>by
     have q:m 1=true:=q
     rw[dQ (by decide)]
     exact⟨(d.c q).1,(d.c q).2.bZ u (Nat.ne_of_lt (d.c q).2.lt)⟩,fun _ q=>by
     have q:m 1=true:=q
     rw[nA,dQ (by decide)]
     exact Nat.ne_of_gt (d.c q).2.lt⟩
    have I:Bq k l vs (pI r 0 (v.heap.size,0) 0).1 (pI r 0 (v.heap.size,0) 1).1 k = .pointer (some ⟨v.heap.size,0,none⟩):=by unfold Bq; rw[Nat.beq_refl,nA]; rfl
    rw[I]at this
    exact this
  | 1,t =>
    obtain rfl:l=i:=by simpa using t
    obtain⟨v2,E,A,u⟩:=JJ (ρ:=a.eval) o2 n2 v
    unfold Oper.wp
    rw[E]
    obtain⟨x,C,D⟩:=vK hw4
    have hm3:m 3=false:=by rw[<- D]; exact hpo x C
    have:=L (v.heap.size,0) v2 ⟨HZ d.b u.old,fun q=>by
     have q:m 0=true:=q
     rw[dQ (by decide)]
     exact⟨(d.a q).1,(d.a q).2.bZ u (Nat.ne_of_lt (d.a q).2.lt)⟩,fun _=>by
     rw[nA]
     exact⟨d.b.size,by show aP v2 v.heap.size m2 (if m 3=true then y2 else z2) T2; rw[hm3]; exact A⟩,fun q _=>by
     have q:m 0=true:=q
     rw[nA,dQ (by decide)]
     exact Nat.ne_of_lt (d.a q).2.lt⟩
    have I:Bq k l vs (pI r 1 (v.heap.size,0) 0).1 (pI r 1 (v.heap.size,0) 1).1 l = .pointer (some ⟨v.heap.size,0,none⟩):=by unfold Bq; rw[Ev (fun e=>x12 e.symm),Nat.beq_refl,nA]; rfl
    rw[I]at this
    exact this
  | 2,t =>
    obtain rfl:y=i:=by simpa using t
    obtain⟨x,C,D⟩:=vK hw1
    have G:m 0=true:=by rw[<- D]; exact hpr x C
    have R:a.eval a1 = .pointer (some ⟨(r 0).1,0,none⟩):=(B a1 (by rw[V]; simp[Op.operands])).trans (ha1 (r 0).1 (r 1).1)
    have S:a.eval v1=u1:=(B v1 (by rw[V]; simp[Op.operands])).trans (hv1 (r 0).1 (r 1).1)
    obtain⟨J,E,A,u⟩:=JK V e1 R S hu1 h11 (d.a G).2
    unfold Oper.wp
    rw[E]
    show K (a.put (opAt ops y).dst undef) _
    rw[Y]
    have:=L (0,0) J ⟨u.below d.b d.b.size (d.a G).1,fun _=>by
     rw[dQ (by decide)]
     exact⟨(d.a G).1,by show aP J (r 0).1 m1 (if Ti m 2 2=true then y1 else z1) T1; exact A⟩,fun q=>by
     have q:m 1=true:=q
     rw[dQ (by decide)]
     exact⟨(d.c q).1,(d.c q).2.bZ u (fun e=>d.ne G q e.symm)⟩,fun _ q=>by
     have q:m 1=true:=q
     rw[dQ (by decide),dQ (by decide)]
     exact d.ne G q⟩
    rw[Y]at this
    exact this
  | 3,t =>
    obtain rfl:z=i:=by simpa using t
    obtain⟨x,C,D⟩:=vK hw2
    have H:m 1=true:=by rw[<- D]; exact hpr x C
    have R:a.eval a2 = .pointer (some ⟨(r 1).1,0,none⟩):=(B a2 (by rw[X]; simp[Op.operands])).trans (ha2 (r 0).1 (r 1).1)
    have S:a.eval v2=u2:=(B v2 (by rw[X]; simp[Op.operands])).trans (hv2 (r 0).1 (r 1).1)
    obtain⟨J,E,A,u⟩:=JK X e2 R S hu2 h12 (d.c H).2
    unfold Oper.wp
    rw[E]
    show K (a.put (opAt ops z).dst undef) _
    rw[Z]
    have:=L (0,0) J ⟨u.below d.b d.b.size (d.c H).1,fun q=>by
     have q:m 0=true:=q
     rw[dQ (by decide)]
     exact⟨(d.a q).1,(d.a q).2.bZ u (d.ne q H)⟩,fun _=>by
     rw[dQ (by decide)]
     exact⟨(d.c H).1,by show aP J (r 1).1 m2 (if Ti m 3 3=true then y2 else z2) T2; exact A⟩,fun q _=>by
     have q:m 0=true:=q
     rw[dQ (by decide),dQ (by decide)]
     exact d.ne q H⟩
    rw[Z]at this
    exact this
  | j+4,t=>simp at t
 ·intro i hi j r p C hne hjl
  have t:j=0\/j=1\/j=2\/j=3:=by simp at hjl; omega
  show Bq k l vs (pI r j p 0).1 (pI r j p 1).1 i=Bq k l vs (r 0).1 (r 1).1 i
  unfold Bq
  rcases t with rfl|rfl|rfl|rfl
  ·have:i≠k:=fun e=>hne (by rw[e]; rfl)
   rw[Ev this]; simp only[cond_false]; rw[dQ (by decide)]
  ·have:i≠l:=fun e=>hne (by rw[e]; rfl)
   rw[Ev this]; simp only[cond_false]; rw[dQ (by decide)]
  ·rw[dQ (by decide),dQ (by decide)]
  rw[dQ (by decide),dQ (by decide)]
 intro r m F M d
 have m0:=M 0 (by simp); have m1':=M 1 (by simp); have m2':=M 2 (by simp); have m3:=M 3 (by simp)
 have B:=d.a m0; have T:=d.c m1'
 rw[m2']at B; rw[m3]at T
 exact h (r 0).1 (r 1).1 F _ rfl B.1 T.1 (d.ne m0 m1') B.2 T.2 d.b
end
end Fx
end Go.Proofs.YtahbiajdgealnaaGreatDoor
namespace Go.Proofs.YtahbiajdgealnaaGreatDoor
open Go.RowKit Rt
open Fx (fD eT fI bC gL gK dw dR fZ iL dZ jg fP jh iV Lv sN Ln Ws Qv Wl Rp Wc Qs Wr Sb Lk Wk rC rV sR Rs Rn Rd Rk Wb Wx Wo Dw Wt qQ JL Qn EI Ao yj yI Ca Dl pG gY yL lZ sO uq vP wB xR Cy Ak rv aA aP bG aQ ev bX Stp dG aU flat dz Mp eX aT gN iF bD down iH jB iA ku bH bJ cells_one iG bT wD unseen jr gM bU dH bK bP bV bW fU gJ oQ gG)
set_option maxRecDepth 20000
namespace Rt
def qP(v:EvM):Int:=1099511627776*v.o+v.seq
def mP(m:dY)(v:EvM):Int:=if 5<=m.own (bA v)\/140737488355328<v.aX then 6 else m.T.err (qP v) v.node
def F4(m:dY)(v:EvM):dY := { m with T:=m.T.put (qP v) v.node,R:=aQ m.R m.T.n (upd (fun _=>0) (bA v) v.aX),own:=aJ m.own (bA v) (m.own (bA v)+1) }
theorem Tk{T:dN}{pa:Int}{id:Int}{w:World}{b n:Nat}{x:Nat->Int}(h:Mp w b n x (aQ (Cn T) T.n (aD pa))):Mp w b n x (Cn (T.put id pa)):=h.qU fun i _=>⟨rfl,by show aQ (Cn T) T.n _ i=aD (aQ T.p T.n pa i); unfold aQ Cn; split <;> rfl⟩
theorem V9{R:Nat->Nat->Int}{j n b:Nat}{r:Nat->Int}{x:Nat->Int}{w:World}(h:Mp w b n x (aQ (vI R) j (.agg (aA 54 (rv .i64 r))))):Mp w b n x (vI (aQ R j r)):=C8 _ _ _ _ h
end Rt
theorem aeC(o q:Int)(w:World)(b:1<=o/\o<=6)(c:1<=q/\q<1099511627776):Calls Tryz.prog 169 #[au o,aD q] w fun e a=>e = .returned (aD (1099511627776*o+q))/\a=w:=by
 have h:=akL o.toNat q.toNat w (by omega) (by omega)
 rw[show((o.toNat:Nat):Int)=o by omega,show((q.toNat:Nat):Int)=q by omega]at h
 exact h
theorem Tm(m:dY)(b B:Nat)(w:World)(h:jV w B b m)(v:EvM)(hv:dh v=true)(J:m.T.err (qP v) v.node=0)(a:Nat)(ha:a<6)(hra:bA v=a)(hob:0<=m.own a/\m.own a<=1000)(hid:0<=qP v/\qP v<=18446744073709551615)(I:Nat)(G:Nat)(l:Nat)(H:Nat)(S:aP w I 1 (fun _=>(pt b)) 37)(hi:aP w G 1 (fun _=>aD (qP v)) 28)(P:aP w l 14 (bO v) 32)(Q:aP w H 1 (fun _=>au (a:Int)) 3) :
 Calls Tryz.prog 171 #[(pt I),(pt G),(pt l),(pt H)] w fun e w'=>e = .returned (.tuple #[])/\jV w' B b (F4 m v)/\jB (Eo m b) w w':=by
 have hC:=h.c
 have hT:=h.t
 have hP:=h.p
 have hR:=h.r
 have hG:=h.g
 have hA:=h.a
 have d:=h.ne
 have lC:=h.c.lt
 have lT:=h.t.lt
 have lP:=h.p.lt
 have lR:=h.r.lt
 have lG:=h.g.lt
 have lA:=h.a.lt
 have XF:=S.lt
 have lgi:=hi.lt
 have Ya:=P.lt
 have lgk:=Q.lt
 have U : ∀ i,i<m.T.n->m.T.x i≠qP v:=fun i hi e=>by have:=(KM J).2.1; rw[iW hi e]at this; cases this
 refine Kent Tryz.func171 42 ?_
 refine Ws ?_
 -- region 0 draws
 refine jo [5,0,1,2,3,4,6,7] [4,0,0,4,4,0,4,3] [(7,0,[3,2,1,0]),(7,3,[3]),(7,4,[4]),(7,6,[6])] fun oU K gU => ?_
 have s1:Stp w.heap.size w oU:=Sb K
 have⟨W,m2,m3,m4,m5,m6,m7,m8,m9,m10⟩:=tH K hC hT hP hR hG hA S hi P Q
 have b1:=(uq (Eo m b) w).then s1 (.inr (uq (Eo m b) w).size)
 refine aV ((pf l 9))<|Rs ((pt b)) (aL m7.aH 0) ?_
 refine aV ((pt b))<|aV ((pf b 18))<|Rs ((pt m.tp)) (aL W.aH 18) ?_
 refine Rs (aD (qP v)) (aL m8.aH 0) ?_
 refine Rs (aD v.node) (aL m9.aH 9) ?_
 refine fQ<|dA (IX (qP v) v.node m2 hid) _ rfl ?_
 rintro y ⟨m11,s2⟩
 have j:=m2.AB s2
 have m12:=W.dJ j
 have m13:=m3.dJ j ((Ne.symm d.mp))
 have m14:=m4.dJ j ((Ne.symm d.mr))
 have m15:=m5.dJ j ((Ne.symm d.mg))
 have m16:=m6.dJ j ((Ne.symm d.ma))
 have m17:=m7.dJ j
 have m18:=m8.dJ j
 have m19:=m9.dJ j
 have m20:=m10.dJ j
 have C:=b1.then s2 (.inl (.inr (.inl rfl)))
 have m21:qz y B m.tp m.mb (m.T.put (qP v) v.node):=by rw[<- dN.C9 J]; exact m11
 refine Ln<|bM<|Ws ?_
 -- region 1 draws
 refine jo [5,0,1,2,3,4,6,7] [4,0,0,4,4,0,4,3] [(7,0,[0]),(7,3,[3]),(7,4,[4]),(7,6,[6])] fun yP M lQ => ?_
 have s3:Stp y.heap.size y yP:=Sb M
 have⟨m22,m23,m24,lW,mR,nY,nT,oF,nE,lH⟩:=tH M m12 m13 m14 m15 m16 m17 m18 m19 m20 m21
 have b3:=C.then s3 (.inr C.size)
 refine aV ((pf l 9))<|Rs ((pt b)) (aL nY.aH 0) ?_
 refine aV ((pt b))<|aV ((pf b 19))<|Rs (.map (some m.pb)) (aL m22.aH 19) ?_
 refine Rs (aD (qP v)) (aL nT.aH 0) ?_
 refine Rs (aD v.node) (aL oF.aH 9) ?_
 refine fQ<|Fx.L.NS (by rfl) rfl rfl rfl rfl rfl m23 Tryz.underlying100 Tryz.underlying28 U fun z m32 s4 z1 => ?_
 have k:=m23.AB s4
 have oI:=m22.dJ k
 have nG:=m24.dJ k ((Ne.symm d.pr))
 have oJ:=lW.dJ k ((Ne.symm d.pg))
 have pO:=mR.dJ k ((Ne.symm d.pa))
 have qL:=nY.dJ k
 have qM:=nT.dJ k
 have pQ:=oF.dJ k
 have qW:=nE.dJ k
 have mW:=lH.dJ k (d.mp)
 have D:=b3.then s4 (.inl (.inr (.inr (.inl rfl))))
 have lY:Mp z m.pb ((m.T.put (qP v) v.node).n) ((m.T.put (qP v) v.node).x) (Cn (m.T.put (qP v) v.node)):=Tk m32
 refine Ln<|bM<|Ws ?_
 -- region 2 draws
 refine jo [0,2,3,7,8,1,4,5,6,9,10] [4,4,0,0,0,4,0,0,0,0,3] [(10,0,[0]),(10,1,[1]),(10,5,[5])] fun Pb N zH => ?_
 have s5:Stp z.heap.size z Pb:=Sb N
 have⟨s,qX,oZ,mX,rM,vU,qY,qZ,uw,uS⟩:=tH N oI nG oJ pO qL qM pQ qW mW lY
 have b5:=D.then s5 (.inr D.size)
 refine Rs ((pt b)) (aL rM.aH 0) ?_
 refine aV ((pt b))<|aV ((pf b 21))<|aV ((pt b))<|aV ((pf b 21))<|Rs (au a) (aL qZ.aH 0) ?_
 refine Rp ((pf b (a+21))) (fun _=>je 6 1)<|Rs (au (m.own a)) (aL s.aH (a+21) (Hf (p:=a) (by omega) (by omega))) ?_
 refine Rp (au ((m.own a)+1)) (fun _=>eZ)<|Rp ((pf b (a+21))) (fun _=>je 6 1)<|fQ<|iQ s (a+21) (au ((m.own a)+1)) fun w3 rZ s6 z2 => ?_
 have sP:aP w3 b 29 (uo { m with own:=aJ m.own a (m.own a+1) }) 106:=rZ.to (VP ha (by omega) _)
 have gI:=gY s6 s.ty
 have⟨wP,sQ,sS,rO,vV,pR,vW,mU,qN⟩:=YO gI qX oZ mX rM vU qY qZ uw uS
 have q:=b5.then s6 (.inl (.inl rfl))
 refine Ln<|bM<|ay<|av (.agg (aA 54 (rv .i64 (fun _=>0))))<|wC 54 (rv .i64 (fun _=>0)) fun o w4 F u s7 z3 => ?_
 have⟨wm,uy,uz,sj,ru,sU,sV,uD,sZ,yB⟩:=tH s7.old wP sQ sS rO vV pR vW mU qN sP
 have b7:=q.then s7 (.inr q.size)
 have V:=jc F q.size
 have⟨akX,akY,akZ,ala,alb,alc,ald,ale,alf⟩:=UM F wP.lt sQ.lt sS.lt rO.lt vV.lt pR.lt vW.lt qN.lt sP.lt
 have vR:=u.lt
 refine fB u 0 fun w5 uE s8 z4 => ?_
 have wQ:aP w5 o 54 (rv .i64 (fun _=>0)) 59:=aU uE
 have jN:=gY s8 u.ty
 have⟨wF,wR,vX,uT,tN,wo,xW,wu,yR,yC⟩:=Mi jN wm uy uz sj ru sU sV uD sZ yB
 have b8:=b7.then s8 (.inr V)
 refine aC<|ay<|Lv (au a) (aL xW.aH 0)<|av ((pf l 11))<|Lv (au v.aX) (aL wo.aH 11)<|av ((pt o))<|Lv ((pf o a)) (je 6 1)<|iQ wQ a (au v.aX) fun A xX s9 z5 => ?_
 have xG:aP A o 54 (rv .i64 (upd (fun _=>0) a v.aX)) 59:=xX.to (Fx.xu _ _ _ _)
 have qy:=gY s9 wQ.ty
 have⟨xY,yS,Ci,AZ,zN,zO,xL,Ck,A8,CS⟩:=Mi qy wF wR vX uT tN wo xW wu yR yC
 have E:=b8.then s9 (.inr V)
 refine aC ?_
 -- region 5 draws
 refine jo [0,1,2,3,4,5,6] [4,0,0,4,4,4,3] [(6,0,[0]),(6,3,[3]),(6,4,[4]),(6,5,[5])] fun Zd O Fv => ?_
 have s10:Stp A.heap.size A Zd:=Sb O
 have⟨DU,vk,wT,X,Y,og,nJ,oN,oh,Z,aa⟩:=Dt O xY yS Ci AZ zN zO xL Ck A8 CS xG
 have b10:=E.then s10 (.inr E.size)
 refine Rs ((pt b)) (aL X.aH 0) ?_
 refine aV ((pt b))<|aV ((pf b 20))<|Rs (.map (some m.rb)) (aL Z.aH 20) ?_
 refine Rs (aD (qP v)) (aL Y.aH 0) ?_
 refine Rs (.agg (aA 54 (rv .i64 (upd (fun _=>0) a v.aX)))) (fA aa.aH 0) ?_
 refine fQ<|Fx.L.NS (by rfl) rfl rfl rfl rfl rfl DU Tryz.underlying101 Tryz.underlying28 U fun w7 tZ s11 z6 => ?_
 have f:=DU.AB s11
 have pW:=vk.dJ f ((Ne.symm d.rg))
 have sD:=wT.dJ f ((Ne.symm d.ra))
 have xZ:=X.dJ f
 have uf:=Y.dJ f
 have yc:=og.dJ f
 have A9:=nJ.dJ f
 have wz:=oN.dJ f (d.mr)
 have sF:=oh.dJ f (d.pr)
 have oO:=Z.dJ f
 have wU:=aa.dJ f
 have b11:=b10.then s11 (.inl (.inr (.inr (.inr (.inl rfl)))))
 have wV:Mp w7 m.rb ((m.T.put (qP v) v.node).n) ((m.T.put (qP v) v.node).x) (vI (aQ m.R m.T.n (upd (fun _=>0) a v.aX))):=V9 tZ
 refine Ln (Rn (⟨.tuple #[],iH Tryz.results171,?_⟩))
 unfold F4; rw[hra]
 exact⟨rfl,{ c:=oO,t:=wz,p:=sF,r:=wV,g:=pW,a:=sD,ne:=⟨d.mp,d.mr,d.mg,d.ma,d.pr,d.pg,d.pa,d.rg,d.ra,d.ga⟩,lB:=h.lB,pB:=h.pB,rB:=h.rB,gB:=h.gB,aB:=h.aB },b11⟩
theorem Wd(m:dY)(j B:Nat)(w:World)(h:jV w B j m)(v:EvM)(L:dh v=true)(ab : ∀ a,a<6->0<=m.own a/\m.own a<=1000) :
 Calls Tryz.prog 162 #[(pt j),.agg (aA 14 (bO v))] w fun e w'=>Ph w B j m (F4 m v) (mP m v) e w':=by
 have Z:=h.c
 have hT:=h.t
 have hP:=h.p
 have hR:=h.r
 have hG:=h.g
 have hA:=h.a
 have hN:=h.ne
 have lC:=h.c.lt
 have lT:=h.t.lt
 have lP:=h.p.lt
 have lR:=h.r.lt
 have lG:=h.g.lt
 have lA:=h.a.lt
 obtain⟨a,J,ho⟩ : ∃ a:Nat,a<6/\v.o=(a:Int)+1:=eY (iy L)
 have A:bA v=a:=by unfold bA; omega
 have hbd:=qG L
 have aa:0<=qP v/\qP v<=18446744073709551615:=by unfold qP; omega
 have hoa:=ab a J
 refine Kent Tryz.func162 38 ?_
 refine ay<|yM ((pt j)) fun n w1 X M s1 z1 => ?_
 have⟨m2,U⟩:=eG s1.old Z (Below.refl w.heap.size w)
 have tL:=gH X
 have mH:=bY X Z.lt
 have vR:=M.lt
 refine pK fun b w2 Y l s2 z2 => ?_
 have⟨P,Q,H⟩:=jk s2.old m2 M U
 have qO:=jc Y U.size
 have⟨aei,X6⟩:=wM Y m2.lt M.lt
 have zJ:=l.lt
 refine av (.nilFunc)<|av (au 0)<|aC<|Ws ?_
 -- region 1 draws
 refine JL (T1:=28) (T2:=3) (T1':=28) (T2':=3) (a1 := .tmp 6) (v1 := .tmp 13) (a2 := .tmp 7) (v2 := .tmp 16) (m1:=1) (m2:=1) (z1:=rv .u64 (fun _=>0)) (y1:=fun _=>aD (qP v)) (z2:=rv .i64 (fun _=>0)) (y2:=fun _=>au ((a:Int))) (u1:=aD (qP v)) (u2:=au ((a:Int))) 8 9 10 11 [[],[],[],[],[],[],[],[],[],[],[(0,[8]),(1,[9])],[(0,[8]),(1,[9]),(2,[10])]] [[(2,[0]),(3,[0])],[(2,[1]),(3,[1])],[(2,[2]),(3,[2])],[(2,[3]),(3,[3])],[(2,[4]),(3,[4])],[(3,[5])],[(3,[6])],[(3,[7])],[(2,[8]),(3,[8])],[(2,[9]),(3,[9])],[(3,[10])],[]] #[(pt b),au v.o,(pf b 1),aD v.seq,aD (qP v),(pt b),au v.o,au ((a:Int)),undef,undef,undef,undef] (by kernel_rfl) (by kernel_rfl) (by kernel_rfl) (by kernel_rfl) (by kernel_rfl) (by kernel_rfl) (by kernel_rfl) (by kernel_rfl) (by kernel_rfl) (by kernel_rfl) rfl rfl (by kernel_rfl) (by kernel_rfl) rfl rfl rfl rfl (by kernel_rfl) (by kernel_rfl) (fun d f=>(show ev _ (.tmp 6)=(pt d)from by kernel_rfl)) (fun d f=>(show ev _ (.tmp 7)=(pt f)from by kernel_rfl)) (fun d f=>(show ev _ (.tmp 13)=aD (qP v)from by kernel_rfl)) (fun d f=>(show ev _ (.tmp 16)=au ((a:Int))from by kernel_rfl)) (cells_one (by rfl)) (cells_one (by rfl)) (fun _ _=>rfl) (fun _ _=>rfl) (fun d f => ?_) ?_
 ·refine⟨?_,?_,?_,?_,?_,?_,?_,?_,?_,?_,?_,?_,trivial⟩
  ·exact .inr oD
  ·exact .inr (qR (au v.o) fun E q=>bC (x:=bO v) rfl (show ev _ (.tmp 9)=(pt b)from by kernel_rfl) (by kernel_rfl) (l.aH.below q (by have:=l.lt; omega)) (i:=0) (by omega) (by omega) rfl)
  ·exact .inr oD
  ·exact .inr (qR (aD v.seq) fun E q=>bC (x:=bO v) rfl (show ev _ (.tmp 11)=(pf b 1)from by kernel_rfl) (by kernel_rfl) (l.aH.below q (by have:=l.lt; omega)) (i:=1) (by omega) (by omega) rfl)
  ·exact .inr (Fx.Gn (v:=aD (qP v)) (by kernel_rfl) (by kernel_rfl) (Fx.qbC (fun E q=>rC (args := [au v.o,aD v.seq]) rfl (Fx.args2 (show ev _ (.tmp 10)=au v.o from by kernel_rfl) (show ev _ (.tmp 12)=aD v.seq from by kernel_rfl)) Tryz.func169 rfl rfl) (fun E q=>(aeC v.o v.seq _ (by omega) (by omega)).mono fun e v2 h=>⟨h.1,(by rw[h.2]; exact Below.refl _ _)⟩)))
  ·exact .inr oD
  ·exact .inr (qR (au v.o) fun E q=>bC (x:=bO v) rfl (show ev _ (.tmp 14)=(pt b)from by kernel_rfl) (by kernel_rfl) (l.aH.below q (by have:=l.lt; omega)) (i:=0) (by omega) (by omega) rfl)
  ·exact .inr (qR (au a) fun E q=>Fx.Xq rfl (show ev _ (.tmp 15)=au v.o from by kernel_rfl) (show ev _ (.const (au 1))=au 1 from by kernel_rfl) Fx.io)
  ·exact .inl rfl
  ·exact .inl rfl
  ·exact .inl rfl
  exact .inl rfl
 rintro d f w3 y u C D ne1 m6 m7 hb1
 have apd:j≠d:=Nat.ne_of_lt (Nat.lt_of_lt_of_le (P.lt) C)
 have adp:n≠d:=Nat.ne_of_lt (Nat.lt_of_lt_of_le (Q.lt) C)
 have ape:b≠d:=Nat.ne_of_lt (Nat.lt_of_lt_of_le (l.lt) C)
 have apf:j≠f:=Nat.ne_of_lt (Nat.lt_of_lt_of_le (P.lt) D)
 have apg:n≠f:=Nat.ne_of_lt (Nat.lt_of_lt_of_le (Q.lt) D)
 have aph:b≠f:=Nat.ne_of_lt (Nat.lt_of_lt_of_le (l.lt) D)
 have⟨m8,m9,m10,b3⟩:=mF hb1 P Q l H
 have C:w.heap.size<=d:=Nat.le_trans H.size C
 have KQ:=m6.lt
 have D:w.heap.size<=f:=Nat.le_trans H.size D
 have R3:=m7.lt
 have R:y 2=(pt n):=by rw[u]; kernel_rfl
 have S:y 3=(pt b):=by rw[u]; kernel_rfl
 have q3:y 4 = .nilFunc:=by rw[u]; kernel_rfl
 have q4:y 5=au 0:=by rw[u]; kernel_rfl
 have q5:y 6=(pt d):=by rw[u]; kernel_rfl
 have q6:y 7=(pt f):=by rw[u]; kernel_rfl
 clear u
 refine sN<|Ws<|Ws ?_
 -- region 2 draws
 refine jo [0,2,3,1,4,5,6,7,8,9,10,11] [4,4,0,0,0,4,0,0,0,4,0,0] [] fun oU dL gU => ?_
 have⟨m11,N,O,ac,ad,F⟩:=qo dL m8 m9 m10 m6 m7 b3
 refine Rs ((pt j)) (aL N.aH 0 (ha:=R)) ?_
 refine aV ((pt j))<|aV ((pf j 21))<|Rs (au a) (aL ad.aH 0 (ha:=q6)) ?_
 refine Rp ((pf j (a+21))) (fun _=>je 6 1)<|Rs (au (m.own a)) (aL m11.aH (a+21) (Hf (p:=a) (by omega) (by omega))) ?_
 by_cases V:5<=(m.own a)
 ·refine Rp aG (fun _=>jv V)<|aV aG<|Rk (by rfl)<|Rk (by rfl)<|Rk (by rfl)<|aV aG<|bM<|aM<|ay<|av (.nilFunc)<|av (au 6)<|aC<|Wr<|sR<|aI (.tuple #[.nilFunc,au 6]) ?_
  have k:mP m v=6:=by unfold mP; rw[A]; exact if_pos (.inl (by omega))
  exact⟨⟨.nilFunc,0,#[],by rw[k],rfl,fun z=>absurd (k.symm.trans z) (by first|decide|omega|assumption)⟩,F⟩
 refine Rp aF (fun _=>ji V)<|aV aF<|Rp ((pf b 11)) (fun _=>iN S 11)<|Rs (au v.aX) (aL O.aH 11) ?_
 by_cases W:140737488355328<v.aX
 ·refine Rp aG (fun _=>jY W)<|aV aG<|bM<|aM<|ay<|av (.nilFunc)<|av (au 6)<|aC<|Wr<|sR<|aI (.tuple #[.nilFunc,au 6]) ?_
  have k:mP m v=6:=by unfold mP; rw[A]; exact if_pos (.inr (by omega))
  exact⟨⟨.nilFunc,0,#[],by rw[k],rfl,fun z=>absurd (k.symm.trans z) (by first|decide|omega|assumption)⟩,F⟩
 refine Rp aF (fun _=>jZ W)<|aV aF<|bM<|aK<|Wk<|sN<|Ws<|ay<|Lv ((pt j)) (aL N.aH 0 (ha:=R))<|Lv (aD (qP v)) (aL ac.aH 0 (ha:=q5))<|Lv ((pf b 9)) (iN S 9)<|Lv (aD v.node) (aL O.aH 9)<|dA (aaW m j B _ (h.up F) (qP v) v.node aa) _ rfl ?_
 intro w4 s
 have⟨ae,af,ag,m20,I⟩:=qm s N O ac ad F
 refine av (au (m.T.err (qP v) v.node))<|aC<|ay<|av (au (m.T.err (qP v) v.node)) ?_
 by_cases G:(m.T.err (qP v) v.node)=0
 ·refine Lv aF (jJ G)<|aC<|aK<|Wk<|sN<|ay<|Lv (.func (.func 171) #[] #[(pt n),(pt d),(pt b),(pt f)]) (Fx.mh (us := []) (vs := [(pt n),(pt d),(pt b),(pt f)]) rfl rfl (Fx.Pn R q5 S q6))<|av (.func (.func 171) #[] #[(pt n),(pt d),(pt b),(pt f)])<|av (au 0)<|aC<|Wr<|aI (.tuple #[.func (.func 171) #[] #[(pt n),(pt d),(pt b),(pt f)],au 0]) ?_
  have k:mP m v=0:=by unfold mP; rw[A,if_neg (by omega)]; exact G
  exact⟨⟨_,171,#[(pt n),(pt d),(pt b),(pt f)],by rw[k],rfl,fun _=>⟨rfl,⟨_,_,Tryz.func171,rfl,rfl⟩,fun w2 s=>(Tm m j B w2 ((h.up I).up s) v L G a J A (ab a J) aa _ _ _ _ (ae.bZ (Sb s) (Nat.ne_of_lt ae.lt)) (ag.bZ (Sb s) (Nat.ne_of_lt ag.lt)) (af.bZ (Sb s) (Nat.ne_of_lt af.lt)) (m20.bZ (Sb s) (Nat.ne_of_lt m20.lt))).mono fun _ _ K=>⟨K.1,K.2.1,K.2.2.mono fun _ hk => .inl hk⟩⟩⟩,I⟩
 refine Lv aG (mE G)<|aC<|aM<|ay<|av (au (m.T.err (qP v) v.node))<|av (.nilFunc)<|av (au (m.T.err (qP v) v.node))<|aC<|Wr<|sR<|aI (.tuple #[.nilFunc,au (m.T.err (qP v) v.node)]) ?_
 have k:mP m v=m.T.err (qP v) v.node:=by unfold mP; rw[A,if_neg (by omega)]
 exact⟨⟨.nilFunc,0,#[],by rw[k],rfl,fun z=>absurd (k.symm.trans z) (by first|decide|omega|assumption)⟩,I⟩
end Go.Proofs.YtahbiajdgealnaaGreatDoor
namespace Go.Proofs.YtahbiajdgealnaaGreatDoor
open Go.RowKit Go
set_option linter.unusedVariables false
namespace Rt
section
variable {x p:Nat->Int} {n d e:Nat} {k v:Int}
theorem Hr : ∀ {d:Nat} {v:Int},iO x p n d v -> ∀ k,k∈iX x p n d v->(iX x p n d k).length<=(iX x p n d v).length
 | 0,v,h,k,hk=>by cases hk
 | d+1,v,h,k,hk=>by
   cases hv:dP x n v with
   | false=>rw[kH hv]at hk; cases hk
   | true =>
     have e:iX x p n (d+1) v=v::iX x p n d (gZ x p n v):=by show(if _ then _ else _)=_; rw[if_pos hv]
     have a:iO x p n d (gZ x p n v):=h hv
     rw[e]at hk
     rcases List.mem_cons.1 hk with rfl|hk
     ·exact Nat.le_refl _
     ·have b:=Hr a k hk
      have c:iO x p n d k:=by
       refine zG (d:=d) ?_ (Nat.le_trans b xD)
       exact Ew a k hk
      have f:=(Gy c (Nat.le_succ d)).1
      rw[f,e,List.length_cons]; omega
where Ew : ∀ {d:Nat} {v:Int},iO x p n d v -> ∀ k,k∈iX x p n d v->iO x p n d k
 | 0,v,h,k,hk=>by cases hk
 | d+1,v,h,k,hk=>by
   cases hv:dP x n v with
   | false=>rw[kH hv]at hk; cases hk
   | true =>
     have e:iX x p n (d+1) v=v::iX x p n d (gZ x p n v):=by show(if _ then _ else _)=_; rw[if_pos hv]
     have hs:iO x p n d (gZ x p n v):=h hv
     rw[e]at hk
     rcases List.mem_cons.1 hk with rfl|hk
     ·exact h
     ·exact(Gy (Ew hs k hk) (Nat.le_succ d)).2
theorem F5 : ∀ {d:Nat} {v:Int},iO x p n d v->(iX x p n d v).Nodup
 | 0,v,h=>List.nodup_nil
 | d+1,v,h=>by
   cases hv:dP x n v with
   | false=>rw[kH hv]; exact List.nodup_nil
   | true =>
     have e:iX x p n (d+1) v=v::iX x p n d (gZ x p n v):=by show(if _ then _ else _)=_; rw[if_pos hv]
     have a:iO x p n d (gZ x p n v):=h hv
     rw[e,List.nodup_cons]
     refine⟨fun c => ?_,F5 a⟩
     have f:=Hr a v c
     have b:=(Gy (Hr.Ew a v c) (Nat.le_succ d)).1
     rw[e]at b
     rw[<- b,List.length_cons]at f
     omega
end
section
variable {T:dN} {l:List Int} {k:Int}
theorem dN.zl(h:T.ok)(k:Int):(T.path k).Nodup:=F5 (h.stop k)
theorem dN.Af(h:T.ok)(e:l=T.path k) : ∀ v,v∈l->T.has v=true:=fun v c=>by
 obtain⟨i,a,b⟩:=List.getElem_of_mem c
 have:=dN.Lx h e a
 rw[List.getD_eq_getElem?_getD,List.getElem?_eq_getElem a]at this
 rw[<- b]; exact this
theorem Bt(h:l.Nodup){i j:Nat}(hi:i<l.length)(a:j<l.length)(e:l.getD i 0=l.getD j 0):i=j:=by
 rw[List.getD_eq_getElem?_getD,List.getD_eq_getElem?_getD,List.getElem?_eq_getElem hi,List.getElem?_eq_getElem a]at e
 exact(List.getElem_inj h).1 e
end
def kN(f:(Nat->Int)->(Nat->Int) × Int)(r:Nat->Nat->Int):Nat->Int
 | 0=>0
 | i+1=>if kN f r i=0 then(f (r i)).2 else kN f r i
section
variable {f:(Nat->Int)->(Nat->Int) × Int} {r:Nat->Nat->Int} {i n:Nat}
theorem F6(h:kN f r i=0)(a:(f (r i)).2=0):kN f r (i+1)=0:=by unfold kN; rw[if_pos h,a]
theorem zm(h:kN f r i=0)(a : ¬ (f (r i)).2=0) : ∀ n,i<n->kN f r n=(f (r i)).2
 | 0,hn=>absurd hn (Nat.not_lt_zero _)
 | n+1,hn=>by
   unfold kN
   by_cases e:i=n
   ·subst e; rw[if_pos h]
   ·rw[zm h a n (by omega),if_neg a]
end
def BQ(m:dY)(k:Int):Nat->Int:=m.R (m.idx k)
def dF(m:dY)(f:(Nat->Int)->(Nat->Int) × Int)(l:List Int):Int:=kN f (fun i=>BQ m (l.getD i 0)) l.length
open Classical in
noncomputable def qH(m:dY)(f:(Nat->Int)->(Nat->Int) × Int)(l:List Int):dY := { m with R:=fun i=>if m.T.x i∈l then(f (m.R i)).1 else m.R i }
def BR(l:List Int)(S:Nat->Bool)(v:Int):Nat->Bool
 | 0=>false
 | n+1=>BR l S v n || (S n&&decide (l.getD n 0=v))
theorem qh{l:List Int}{S:Nat->Bool}{v:Int} : ∀ {n:Nat},BR l S v n=true <-> ∃ q,q<n/\S q=true/\l.getD q 0=v
 | 0=>⟨fun h=>(nomatch h),fun⟨q,h,_⟩=>absurd h (Nat.not_lt_zero _)⟩
 | n+1=>by
   unfold BR
   rw[Bool.or_eq_true,qh,Bool.and_eq_true,decide_eq_true_iff]
   constructor
   ·rintro (⟨q,c,a,b⟩|⟨c,a⟩)
    ·exact⟨q,by omega,a,b⟩
    ·exact⟨n,by omega,c,a⟩
   ·rintro ⟨q,c,a,b⟩
    by_cases e:q=n
    ·subst e; exact .inr ⟨a,b⟩
    ·exact .inl ⟨q,by omega,a,b⟩
def xg(m:dY)(f:(Nat->Int)->(Nat->Int) × Int)(l:List Int)(S:Nat->Bool):Nat->Nat->Int:=fun i=>if BR l S (m.T.x i) l.length=true then(f (m.R i)).1 else m.R i
theorem LG(m:dY)(f:(Nat->Int)->(Nat->Int) × Int)(l:List Int):xg m f l (fun _=>false)=m.R:=by
 funext i
 unfold xg
 rw[if_neg]
 rw[qh]
 rintro ⟨q,_,h,_⟩; cases h
theorem OX{m:dY}(o:m.T.ok){f:(Nat->Int)->(Nat->Int) × Int}{l:List Int}{S:Nat->Bool}{q j:Nat}(t:q<l.length)(s:j<m.T.n)(g:m.T.x j=l.getD q 0) : ∀ i,i<m.T.n->Fx.aQ (xg m f l S) j (f (m.R j)).1 i=xg m f l (Fx.aQ S q true) i:=fun i p=>by
 unfold Fx.aQ
 by_cases e:i=j
 ·subst e
  rw[if_pos rfl]
  unfold xg
  rw[if_pos]
  rw[qh]
  exact⟨q,t,by show(if q=q then true else S q)=true; rw[if_pos rfl],g.symm⟩
 ·rw[if_neg e]
  unfold xg
  have:BR l S (m.T.x i) l.length=true<->BR l (fun i=>if i=q then true else S i) (m.T.x i) l.length=true:=by
   rw[qh,qh]
   constructor
   ·rintro ⟨r,d,a,b⟩
    exact⟨r,d,by show(if r=q then true else S r)=true; split <;> first|rfl|exact a,b⟩
   ·rintro ⟨r,d,a,b⟩
    by_cases k:r=q
    ·subst k
     exact absurd (o.inj i j p s (by rw[g,<- b])) e
    ·exact⟨r,d,by have a:(if r=q then true else S r)=true:=a; rw[if_neg k]at a; exact a,b⟩
  by_cases c:BR l S (m.T.x i) l.length=true
  ·rw[if_pos c,if_pos (this.1 c)]
  ·rw[if_neg c,if_neg (fun h=>c (this.2 h))]
theorem Tn{m:dY}{f:(Nat->Int)->(Nat->Int) × Int}{l:List Int}{S:Nat->Bool}(h : ∀ q,q<l.length->S q=true):xg m f l S=(qH m f l).R:=by
 funext i
 show _=if m.T.x i∈l then(f (m.R i)).1 else m.R i
 unfold xg
 have:BR l S (m.T.x i) l.length=true<->m.T.x i∈l:=by
  rw[qh]
  constructor
  ·rintro ⟨q,b,_,d⟩
   rw[<- d,List.getD_eq_getElem?_getD,List.getElem?_eq_getElem b]; exact List.getElem_mem b
  ·intro g
   obtain⟨q,a,e⟩:=List.getElem_of_mem g
   exact⟨q,a,h q a,by rw[List.getD_eq_getElem?_getD,List.getElem?_eq_getElem a]; exact e⟩
 by_cases c:m.T.x i∈l
 ·rw[if_pos (this.2 c),if_pos c]
 rw[if_neg (fun h=>c (this.1 h)),if_neg c]
def qI(m:dY)(f:(Nat->Int)->(Nat->Int) × Int)(l:List Int):Nat->Value:=fun q => .agg (Fx.aA 54 (Fx.rv .i64 (f (BQ m (l.getD q 0))).1))
theorem F7{m:dY}{f:(Nat->Int)->(Nat->Int) × Int}{l:List Int}{w:World}{b i:Nat}{r:Nat->Int}(h:Fx.Mp w b (i+1) (Fx.aQ (fun q=>l.getD q 0) i (l.getD i 0)) (Fx.aQ (qI m f l) i (.agg (Fx.aA 54 (Fx.rv .i64 r)))))(e:r=(f (BQ m (l.getD i 0))).1):Fx.Mp w b (i+1) (fun q=>l.getD q 0) (qI m f l):=h.qU fun q a=>by
 unfold Fx.aQ
 by_cases c:q=i
 ·subst c; rw[if_pos rfl,if_pos rfl,e]; exact⟨rfl,rfl⟩
 ·rw[if_neg c,if_neg c]; exact⟨rfl,rfl⟩
end Rt
end Go.Proofs.YtahbiajdgealnaaGreatDoor
namespace Go.Proofs.YtahbiajdgealnaaGreatDoor
open Go.RowKit Rt
open Fx (fD eT fI bC gL gK dw dR fZ iL dZ jg fP jh iV Lv sN Ln Ws Qv Wl Rp Wc Qs Wr Sb Lk Wk rC rV sR Rs Rn Rd Rk Wb Wx Wo Dw Wt qQ JL Qn EI Ao yj yI Ca Dl pG gY yL lZ sO uq vP wB xR Cy Ak rv aA aP bG aQ ev bX Stp dG aU flat dz Mp eX aT gN iF bD down iH jB iA ku bH bJ cells_one iG bT wD unseen jr gM bU dH bK bP bV bW fU gJ oQ gG)
set_option maxRecDepth 20000
set_option linter.unusedVariables false
theorem Tp(x:Nat->Int)(v:EvM)(a:Nat)(w:World)(F:1<=v.o/\v.o<=6)(b:aP w a 14 (bO v) 32) :
 Calls Tryz.prog 175 #[.agg (aA 54 (rv .i64 x)),(pt a)] w fun e C=>e = .returned ((.tuple #[.agg (aA 54 (rv .i64 (bE x v.o v.aX).1)),au (bE x v.o v.aX).2]))/\Below w.heap.size w C:=by
 have I:=b.lt
 refine Kent Tryz.func175 13 ?_
 refine ay<|pK fun E Q i c A T => ?_
 have⟨k,g⟩:=eG A.old b (Below.refl w.heap.size w)
 have G:=gH i
 have L:=bY i b.lt
 have O:=c.lt
 refine wC 54 (rv .i64 (fun _=>0)) fun q R j l B U => ?_
 have⟨d,m,n⟩:=jk B.old k c g
 have H:=jc j g.size
 have⟨M,N⟩:=wM j k.lt c.lt
 have P:=l.lt
 refine av (au 0)<|aC<|ay<|Lv (.agg (aA 54 (rv .i64 x))) (fA m.aH 0)<|av ((pt a))<|Lv (au v.o) (aL d.aH 0)<|av ((pf a 11))<|Lv (au v.aX) (aL d.aH 11)<|dA (aax (x) v.o v.aX _ (by omega)) _ rfl ?_
 intro S r
 have⟨t,u,y,h⟩:=mF r d m l n
 refine av (.agg (aA 54 (rv .i64 ((bE (x) v.o v.aX).1))))<|av (au ((bE (x) v.o v.aX).2))<|fB y 0 fun D z f V => ?_
 have s:aP D q 54 (rv .i64 ((bE (x) v.o v.aX).1)) 59:=aU z
 have J:=t.bZ f (by omega)
 have K:=u.bZ f (by omega)
 have p:=f.below h h.size (by omega)
 refine av (au ((bE (x) v.o v.aX).2)) (aC (Wr (⟨.tuple #[.agg (aA 54 (rv .i64 ((bE (x) v.o v.aX).1))),au ((bE (x) v.o v.aX).2)],gG Tryz.results175 ⟨_,rfl,aT s.aH (by kernel_rfl) (by kernel_rfl)⟩ (by exact rfl),?_⟩)))
 exact⟨rfl,p⟩
theorem Tq(x:Nat->Int)(v:EvM)(g:Nat->Int)(b c:Nat)(w:World)(L:1<=v.o/\v.o<=6)(d:aP w b 14 (bO v) 32)(f:aP w c 5 (iM g) 66) :
 Calls Tryz.prog 178 #[.agg (aA 54 (rv .i64 x)),(pt b),(pt c)] w fun e I=>e = .returned ((.tuple #[.agg (aA 54 (rv .i64 (bF x v.o (g 3)).1)),au (bF x v.o (g 3)).2]))/\Below w.heap.size w I:=by
 have O:=d.lt
 have P:=f.lt
 refine Kent Tryz.func178 14 ?_
 refine ay<|pK fun K w1 k h G z1 => ?_
 have⟨m,n,i⟩:=jk G.old d f (Below.refl w.heap.size w)
 have M:=gH k
 have⟨T,U⟩:=wM k d.lt f.lt
 have Y:=h.lt
 refine wC 54 (rv .i64 (fun _=>0)) fun y w2 l p H z2 => ?_
 have⟨q,r,s,t⟩:=mF H.old m n h i
 have N:=jc l i.size
 have⟨V,W,X⟩:=Iq l m.lt n.lt h.lt
 have Z:=p.lt
 refine av (au 0)<|aC<|ay<|Lv (.agg (aA 54 (rv .i64 x))) (fA s.aH 0)<|av ((pt b))<|Lv (au v.o) (aL q.aH 0)<|av ((pf c 3))<|Lv (au (g 3)) (aL r.aH 3)<|dA (aay (x) v.o (g 3) _ (by omega)) _ rfl ?_
 intro w3 z
 have⟨E,F,A,B,j⟩:=qm z q r s p t
 refine av (.agg (aA 54 (rv .i64 ((bF (x) v.o (g 3)).1))))<|av (au ((bF (x) v.o (g 3)).2))<|fB B 0 fun J C a z3 => ?_
 have D:aP J y 54 (rv .i64 ((bF (x) v.o (g 3)).1)) 59:=aU C
 have Q:=E.bZ a (by omega)
 have R:=F.bZ a (by omega)
 have S:=A.bZ a (by omega)
 have u:=a.below j j.size (by omega)
 refine av (au ((bF (x) v.o (g 3)).2)) (aC (Wr (⟨.tuple #[.agg (aA 54 (rv .i64 ((bF (x) v.o (g 3)).1))),au ((bF (x) v.o (g 3)).2)],gG Tryz.results178 ⟨_,rfl,aT D.aH (by kernel_rfl) (by kernel_rfl)⟩ (by exact rfl),?_⟩)))
 exact⟨rfl,u⟩
theorem JM(m:dY)(j B:Nat)(w:World)(h:jV w B j m)(o:(Nat->Int)->(Nat->Int) × Int)(l:List Int)(s:Nat)(hgM:m.rb≠s/\m.mb≠s/\m.pb≠s/\m.gb≠s/\m.ab≠s)(hlh : ∀ k,k∈l->m.T.has k=true)(I:Mp w s l.length (fun q=>l.getD q 0) (qI m o l))(z:Nat)(A:Nat)(H:aP w z 1 (fun _ => .map (some s)) 101)(Z:aP w A 1 (fun _=>(pt j)) 37) :
 Calls Tryz.prog 187 #[(pt z),(pt A)] w fun e w'=>e = .returned (.tuple #[])/\jV w' B j (qH m o l)/\jB (Eo m j) w w':=by
 have hC:=h.c
 have hT:=h.t
 have hP:=h.p
 have hR:=h.r
 have hG:=h.g
 have hA:=h.a
 have b:=h.ne
 have lC:=h.c.lt
 have lT:=h.t.lt
 have lP:=h.p.lt
 have lR:=h.r.lt
 have lG:=h.g.lt
 have lA:=h.a.lt
 have lg8:=H.lt
 have XF:=Z.lt
 have lF:=I.lt
 obtain⟨hg1,hg2,hg3,hg4,hg5⟩:=hgM
 refine Kent Tryz.func187 17 ?_
 refine ay<|Lv (.map (some s)) (aL H.aH 0)<|Fx.L.range (by rfl) rfl rfl rfl I Tryz.underlying101 fun F w1 kV m1 s1 z1 => ?_
 have⟨m2,m3,m4,m5,m6,m7,m8,m9,m10⟩:=Ay s1.old hC hT hP hR hG hA I H Z
 have b1:=(uq (Eo m j) w).then s1 (.inr (uq (Eo m j) w).size)
 have tL:w.heap.size<=F:=by rw[kV]; exact(uq (Eo m j) w).size
 have vR:=m1.lt
 refine aC<|Wb ?_
 have m11:Mp w1 m.rb m.T.n m.T.x (vI (xg m o l (fun _=>false))):=by rw[LG]; exact m5
 refine Dw (fun kE f v => ∃ S:Nat->Bool,∃ K:Nat,K=unseen S l.length/\K=kE/\f 0=(pt z)/\f 1=(pt A)/\f 5=(pt F)/\aP v j 29 (uo m) 106/\qz v B m.tp m.mb m.T/\Mp v m.pb m.T.n m.T.x (Cn m.T)/\gN v m.gb m.gn (fun i=>m.g i 0) (fun i=>m.g i 1) (sJ m.g)/\gN v m.ab m.an m.ao m.ar Co/\Mp v s l.length (fun q=>l.getD q 0) (qI m o l)/\aP v z 1 (fun _ => .map (some s)) 101/\aP v A 1 (fun _=>(pt j)) 37/\Mp v m.rb m.T.n m.T.x (vI (xg m o l S))/\Fx.It v F s l.length S/\jB (Eo m j) w v) (unseen (fun _=>false) l.length) ⟨(fun _=>false),(unseen (fun _=>false) l.length),rfl,rfl,(by rfl),(by rfl),(by rfl),m2,m3,m4,m6,m7,m8,m9,m10,m11,m1,b1⟩ ?_
 rintro kE f1 w2 ⟨S,K,hkk,hkE,W,X,G,m12,m13,m14,m15,m16,m17,m18,m19,m20,M,Q⟩
 refine ay<|Fx.L.next (by rfl) rfl rfl G m17 M (fun nZ => ?_)<|fun d w3 C hS1 m22 mc1 s2 z2 => ?_
 ·skip
  refine av aF (aC (Ws (aK (Wx (bV (fU (bW (⟨.tuple #[],iH Tryz.results187,?_⟩))))))))
  have m23:Mp w2 m.rb m.T.n m.T.x (vI (qH m o l).R):=by rw[<- Tn nZ]; exact m20
  exact⟨rfl,{ c:=m12,t:=m13,p:=m14,r:=m23,g:=m15,a:=m16,ne:=⟨b.mp,b.mr,b.mg,b.ma,b.pr,b.pg,b.pa,b.rg,b.ra,b.ga⟩,lB:=h.lB,pB:=h.pB,rB:=h.rB,gB:=h.gB,aB:=h.aB },Q⟩
 skip
 have y:=M.AB s2
 have m24:=m12.dJ y
 have lW:=m13.dJ y (by omega)
 have mR:=m14.dJ y (by omega)
 have nY:=m15.dJ y (by omega)
 have nT:=m16.dJ y (by omega)
 have N:=m17.dJ y (M.rb.symm)
 have nE:=m18.dJ y
 have lH:=m19.dJ y
 have m32:=m20.dJ y (by omega)
 have D:=Q.then s2 (.inr tL)
 refine av aG<|aC<|Ws<|aM<|Wk<|sN<|Wb<|ay<|Lv (.tuple #[aD (l.getD d 0),.agg (aA 54 (rv .i64 ((o (BQ m (l.getD d 0))).1)))]) (Fx.Ml (key:=fun q=>l.getD q 0) (val:=qI m o l) (i:=d) rfl G N mc1 C)<|av (aD (l.getD d 0))<|av (.agg (aA 54 (rv .i64 ((o (BQ m (l.getD d 0))).1))))<|wC 54 (rv .i64 (fun _=>0)) fun g2 w4 V O s3 z3 => ?_
 have⟨nG,oJ,pO,qL,qM,pQ,qW,mW,lY,lX,qX⟩:=Dt s3.old m24 lW mR nY nT N nE lH m32 mc1 m22
 have b4:=D.then s3 (.inr D.size)
 have qO:=jc V D.size
 have⟨alg,alh,ali,alj,alk,alm,aln,alo⟩:=UL V m24.lt mR.lt nY.lt nT.lt N.lt nE.lt lH.lt m32.lt
 have zJ:=O.lt
 refine av (aD (l.getD d 0))<|fB O 0 fun P oZ s4 z4 => ?_
 have mX:aP P g2 54 (rv .i64 ((o (BQ m (l.getD d 0))).1)) 59:=aU oZ
 have gI:=gY s4 O.ty
 have⟨rM,vU,qY,qZ,uw,uS,rZ,sP,wP,sQ,sS⟩:=XC gI nG oJ pO qL qM pQ qW mW lY lX qX
 have U:=b4.then s4 (.inr qO)
 refine aC ?_
 obtain⟨jz,J,E⟩:=fT (hlh _ (tK C rfl))
 have ejx:BQ m (l.getD d 0)=m.R jz:=by unfold BQ dY.idx; rw[kY h.t.inv.inj J E]
 -- region 3 draws
 refine jo [4,0,1,2,3,5,6] [4,0,0,4,0,4,3] [(6,0,[0]),(6,3,[3]),(6,5,[5])] fun oU Y gU => ?_
 have s5:Stp P.heap.size P oU:=Sb Y
 have⟨rO,vV,pR,vW,mU,qN,m64,wm,uy,uz,sj,ru⟩:=Mh Y rM vU qY qZ uw uS rZ sP wP sQ sS mX
 have b6:=U.then s5 (.inr U.size)
 refine aV (aD (l.getD d 0))<|Rs ((pt j)) (aL wm.aH 0 (ha:=X)) ?_
 refine aV ((pt j))<|aV ((pf j 20))<|Rs (.map (some m.rb)) (aL rO.aH 20) ?_
 refine Rs (.agg (aA 54 (rv .i64 ((o (BQ m (l.getD d 0))).1)))) (fA ru.aH 0) ?_
 refine fQ<|Fx.L.YQ (by rfl) rfl rfl rfl rfl rfl uy Tryz.underlying101 Tryz.underlying28 J E fun w6 sU s6 z5 => ?_
 have u:=uy.AB s6
 have sV:=rO.dJ u
 have uD:=vV.dJ u (b.mr)
 have sZ:=pR.dJ u (b.pr)
 have yB:=vW.dJ u ((Ne.symm b.rg))
 have uE:=mU.dJ u ((Ne.symm b.ra))
 have wQ:=qN.dJ u (by omega)
 have wF:=m64.dJ u
 have wR:=wm.dJ u
 have vX:=uz.dJ u (by omega) (by omega)
 have uT:=sj.dJ u (by omega) (by omega)
 have tN:=ru.dJ u
 have b7:=b6.then s6 (.inl (.inr (.inr (.inr (.inl rfl)))))
 have wo:Mp w6 m.rb m.T.n m.T.x (vI (xg m o l (aQ S d true))):=by have q9:=C8 _ _ _ _ sU; rw[ejx]at q9; exact q9.qU fun i hi=>⟨rfl,by unfold vI; rw[OX h.t.inv C J E i hi]⟩
 refine Ln (Rn (bP (gJ ⟨unseen (aQ S d true) l.length,(by have W:=Fx.nC hS1 l.length C; omega),(aQ S d true),(unseen (aQ S d true) l.length),rfl,rfl,W,X,G,sV,uD,sZ,yB,uE,wQ,wF,wR,wo,uT,b7⟩ (by decide))))
theorem Tt(m:dY)(j B:Nat)(w:World)(h:jV w B j m)(C:Int)(v:EvM)(ho:1<=v.o/\v.o<=6)(E:Nat)(u:aP w E 14 (bO v) 32) :
 Calls Tryz.prog 174 #[(pt j),aD C,.func (.func 175) #[] #[(pt E)]] w fun e w'=>Ph w B j m (qH m (fun x=>bE x v.o v.aX) (m.T.path C)) (dF m (fun x=>bE x v.o v.aX) (m.T.path C)) e w':=by
 have hC:=h.c
 have hT:=h.t
 have hP:=h.p
 have hR:=h.r
 have hG:=h.g
 have hA:=h.a
 have hN:=h.ne
 have lC:=h.c.lt
 have lT:=h.t.lt
 have lP:=h.p.lt
 have lR:=h.r.lt
 have lG:=h.g.lt
 have lA:=h.a.lt
 have Ya:=u.lt
 refine Kent Tryz.func174 44 ?_
 refine ay<|yM ((pt j)) fun A w1 kV Y s1 z1 => ?_
 have⟨m2,m3,m4,m5,m6,m7,m8,b1⟩:=lu s1.old hC hT hP hR hG hA u (Below.refl w.heap.size w)
 have tL:=gH kV
 have⟨mH,yG,vZ,Ab,yD,Ja⟩:=Gv kV hC.lt hP.lt hR.lt hG.lt hA.lt u.lt
 have vR:=Y.lt
 refine av (.nilFunc)<|av (au 0)<|aC<|ay<|Fx.L.Ir (by rfl) rfl rfl fun d w2 xH m9 s2 z2 => ?_
 have⟨m10,m11,m12,m13,m14,m15,m16,m17,b2⟩:=Ay s2.old m2 m3 m4 m5 m6 m7 m8 Y b1
 have qO:=jc xH b1.size
 have⟨Ey,Es,zk,Et,AU,Q0,Q5⟩:=KF xH m2.lt m4.lt m5.lt m6.lt m7.lt m8.lt Y.lt
 have zJ:=m9.lt
 refine wC 1 (fun _ => .map none) fun y w3 yT Z s3 z3 => ?_
 have⟨m19,m20,m21,m22,m23,m24,lW,mR,nY,b3⟩:=tH s3.old m10 m11 m12 m13 m14 m15 m16 m17 m9 b2
 have Dy:=jc yT b2.size
 have⟨abe,Tv,abf,Tw,Tx,Ls,abg,Lu⟩:=UL yT m10.lt m12.lt m13.lt m14.lt m15.lt m16.lt m17.lt m9.lt
 have KQ:=Z.lt
 refine iQ Z 0 (.map (some d)) fun O nT s4 z4 => ?_
 have oF:aP O y 1 (fun _ => .map (some d)) 101:=dH nT
 have gI:=gY s4 Z.ty
 have⟨nE,lH,m32,oI,nG,oJ,pO,qL,qM⟩:=YO gI m19 m20 m21 m22 m23 m24 lW mR nY
 have b4:=s4.below b3 b3.size (by omega)
 refine aC<|Ws<|ay<|Lv ((pt j)) (aL qL.aH 0)<|av ((pt j))<|av ((pf j 18))<|Lv ((pt m.tp)) (aL nE.aH 18)<|av (aD C)<|jM (GH C lH) ?_
 rintro e9 w5 ⟨XG,D,u,pQ,hb1⟩
 refine⟨_,u,?_⟩
 clear u
 have⟨qW,mW,lY,lX,qX,oZ,mX,rM,vU,qY,b5⟩:=Dt hb1 nE lH m32 oI nG oJ pO qL qM oF b4
 obtain⟨l,H⟩ : ∃ q,q=dN.path m.T C:=⟨_,rfl⟩
 rw[<- H]at pQ ⊢
 have hl4:l.length<=4:=by rw[H]; exact dN.Ad
 refine av (au l.length)<|av (au 0)<|aC<|Wb ?_
 have qZ:Mp w5 d 0 (fun q=>l.getD q 0) (qI m (fun x=>bE x v.o v.aX) l):=vU.qU fun i hi=>absurd hi (Nat.not_lt_zero _)
 refine Wo (fun f k => ∃ i:Nat,i<=l.length/\kN (fun x=>bE x v.o v.aX) (fun i=>BQ m (l.getD i 0)) i=0/\f 2 = .func (.func 175) #[] #[(pt E)]/\f 3=(pt A)/\f 8=(pt y)/\f 19 = .slice XG (l.length) (D)/\f 20=au ((l.length:Int))/\f 21=au ((i:Int))/\aP k j 29 (uo m) 106/\qz k B m.tp m.mb m.T/\Mp k m.pb m.T.n m.T.x (Cn m.T)/\Mp k m.rb m.T.n m.T.x (vI m.R)/\gN k m.gb m.gn (fun i=>m.g i 0) (fun i=>m.g i 1) (sJ m.g)/\gN k m.ab m.an m.ao m.ar Co/\aP k E 14 (bO v) 32/\aP k A 1 (fun _=>(pt j)) 37/\aP k y 1 (fun _ => .map (some d)) 101/\Fx.Own k O.heap.size 28 1 (.slice XG (l.length) (D)) l.length (wE l)/\Mp k d i (fun q=>l.getD q 0) (qI m (fun x=>bE x v.o v.aX) l)/\Below w.heap.size w k) (fun f _=>((l.length:Int)-intOf (f 21)).toNat) ⟨0,(by omega),rfl,(by rfl),(by rfl),(by rfl),(by rfl),Fx.ic,Fx.ic,qW,mW,lY,lX,qX,oZ,mX,rM,qY,pQ,qZ,b5⟩ ?_
 rintro f1 w6 ⟨i,hi,K,h1,U,V,h4,W,G,uw,uS,rZ,sP,wP,sQ,sS,N,aa,pR,ac,P⟩
 refine ay ?_
 by_cases c22:(i:Int)<(l.length:Int)
 ·refine Lv aG (gy c22 (hx:=G) (hy:=W))<|aC<|Ws<|aM<|Wk<|sN<|Ws<|Wb<|ay ?_
  obtain⟨BK,S⟩:=pR.addr (by omega)
  have mU:Fx.Own w6 O.heap.size 28 1 (bI BK l.length D) l.length (wE l):=pR.dU (congrArg (fun q=>Value.slice q l.length D) S)
  refine Lv ((pf BK i)) (cu 1 (hx:=(h4.trans (congrArg (fun q=>Value.slice q (l.length) (D)) S))) (hi:=G))<|Lv (aD (l.getD i 0)) (aL mU.aH i)<|av (aD (l.getD i 0))<|aC<|Ws ?_
  obtain⟨b,hjz,ejz⟩:=fT (dN.Af h.t.inv H _ (tK (show i<l.length by omega) rfl))
  have J:BQ m (l.getD i 0)=m.R b:=by unfold BQ dY.idx; rw[kY h.t.inv.inj hjz ejz]
  refine Wl<|aS h1<|Lv ((pt j)) (aL N.aH 0 (ha:=U))<|av ((pt j))<|av ((pf j 20))<|Lv (.map (some m.rb)) (aL uw.aH 20)<|av (aD (l.getD i 0))<|Lv (.agg (aA 54 (rv .i64 (m.R b)))) (Fx.uN (z := .agg (aA 54 (rv .i64 (fun _=>0)))) rfl rfl rfl sP Tryz.underlying101 Tryz.underlying28 (by kernel_rfl) hjz ejz rfl)<|Ao (by rfl) (Fx.E8 (args := [.agg (aA 54 (rv .i64 (m.R b)))]) rfl rfl rfl (all := #[.agg (aA 54 (rv .i64 (m.R b))),(pt E)]) rfl Tryz.func175 rfl rfl) rfl<|(Tp (m.R b) v E _ ho sS).mono ?_
  rintro e w7 ⟨u,F⟩
  refine⟨.tuple #[.agg (aA 54 (rv .i64 ((bE (m.R b) v.o v.aX).1))),au ((bE (m.R b) v.o v.aX).2)],by rw[u],?_⟩
  clear u
  have⟨qN,m64,wm,uy,uz,sj,ru,sU,sV,uD,sZ,b7⟩:=Mh F uw uS rZ sP wP sQ sS N aa ac mU P
  refine av (.tuple #[.agg (aA 54 (rv .i64 ((bE (m.R b) v.o v.aX).1))),au ((bE (m.R b) v.o v.aX).2)])<|av (.agg (aA 54 (rv .i64 ((bE (m.R b) v.o v.aX).1))))<|av (au ((bE (m.R b) v.o v.aX).2))<|wC 54 (rv .i64 (fun _=>0)) fun g4 w8 KJ ad s7 z5 => ?_
  have⟨uE,wQ,wF,wR,vX,uT,tN,wo,xW,wu,yR,b8⟩:=Mh s7.old qN m64 wm uy uz sj ru sU sV uD sZ b7
  have Uq:=jc KJ b7.size
  have⟨aaH,aaI,aaJ,aaK,alq,alr,abh,als,abj,abk⟩:=XD KJ qN.lt wm.lt uy.lt uz.lt sj.lt ru.lt sU.lt sV.lt uD.lt sZ.lt
  have R3:=ad.lt
  refine fB ad 0 fun w9 yC s8 z6 => ?_
  have xX:aP w9 g4 54 (rv .i64 ((bE (m.R b) v.o v.aX).1)) 59:=aU yC
  have jN:=gY s8 ad.ty
  have⟨xG,xY,yS,Ci,AZ,zN,zO,xL,Ck,A8,CS⟩:=XC jN uE wQ wF wR vX uT tN wo xW wu yR
  have Q:=s8.below b8 b8.size (by omega)
  refine av (au ((bE (m.R b) v.o v.aX).2))<|aC<|Ws<|ay<|av (au ((bE (m.R b) v.o v.aX).2)) ?_
  by_cases I:((bE (m.R b) v.o v.aX).2)=0
  ·refine Lv aF (jJ I)<|aC<|aK<|Wk<|sN ?_
   have hnd:l.Nodup:=by rw[H]; exact dN.zl h.t.inv C
   have hny : ∀ q,q<i->(fun q=>l.getD q 0) q≠l.getD i 0:=fun q hq e=>by have:=Bt hnd (show q<l.length by omega) (show i<l.length by omega) e; omega
   refine Wl<|Lv (.map (some d)) (aL Ck.aH 0 (ha:=V))<|av (aD (l.getD i 0))<|Lv (.agg (aA 54 (rv .i64 ((bE (m.R b) v.o v.aX).1)))) (fA xX.aH 0)<|Fx.L.NS (by rfl) rfl rfl rfl rfl rfl A8 Tryz.underlying101 Tryz.underlying28 hny fun rJ DU s9 z7 => ?_
   have s:=A8.AB s9
   have vk:=xG.dJ s
   have wT:=xY.dJ s (by omega)
   have vo:=yS.dJ s (by omega)
   have sw:=Ci.dJ s (by omega)
   have og:=AZ.dJ s (by omega)
   have nJ:=zN.dJ s (by omega)
   have oN:=zO.dJ s
   have oh:=xL.dJ s
   have pV:=Ck.dJ s
   have qE:=CS.dJ s
   have tZ:=xX.dJ s
   have b10:=s9.below Q Q.size (by omega)
   have pW:Mp rJ d (i+1) (fun q=>l.getD q 0) (qI m (fun x=>bE x v.o v.aX) l):=F7 DU (by rw[J])
   refine Ln<|bP<|sN<|Wl<|Lv (au ((i:Int)+1)) (eZ (hx:=G))<|av (au ((i:Int)+1))<|Ln ?_
   have sD:Fx.Own rJ O.heap.size 28 1 (.slice XG (l.length) (D)) l.length (wE l):=qE.dU (congrArg (fun q=>Value.slice q l.length D) S.symm)
   refine gJ ⟨i+1,(by omega),(F6 K (by rw[J]; exact I)),h1,U,V,h4,(W.trans Fx.ic),Fx.ic,vk,wT,vo,sw,og,nJ,oN,oh,pV,sD,pW,b10⟩ ?_
   show((l.length:Int)-intOf ((au ((i:Int)+1)))).toNat<_
   simp only[G,intOf]; omega
  refine Lv aG (mE I)<|aC<|aM<|ay<|av (au ((bE (m.R b) v.o v.aX).2))<|av (.nilFunc)<|av (au ((bE (m.R b) v.o v.aX).2))<|aC<|Wr<|sR<|bK<|sR<|oQ<|bK<|sR<|aI (.tuple #[.nilFunc,au ((bE (m.R b) v.o v.aX).2)]) ?_
  have M:dF m (fun x=>bE x v.o v.aX) l=(bE (m.R b) v.o v.aX).2:=by unfold dF; rw[zm K (by rw[J]; exact I) _ (by omega),J]
  exact⟨⟨.nilFunc,0,#[],by rw[M],rfl,fun e0=>absurd (M.symm.trans e0) (by first|decide|omega|assumption)⟩,Q⟩
 refine Lv aF (gD c22 (hx:=G) (hy:=W))<|aC<|Ws<|aK<|Wx<|bV<|fU<|bW<|sN<|ay<|Lv (.func (.func 187) #[] #[(pt y),(pt A)]) (Fx.mh (us := []) (vs := [(pt y),(pt A)]) rfl rfl (Fx.args2 V U))<|av (.func (.func 187) #[] #[(pt y),(pt A)])<|av (au 0)<|aC<|Wr<|aI (.tuple #[.func (.func 187) #[] #[(pt y),(pt A)],au 0]) ?_
 have hil:i=l.length:=by omega
 rw[hil]at ac K
 have hgm:m.rb≠d/\m.mb≠d/\m.pb≠d/\m.gb≠d/\m.ab≠d:=⟨by omega,by omega,by omega,by omega,by omega⟩
 have M:dF m (fun x=>bE x v.o v.aX) l=0:=K
 exact⟨⟨_,187,#[(pt y),(pt A)],by rw[M],rfl,fun _=>⟨rfl,⟨_,_,Tryz.func187,rfl,rfl⟩,fun w2 F=>(JM m j B w2 ((h.up P).up F) (fun x=>bE x v.o v.aX) l d hgm (dN.Af h.t.inv H) (ac.up F) _ _ (aa.bZ (Sb F) (Nat.ne_of_lt aa.lt)) (N.bZ (Sb F) (Nat.ne_of_lt N.lt))).mono fun _ _ X=>⟨X.1,X.2.1,X.2.2.mono fun _ hk => .inl hk⟩⟩⟩,P⟩
theorem Tz(m:dY)(j B:Nat)(w:World)(h:jV w B j m)(C:Int)(v:EvM)(g:Nat->Int)(ho:1<=v.o/\v.o<=6)(E F:Nat)(u:aP w E 14 (bO v) 32)(Z:aP w F 5 (iM g) 66) :
 Calls Tryz.prog 174 #[(pt j),aD C,.func (.func 178) #[] #[(pt E),(pt F)]] w fun e w'=>Ph w B j m (qH m (fun x=>bF x v.o (g 3)) (m.T.path C)) (dF m (fun x=>bF x v.o (g 3)) (m.T.path C)) e w':=by
 have hC:=h.c
 have hT:=h.t
 have hP:=h.p
 have hR:=h.r
 have hG:=h.g
 have hA:=h.a
 have hN:=h.ne
 have lC:=h.c.lt
 have lT:=h.t.lt
 have lP:=h.p.lt
 have lR:=h.r.lt
 have lG:=h.g.lt
 have lA:=h.a.lt
 have Ya:=u.lt
 have lgg:=Z.lt
 refine Kent Tryz.func174 44 ?_
 refine ay<|yM ((pt j)) fun A w1 kV m1 s1 z1 => ?_
 have⟨m2,m3,m4,m5,m6,m7,m8,m9,b1⟩:=Ay s1.old hC hT hP hR hG hA u Z (Below.refl w.heap.size w)
 have tL:=gH kV
 have⟨mH,yG,vZ,Ab,yD,Ja,adw⟩:=KF kV hC.lt hP.lt hR.lt hG.lt hA.lt u.lt Z.lt
 have vR:=m1.lt
 refine av (.nilFunc)<|av (au 0)<|aC<|ay<|Fx.L.Ir (by rfl) rfl rfl fun d w2 xH m10 s2 z2 => ?_
 have⟨m11,m12,m13,m14,m15,m16,m17,m18,m19,b2⟩:=tH s2.old m2 m3 m4 m5 m6 m7 m8 m9 m1 b1
 have qO:=jc xH b1.size
 have⟨Er,zk,Et,AU,Q0,Q5,aaX,alu⟩:=UL xH m2.lt m4.lt m5.lt m6.lt m7.lt m8.lt m9.lt m1.lt
 have zJ:=m10.lt
 refine wC 1 (fun _ => .map none) fun y w3 yT m20 s3 z3 => ?_
 have⟨m21,m22,m23,m24,lW,mR,nY,nT,oF,nE,b3⟩:=Dt s3.old m11 m12 m13 m14 m15 m16 m17 m18 m19 m10 b2
 have Dy:=jc yT b2.size
 have⟨Tv,Tw,Tx,Ls,abg,Lu,SN,SQ,SS⟩:=UM yT m11.lt m13.lt m14.lt m15.lt m16.lt m17.lt m18.lt m19.lt m10.lt
 have KQ:=m20.lt
 refine iQ m20 0 (.map (some d)) fun P lH s4 z4 => ?_
 have m32:aP P y 1 (fun _ => .map (some d)) 101:=dH lH
 have gI:=gY s4 m20.ty
 have⟨oI,nG,oJ,pO,qL,qM,pQ,qW,mW,lY⟩:=Mi gI m21 m22 m23 m24 lW mR nY nT oF nE
 have b4:=s4.below b3 b3.size (by omega)
 refine aC<|Ws<|ay<|Lv ((pt j)) (aL mW.aH 0)<|av ((pt j))<|av ((pf j 18))<|Lv ((pt m.tp)) (aL oI.aH 18)<|av (aD C)<|jM (GH C nG) ?_
 rintro e9 w5 ⟨XG,D,u,lX,hb1⟩
 refine⟨_,u,?_⟩
 clear u
 have⟨qX,oZ,mX,rM,vU,qY,qZ,uw,uS,rZ,sP,b5⟩:=Mh hb1 oI nG oJ pO qL qM pQ qW mW lY m32 b4
 obtain⟨l,I⟩ : ∃ q,q=dN.path m.T C:=⟨_,rfl⟩
 rw[<- I]at lX ⊢
 have hl4:l.length<=4:=by rw[I]; exact dN.Ad
 refine av (au l.length)<|av (au 0)<|aC<|Wb ?_
 have wP:Mp w5 d 0 (fun q=>l.getD q 0) (qI m (fun x=>bF x v.o (g 3)) l):=rZ.qU fun i hi=>absurd hi (Nat.not_lt_zero _)
 refine Wo (fun f k => ∃ i:Nat,i<=l.length/\kN (fun x=>bF x v.o (g 3)) (fun i=>BQ m (l.getD i 0)) i=0/\f 2 = .func (.func 178) #[] #[(pt E),(pt F)]/\f 3=(pt A)/\f 8=(pt y)/\f 19 = .slice XG (l.length) (D)/\f 20=au ((l.length:Int))/\f 21=au ((i:Int))/\aP k j 29 (uo m) 106/\qz k B m.tp m.mb m.T/\Mp k m.pb m.T.n m.T.x (Cn m.T)/\Mp k m.rb m.T.n m.T.x (vI m.R)/\gN k m.gb m.gn (fun i=>m.g i 0) (fun i=>m.g i 1) (sJ m.g)/\gN k m.ab m.an m.ao m.ar Co/\aP k E 14 (bO v) 32/\aP k F 5 (iM g) 66/\aP k A 1 (fun _=>(pt j)) 37/\aP k y 1 (fun _ => .map (some d)) 101/\Fx.Own k P.heap.size 28 1 (.slice XG (l.length) (D)) l.length (wE l)/\Mp k d i (fun q=>l.getD q 0) (qI m (fun x=>bF x v.o (g 3)) l)/\Below w.heap.size w k) (fun f _=>((l.length:Int)-intOf (f 21)).toNat) ⟨0,(by omega),rfl,(by rfl),(by rfl),(by rfl),(by rfl),Fx.ic,Fx.ic,qX,oZ,mX,rM,vU,qY,qZ,uw,uS,sP,lX,wP,b5⟩ ?_
 rintro f1 w6 ⟨i,hi,M,h1,V,W,h4,X,H,sQ,sS,rO,vV,pR,vW,mU,qN,O,wm,uy,uz,Q⟩
 refine ay ?_
 by_cases c22:(i:Int)<(l.length:Int)
 ·refine Lv aG (gy c22 (hx:=H) (hy:=X))<|aC<|Ws<|aM<|Wk<|sN<|Ws<|Wb<|ay ?_
  obtain⟨BK,U⟩:=uy.addr (by omega)
  have sj:Fx.Own w6 P.heap.size 28 1 (bI BK l.length D) l.length (wE l):=uy.dU (congrArg (fun q=>Value.slice q l.length D) U)
  refine Lv ((pf BK i)) (cu 1 (hx:=(h4.trans (congrArg (fun q=>Value.slice q (l.length) (D)) U))) (hi:=H))<|Lv (aD (l.getD i 0)) (aL sj.aH i)<|av (aD (l.getD i 0))<|aC<|Ws ?_
  obtain⟨b,hjz,ejz⟩:=fT (dN.Af h.t.inv I _ (tK (show i<l.length by omega) rfl))
  have K:BQ m (l.getD i 0)=m.R b:=by unfold BQ dY.idx; rw[kY h.t.inv.inj hjz ejz]
  refine Wl<|aS h1<|Lv ((pt j)) (aL O.aH 0 (ha:=V))<|av ((pt j))<|av ((pf j 20))<|Lv (.map (some m.rb)) (aL sQ.aH 20)<|av (aD (l.getD i 0))<|Lv (.agg (aA 54 (rv .i64 (m.R b)))) (Fx.uN (z := .agg (aA 54 (rv .i64 (fun _=>0)))) rfl rfl rfl vV Tryz.underlying101 Tryz.underlying28 (by kernel_rfl) hjz ejz rfl)<|Ao (by rfl) (Fx.E8 (args := [.agg (aA 54 (rv .i64 (m.R b)))]) rfl rfl rfl (all := #[.agg (aA 54 (rv .i64 (m.R b))),(pt E),(pt F)]) rfl Tryz.func178 rfl rfl) rfl<|(Tq (m.R b) v g E F _ ho mU qN).mono ?_
  rintro e w7 ⟨u,G⟩
  refine⟨.tuple #[.agg (aA 54 (rv .i64 ((bF (m.R b) v.o (g 3)).1))),au ((bF (m.R b) v.o (g 3)).2)],by rw[u],?_⟩
  clear u
  have⟨ru,sU,sV,uD,sZ,yB,uE,wQ,wF,wR,vX,uT,b7⟩:=XB G sQ sS rO vV pR vW mU qN O wm uz sj Q
  refine av (.tuple #[.agg (aA 54 (rv .i64 ((bF (m.R b) v.o (g 3)).1))),au ((bF (m.R b) v.o (g 3)).2)])<|av (.agg (aA 54 (rv .i64 ((bF (m.R b) v.o (g 3)).1))))<|av (au ((bF (m.R b) v.o (g 3)).2))<|wC 54 (rv .i64 (fun _=>0)) fun g4 w8 KJ tN s7 z5 => ?_
  have⟨wo,xW,wu,yR,yC,xX,xG,xY,yS,Ci,AZ,zN,b8⟩:=XB s7.old ru sU sV uD sZ yB uE wQ wF wR vX uT b7
  have Uq:=jc KJ b7.size
  have⟨abh,abj,abk,alv,alx,aly,alz,alA,alB,alC,alD⟩:=acE KJ ru.lt sV.lt uD.lt sZ.lt yB.lt uE.lt wQ.lt wF.lt wR.lt vX.lt uT.lt
  have R3:=tN.lt
  refine fB tN 0 fun w9 zO s8 z6 => ?_
  have xL:aP w9 g4 54 (rv .i64 ((bF (m.R b) v.o (g 3)).1)) 59:=aU zO
  have jN:=gY s8 tN.ty
  have⟨Ck,A8,CS,DU,vk,wT,vo,sw,og,nJ,oN,oh⟩:=acD jN wo xW wu yR yC xX xG xY yS Ci AZ zN
  have S:=s8.below b8 b8.size (by omega)
  refine av (au ((bF (m.R b) v.o (g 3)).2))<|aC<|Ws<|ay<|av (au ((bF (m.R b) v.o (g 3)).2)) ?_
  by_cases J:((bF (m.R b) v.o (g 3)).2)=0
  ·refine Lv aF (jJ J)<|aC<|aK<|Wk<|sN ?_
   have hnd:l.Nodup:=by rw[I]; exact dN.zl h.t.inv C
   have hny : ∀ q,q<i->(fun q=>l.getD q 0) q≠l.getD i 0:=fun q hq e=>by have:=Bt hnd (show q<l.length by omega) (show i<l.length by omega) e; omega
   refine Wl<|Lv (.map (some d)) (aL nJ.aH 0 (ha:=W))<|av (aD (l.getD i 0))<|Lv (.agg (aA 54 (rv .i64 ((bF (m.R b) v.o (g 3)).1)))) (fA xL.aH 0)<|Fx.L.NS (by rfl) rfl rfl rfl rfl rfl oN Tryz.underlying101 Tryz.underlying28 hny fun rJ pV s9 z7 => ?_
   have s:=oN.AB s9
   have qE:=Ck.dJ s
   have tZ:=A8.dJ s (by omega)
   have pW:=CS.dJ s (by omega)
   have sD:=DU.dJ s (by omega)
   have xZ:=vk.dJ s (by omega)
   have uf:=wT.dJ s (by omega)
   have yc:=vo.dJ s
   have A9:=sw.dJ s
   have wz:=og.dJ s
   have sF:=nJ.dJ s
   have oO:=oh.dJ s
   have wU:=xL.dJ s
   have b10:=s9.below S S.size (by omega)
   have wV:Mp rJ d (i+1) (fun q=>l.getD q 0) (qI m (fun x=>bF x v.o (g 3)) l):=F7 pV (by rw[K])
   refine Ln<|bP<|sN<|Wl<|Lv (au ((i:Int)+1)) (eZ (hx:=H))<|av (au ((i:Int)+1))<|Ln ?_
   have sG:Fx.Own rJ P.heap.size 28 1 (.slice XG (l.length) (D)) l.length (wE l):=oO.dU (congrArg (fun q=>Value.slice q l.length D) U.symm)
   refine gJ ⟨i+1,(by omega),(F6 M (by rw[K]; exact J)),h1,V,W,h4,(X.trans Fx.ic),Fx.ic,qE,tZ,pW,sD,xZ,uf,yc,A9,wz,sF,sG,wV,b10⟩ ?_
   show((l.length:Int)-intOf ((au ((i:Int)+1)))).toNat<_
   simp only[H,intOf]; omega
  refine Lv aG (mE J)<|aC<|aM<|ay<|av (au ((bF (m.R b) v.o (g 3)).2))<|av (.nilFunc)<|av (au ((bF (m.R b) v.o (g 3)).2))<|aC<|Wr<|sR<|bK<|sR<|oQ<|bK<|sR<|aI (.tuple #[.nilFunc,au ((bF (m.R b) v.o (g 3)).2)]) ?_
  have N:dF m (fun x=>bF x v.o (g 3)) l=(bF (m.R b) v.o (g 3)).2:=by unfold dF; rw[zm M (by rw[K]; exact J) _ (by omega),K]
  exact⟨⟨.nilFunc,0,#[],by rw[N],rfl,fun e0=>absurd (N.symm.trans e0) (by first|decide|omega|assumption)⟩,S⟩
 refine Lv aF (gD c22 (hx:=H) (hy:=X))<|aC<|Ws<|aK<|Wx<|bV<|fU<|bW<|sN<|ay<|Lv (.func (.func 187) #[] #[(pt y),(pt A)]) (Fx.mh (us := []) (vs := [(pt y),(pt A)]) rfl rfl (Fx.args2 W V))<|av (.func (.func 187) #[] #[(pt y),(pt A)])<|av (au 0)<|aC<|Wr<|aI (.tuple #[.func (.func 187) #[] #[(pt y),(pt A)],au 0]) ?_
 have hil:i=l.length:=by omega
 rw[hil]at uz M
 have hgm:m.rb≠d/\m.mb≠d/\m.pb≠d/\m.gb≠d/\m.ab≠d:=⟨by omega,by omega,by omega,by omega,by omega⟩
 have N:dF m (fun x=>bF x v.o (g 3)) l=0:=M
 exact⟨⟨_,187,#[(pt y),(pt A)],by rw[N],rfl,fun _=>⟨rfl,⟨_,_,Tryz.func187,rfl,rfl⟩,fun w2 G=>(JM m j B w2 ((h.up Q).up G) (fun x=>bF x v.o (g 3)) l d hgm (dN.Af h.t.inv I) (uz.up G) _ _ (wm.bZ (Sb G) (Nat.ne_of_lt wm.lt)) (O.bZ (Sb G) (Nat.ne_of_lt O.lt))).mono fun _ _ Y=>⟨Y.1,Y.2.1,Y.2.2.mono fun _ hk => .inl hk⟩⟩⟩,Q⟩
section
set_option maxRecDepth 20000
set_option linter.unusedVariables false
namespace Rt
def EW(k1 k2:Nat->Int):Nat->Int->Int->Bool
 | 0,_,_=>false
 | n+1,a,b=>(decide (k1 n=a)&&decide (k2 n=b)) || EW k1 k2 n a b
def Wh(k1 k2:Nat->Int):Nat->Int->Int->Nat
 | 0,_,_=>0
 | n+1,a,b=>if k1 n=a/\k2 n=b then n else Wh k1 k2 n a b
section
variable {k1 k2:Nat->Int} {a b:Int}
theorem qJ : ∀ {n:Nat},EW k1 k2 n a b=true <-> ∃ j,j<n/\k1 j=a/\k2 j=b
 | 0=>⟨fun h=>(nomatch h),fun⟨j,h,_⟩=>absurd h (Nat.not_lt_zero _)⟩
 | n+1=>by
   unfold EW
   rw[Bool.or_eq_true,Bool.and_eq_true,decide_eq_true_iff,decide_eq_true_iff,qJ]
   constructor
   ·rintro (⟨f,c⟩|⟨j,f,c,d⟩)
    ·exact⟨n,by omega,f,c⟩
    ·exact⟨j,by omega,c,d⟩
   ·rintro ⟨j,f,c,d⟩
    by_cases e:j=n
    ·subst e; exact .inl ⟨c,d⟩
    ·exact .inr ⟨j,by omega,c,d⟩
theorem Ag{n j:Nat}(e:j<n)(c:k1 j=a)(d:k2 j=b):EW k1 k2 n a b=true:=qJ.2 ⟨j,e,c,d⟩
theorem rW{n:Nat}(h : ∀ i,i<n -> ¬ (k1 i=a/\k2 i=b)):EW k1 k2 n a b=false:=by
 cases e:EW k1 k2 n a b with
 | false=>rfl
 | true=>obtain⟨j,f,c,d⟩:=qJ.1 e; exact absurd ⟨c,d⟩ (h j f)
theorem Ah{j:Nat} : ∀ {n:Nat},(∀ p q,p<n->q<n->k1 p=k1 q->k2 p=k2 q->p=q)->j<n->k1 j=a->k2 j=b->Wh k1 k2 n a b=j
 | 0,_,h,_,_=>absurd h (Nat.not_lt_zero _)
 | n+1,hi,hj,e1,e2=>by
   unfold Wh
   by_cases c:k1 n=a/\k2 n=b
   ·rw[if_pos c]; exact hi n j (by omega) hj (c.1.trans e1.symm) (c.2.trans e2.symm)
   ·rw[if_neg c]
    refine Ah (fun p q d f=>hi p q (by omega) (by omega)) ?_ e1 e2
    by_cases e:j=n
    ·subst e; exact absurd ⟨e1,e2⟩ c
    ·omega
end
theorem Da{v:EvM}(h:dh v=true)(a:fC v):Fx.Cc v.o v.req/\Fx.Cc v.o v.of:=by
 have d:=qG h
 have b:=a.req
 have c:=a.of
 unfold iD at b c
 exact⟨⟨by omega,by omega⟩,⟨by omega,by omega⟩⟩
theorem Wi{w:World}{b k n:Nat}{g:Nat->Nat->Int}{o r:Int}{y:Nat->Value}(h:gN w b k (aQ (fun i=>g i 0) n o) (aQ (fun i=>g i 1) n r) (aQ (sJ g) n (.agg (aA 5 y))))(x:Nat->Int)(e0:x 0=o)(a:x 1=r)(d : ∀ j,j<5->y j=iM x j) :
 gN w b k (fun i=>aQ g n x i 0) (fun i=>aQ g n x i 1) (sJ (aQ g n x)):=h.qU fun i _=>by
 unfold aQ sJ
 by_cases c:i=n
 ·subst c
  refine⟨?_,?_,?_⟩
  ·show(if i=i then o else g i 0)=(if i=i then x else g i) 0
   rw[if_pos rfl,if_pos rfl,e0]
  ·show(if i=i then r else g i 1)=(if i=i then x else g i) 1
   rw[if_pos rfl,if_pos rfl,a]
  ·show(if i=i then Value.agg (aA 5 y)else _)=Value.agg (aA 5 (iM (if i=i then x else g i)))
   rw[if_pos rfl,if_pos rfl,Fx.eH d]
 ·refine⟨?_,?_,?_⟩
  ·show(if i=n then o else g i 0)=(if i=n then x else g i) 0
   rw[if_neg c,if_neg c]
  ·show(if i=n then r else g i 1)=(if i=n then x else g i) 1
   rw[if_neg c,if_neg c]
  ·show(if i=n then Value.agg (aA 5 y)else Value.agg (aA 5 (iM (g i))))=Value.agg (aA 5 (iM (if i=n then x else g i)))
   rw[if_neg c,if_neg c]
theorem Wj{w:World}{b n j:Nat}{g:Nat->Nat->Int}{x:Nat->Int}(h:gN w b n (fun i=>g i 0) (fun i=>g i 1) (aQ (sJ g) j (.agg (aA 5 (iM x)))))(e0:x 0=g j 0)(a:x 1=g j 1) :
 gN w b n (fun i=>aQ g j x i 0) (fun i=>aQ g j x i 1) (sJ (aQ g j x)):=h.qU fun i _=>by
 unfold aQ sJ
 show g i 0=(if i=j then x else g i) 0/\g i 1=(if i=j then x else g i) 1/\_=Value.agg (aA 5 (iM (if i=j then x else g i)))
 by_cases c:i=j
 ·subst c; rw[if_pos rfl,if_pos rfl]; exact⟨e0.symm,a.symm,rfl⟩
 ·rw[if_neg c,if_neg c]; exact⟨rfl,rfl,rfl⟩
theorem Nh{w:World}{b k n:Nat}{o r:Nat->Int}{x y:Int}(h:gN w b k (aQ o n x) (aQ r n y) (aQ Co n (.bool true))):gN w b k (aQ o n x) (aQ r n y) Co:=h.qU fun i _=>⟨rfl,rfl,by unfold aQ Co; split <;> rfl⟩
theorem aeF(x:Nat->Int)(r:Int):dz (iM x) 4 (aD r)=iM (upd x 4 r):=by
 funext p
 unfold dz
 by_cases c:p=4
 ·subst c; rw[if_pos rfl]; rfl
 rw[if_neg c]; unfold iM upd
 by_cases a:p=0
 ·rw[if_pos a,if_pos a]; rfl
 rw[if_neg a,if_neg a]
 by_cases b:p=3
 ·rw[if_pos b,if_pos b]; rfl
 rw[if_neg b,if_neg b,if_neg c]
def EH(a b:Int):Nat->Value:=fun p=>if p=0 then au a else aD b
def TA(m:dY)(a:Nat->Nat->Int)(v:EvM):dY := { m with R:=a,an:=m.an+1,ao:=aQ m.ao m.an v.o,ar:=aQ m.ar m.an v.req,gn:=m.gn+1,g:=aQ m.g m.gn (uF v) }
def Ni(m:dY)(a:Nat->Nat->Int)(v:EvM)(j:Nat):dY := { m with R:=a,an:=m.an+1,ao:=aQ m.ao m.an v.o,ar:=aQ m.ar m.an v.req,g:=aQ m.g j (upd (m.g j) 4 v.req) }
structure Bw(w0 w:World):Prop where
 b:Below w0.heap.size w0 w
theorem Bw.up{a w w':World}(h:Bw a w)(c:Below w.heap.size w w'):Bw a w':=⟨HZ h.b c⟩
instance {a w w':World}:Rt.Tr w w' (Bw a w) (Bw a w'):=⟨fun b h=>h.up b⟩
end Rt
theorem abl{y:Nat->Value}{a b:Int}(c:y 0=au a)(h1:y 1=aD b){w:World}{g:Nat}(h:aP w g 2 y 113):aP w g 2 (EH a b) 113:=h.congr fun j d=>by
 rcases(show j=0\/j=1 by omega)with rfl|rfl
 ·exact c
 ·exact h1
structure LtT(gl gq ge b:Nat):Prop where
 gl:gl<b
 gq:gq<b
 ge:ge<b
structure LtF(gl gq ge gg go b:Nat):Prop where
 gl:gl<b
 gq:gq<b
 ge:ge<b
 gg:gg<b
 go:go<b
theorem TD(m:dY)(l B:Nat)(w:World)(h:jV w B l m)(v:EvM)(hv:dh v=true)(hwf:fC v)(I:Nat->Nat->Int)(D J G:Nat)(abm:J<=D)(cap:Array Value)(U:Sy w B l m { m with R:=I } D (.func (.func G) #[] cap) G cap)(S:Nat)(K:Nat)(M:Nat)(A:Nat)(Y:aP w S 1 (fun _ => .func (.func G) #[] cap) 107)(hl:aP w K 1 (fun _=>(pt l)) 37)(hq:aP w M 2 (EH v.o v.req) 113)(E:aP w A 14 (bO v) 32)(N:LtT K M A D)(hnz : ∀ i,i<m.an -> ¬ (m.ao i=v.o/\m.ar i=v.req))(hny : ∀ i,i<m.gn -> ¬ ((fun i=>m.g i 0) i=v.o/\(fun i=>m.g i 1) i=v.req)) :
 Calls Tryz.prog 177 #[(pt S),(pt K),(pt M),(pt A)] w fun e w'=>e = .returned (.tuple #[])/\jV w' B l (TA m I v)/\jB (Sw m l J) w w':=by
 have hC:=h.c
 have hT:=h.t
 have hP:=h.p
 have hR:=h.r
 have hG:=h.g
 have hA:=h.a
 have d:=h.ne
 have lC:=h.c.lt
 have lT:=h.t.lt
 have lP:=h.p.lt
 have lR:=h.r.lt
 have lG:=h.g.lt
 have lA:=h.a.lt
 have lgd:=Y.lt
 have XF:=hl.lt
 have lgq:=hq.lt
 have Ya:=E.lt
 have Z:=Da hv hwf
 refine Kent Tryz.func177 25 ?_
 refine ay<|Lv (.func (.func G) #[] cap) (aL Y.aH 0)<|Ao (by rfl) (Fx.MZ (args := []) rfl rfl rfl (by simp) U.f) rfl<|(U.s _ (Below.refl _ _)).mono ?_
 rintro e9 z ⟨E,C,H⟩
 refine⟨_,E,?_⟩
 clear E
 have V:=H.mono (S':=Sw m l J) fun k hk=>hk.imp id (Nat.le_trans abm)
 have m1:aP z l 29 (uo m) 106:=C.c
 have lm1:=m1.lt
 have m2:qz z B m.tp m.mb m.T:=C.t
 have lm2:=m2.lt
 have m3:Mp z m.pb m.T.n m.T.x (Cn m.T):=C.p
 have lm3:=m3.lt
 have m4:Mp z m.rb m.T.n m.T.x (vI (I)):=C.r
 have lm4:=m4.lt
 have m5:gN z m.gb m.gn (fun i=>m.g i 0) (fun i=>m.g i 1) (sJ m.g):=C.g
 have lm5:=m5.lt
 have m6:gN z m.ab m.an m.ao m.ar Co:=C.a
 have lm6:=m6.lt
 have m7:=h.Hg hl (by decide) H N.gl
 have lm7:=m7.lt
 have m8:=h.Hg hq (by decide) H N.gq
 have lm8:=m8.lt
 have m9:=h.Hg E (by decide) H N.ge
 have lm9:=m9.lt
 refine aC<|Ws ?_
 -- region 1 draws
 refine jo [0,1,2,3,4,5] [4,0,0,4,4,3] [(5,0,[0]),(5,3,[3]),(5,4,[4])] fun oU W gU => ?_
 have s1:Stp z.heap.size z oU:=Sb W
 have⟨m10,m11,m12,m13,m14,m15,m16,m17,m18⟩:=Ay W m1 m2 m3 m4 m5 m6 m7 m8 m9
 have D:=V.then s1 (.inr V.size)
 refine Rs ((pt l)) (aL m16.aH 0) ?_
 refine aV ((pt l))<|aV ((pf l 28))<|Rs (.map (some m.ab)) (aL m10.aH 28) ?_
 refine Rs (.agg (aA 2 (EH v.o v.req))) (fA m17.aH 0) ?_
 refine fQ<|Fx.L.PY (by rfl) rfl rfl rfl ((show ev _ _ = .agg (aA 2 (EH v.o v.req))from rfl).trans (Fx.yx (y:=EH v.o v.req) (a:=v.o) (b:=v.req) rfl rfl)) Z.1 rfl m15 Tryz.underlying103 EU hnz fun O m19 s2 z1 => ?_
 have q:=m15.AB s2
 have m20:=m10.dJ q
 have m21:=m11.dJ q (d.ma)
 have m22:=m12.dJ q (d.pa)
 have m23:=m13.dJ q (d.ra)
 have m24:=m14.dJ q (d.ga)
 have lW:=m16.dJ q
 have mR:=m17.dJ q
 have nY:=m18.dJ q
 have Q:=D.then s2 (.inl (.inl (.inr (.inr (.inr (.inr (.inr rfl)))))))
 have nT:gN O m.ab (m.an+1) (aQ m.ao m.an v.o) (aQ m.ar m.an v.req) Co:=Nh m19
 refine Ln<|bM ?_
 -- region 2 draws
 refine jo [5,7,9,11,0,1,2,3,4,6,8,10,12,13,14] [4,0,0,4,4,0,4,0,4,0,4,0,4,0,3] [(14,0,[0]),(14,3,[3]),(14,4,[4]),(14,6,[6]),(14,8,[8]),(14,10,[10]),(14,12,[12])] fun yP X lQ => ?_
 have s3:Stp O.heap.size O yP:=Sb X
 have⟨oF,nE,lH,m32,oI,nG,oJ,F,qL⟩:=Ay X m20 m21 m22 m23 m24 lW mR nY nT
 have b3:=Q.then s3 (.inr Q.size)
 refine aV ((pt A))<|aV ((pf A 12))<|aV ((pf A 9))<|aV ((pf A 11))<|Rs ((pt l)) (aL nG.aH 0) ?_
 refine aV ((pt l))<|aV ((pf l 27))<|Rs (.map (some m.gb)) (aL oF.aH 27) ?_
 refine Rs (.agg (aA 2 (EH v.o v.req))) (fA oJ.aH 0) ?_
 refine Rs (au v.o) (aL F.aH 0) ?_
 refine Rs (aD v.req) (aL F.aH 12) ?_
 refine Rs (aD v.node) (aL F.aH 9) ?_
 refine Rs (au v.aX) (aL F.aH 11) ?_
 refine aV (.agg (aA 5 (bG (bG (bG (bG (fun P=>if P<1 then au 0 else if P<3 then aD 0 else if P<4 then au 0 else aD 0) 0 1 (fun _=>au v.o)) 1 1 (fun _=>aD v.req)) 2 1 (fun _=>aD v.node)) 3 1 (fun _=>au v.aX))))<|fQ<|Fx.L.PY (by rfl) rfl rfl rfl ((show ev _ _ = .agg (aA 2 (EH v.o v.req))from rfl).trans (Fx.yx (y:=EH v.o v.req) (a:=v.o) (b:=v.req) rfl rfl)) Z.1 rfl oI Tryz.underlying102 EU hny fun w3 qM s4 z2 => ?_
 have u:=oI.AB s4
 have pQ:=oF.dJ u
 have qW:=nE.dJ u (d.mg)
 have mW:=lH.dJ u (d.pg)
 have lY:=m32.dJ u (d.rg)
 have lX:=nG.dJ u
 have qX:=oJ.dJ u
 have oZ:=F.dJ u
 have mX:=qL.dJ u ((Ne.symm d.ga))
 have b4:=b3.then s4 (.inl (.inl (.inr (.inr (.inr (.inr (.inl rfl)))))))
 have rM:gN w3 m.gb (m.gn+1) (fun i=>aQ m.g m.gn (uF v) i 0) (fun i=>aQ m.g m.gn (uF v) i 1) (sJ (aQ m.g m.gn (uF v))):=Wi qM (uF v) rfl rfl (by intro j hj; rcases(show j=0\/j=1\/j=2\/j=3\/j=4 by omega)with rfl|rfl|rfl|rfl|rfl <;> rfl)
 refine Ln (Rn (⟨.tuple #[],iH Tryz.results177,?_⟩))
 unfold TA
 exact⟨rfl,{ c:=pQ,t:=qW,p:=mW,r:=lY,g:=rM,a:=mX,ne:=⟨d.mp,d.mr,d.mg,d.ma,d.pr,d.pg,d.pa,d.rg,d.ra,d.ga⟩,lB:=h.lB,pB:=h.pB,rB:=h.rB,gB:=h.gB,aB:=h.aB },b4⟩
theorem TF(m:dY)(l B:Nat)(w:World)(h:jV w B l m)(v:EvM)(hv:dh v=true)(hwf:fC v)(K:Nat->Nat->Int)(E H I:Nat)(abm:H<=E)(cap:Array Value)(S:Sy w B l m { m with R:=K } E (.func (.func I) #[] cap) I cap)(j:Nat)(Q:Nat)(M:Nat)(N:Nat)(J:Nat)(A:Nat)(go:Nat)(X:aP w Q 1 (fun _ => .func (.func I) #[] cap) 107)(hl:aP w M 1 (fun _=>(pt l)) 37)(hq:aP w N 2 (EH v.o v.req) 113)(F:aP w J 14 (bO v) 32)(Y:aP w A 5 (iM (m.g j)) 66)(hof:aP w go 2 (EH v.o v.of) 113)(hgg:H<=A)(G:LtF M N J A go E)(hnz : ∀ i,i<m.an -> ¬ (m.ao i=v.o/\m.ar i=v.req))(Z:j<m.gn)(ejy:(fun i=>m.g i 0) j=v.o)(fjy:(fun i=>m.g i 1) j=v.of) :
 Calls Tryz.prog 180 #[(pt Q),(pt M),(pt N),(pt J),(pt A),(pt go)] w fun e w'=>e = .returned (.tuple #[])/\jV w' B l (Ni m K v j)/\jB (Sw m l H) w w':=by
 have hC:=h.c
 have hT:=h.t
 have hP:=h.p
 have hR:=h.r
 have hG:=h.g
 have hA:=h.a
 have d:=h.ne
 have lC:=h.c.lt
 have lT:=h.t.lt
 have lP:=h.p.lt
 have lR:=h.r.lt
 have lG:=h.g.lt
 have lA:=h.a.lt
 have lgd:=X.lt
 have XF:=hl.lt
 have lgq:=hq.lt
 have Ya:=F.lt
 have lgg:=Y.lt
 have lgo:=hof.lt
 have aa:=Da hv hwf
 have atf:=Z
 refine Kent Tryz.func180 22 ?_
 refine ay<|Lv (.func (.func I) #[] cap) (aL X.aH 0)<|Ao (by rfl) (Fx.MZ (args := []) rfl rfl rfl (by simp) S.f) rfl<|(S.s _ (Below.refl _ _)).mono ?_
 rintro e9 z ⟨F,D,C⟩
 refine⟨_,F,?_⟩
 clear F
 have U:=C.mono (S':=Sw m l H) fun k hk=>hk.imp id (Nat.le_trans abm)
 have m1:aP z l 29 (uo m) 106:=D.c
 have lm1:=m1.lt
 have m2:qz z B m.tp m.mb m.T:=D.t
 have lm2:=m2.lt
 have m3:Mp z m.pb m.T.n m.T.x (Cn m.T):=D.p
 have lm3:=m3.lt
 have m4:Mp z m.rb m.T.n m.T.x (vI (K)):=D.r
 have lm4:=m4.lt
 have m5:gN z m.gb m.gn (fun i=>m.g i 0) (fun i=>m.g i 1) (sJ m.g):=D.g
 have lm5:=m5.lt
 have m6:gN z m.ab m.an m.ao m.ar Co:=D.a
 have lm6:=m6.lt
 have m7:=h.Hg hl (by decide) C G.gl
 have lm7:=m7.lt
 have m8:=h.Hg hq (by decide) C G.gq
 have lm8:=m8.lt
 have m9:=h.Hg F (by decide) C G.ge
 have lm9:=m9.lt
 have m10:=h.Hg Y (by decide) C G.gg
 have atg:=m10.lt
 have m11:=h.Hg hof (by decide) C G.go
 have ath:=m11.lt
 refine aC<|Ws ?_
 -- region 1 draws
 refine jo [0,1,2,3,4,5] [4,0,0,4,4,3] [(5,0,[0]),(5,3,[3]),(5,4,[4])] fun oU V gU => ?_
 have s1:Stp z.heap.size z oU:=Sb V
 have⟨m12,m13,m14,m15,m16,m17,m18,m19,m20,m21,m22⟩:=Dt V m1 m2 m3 m4 m5 m6 m7 m8 m9 m10 m11
 have E:=U.then s1 (.inr U.size)
 refine Rs ((pt l)) (aL m18.aH 0) ?_
 refine aV ((pt l))<|aV ((pf l 28))<|Rs (.map (some m.ab)) (aL m12.aH 28) ?_
 refine Rs (.agg (aA 2 (EH v.o v.req))) (fA m19.aH 0) ?_
 refine fQ<|Fx.L.PY (by rfl) rfl rfl rfl ((show ev _ _ = .agg (aA 2 (EH v.o v.req))from rfl).trans (Fx.yx (y:=EH v.o v.req) (a:=v.o) (b:=v.req) rfl rfl)) aa.1 rfl m17 Tryz.underlying103 EU hnz fun w2 m23 s2 z1 => ?_
 have q:=m17.AB s2
 have m24:=m12.dJ q
 have lW:=m13.dJ q (d.ma)
 have mR:=m14.dJ q (d.pa)
 have nY:=m15.dJ q (d.ra)
 have nT:=m16.dJ q (d.ga)
 have oF:=m18.dJ q
 have nE:=m19.dJ q
 have lH:=m20.dJ q
 have m32:=m21.dJ q
 have oI:=m22.dJ q
 have b2:=E.then s2 (.inl (.inl (.inr (.inr (.inr (.inr (.inr rfl)))))))
 have nG:gN w2 m.ab (m.an+1) (aQ m.ao m.an v.o) (aQ m.ar m.an v.req) Co:=Nh m23
 refine Ln<|bM<|ay<|av ((pf J 12))<|Lv (aD v.req) (aL lH.aH 12)<|av ((pf A 4))<|iQ m32 4 (aD v.req) fun O oJ s3 z2 => ?_
 have pO:aP O A 5 (iM (upd (m.g j) 4 v.req)) 66:=oJ.to (aeF _ _)
 have gI:=gY s3 m32.ty
 have⟨qL,qM,pQ,qW,mW,lY,lX,qX,oZ,mX⟩:=Mi gI m24 lW mR nY nT oF nE lH oI nG
 have P:=b2.then s3 (.inl (.inr hgg))
 refine aC ?_
 -- region 3 draws
 refine jo [0,1,2,3,4,5,6] [4,0,0,4,4,4,3] [(6,0,[0]),(6,3,[3]),(6,4,[4]),(6,5,[5])] fun yP W lQ => ?_
 have s4:Stp O.heap.size O yP:=Sb W
 have⟨rM,vU,qY,qZ,uw,uS,rZ,sP,wP,sQ,sS⟩:=Dt W qL qM pQ qW mW lY lX qX oZ mX pO
 have b4:=P.then s4 (.inr P.size)
 refine Rs ((pt l)) (aL uS.aH 0) ?_
 refine aV ((pt l))<|aV ((pf l 27))<|Rs (.map (some m.gb)) (aL rM.aH 27) ?_
 refine Rs (.agg (aA 2 (EH v.o v.of))) (fA wP.aH 0) ?_
 refine Rs (.agg (aA 5 (iM (upd (m.g j) 4 v.req)))) (fA sS.aH 0) ?_
 refine fQ<|Fx.L.acF (by rfl) rfl rfl rfl ((show ev _ _ = .agg (aA 2 (EH v.o v.of))from rfl).trans (Fx.yx (y:=EH v.o v.of) (a:=v.o) (b:=v.of) rfl rfl)) aa.2 rfl uw Tryz.underlying102 EU Z ejy fjy fun w4 rO s5 z3 => ?_
 have u:=uw.AB s5
 have vV:=rM.dJ u
 have pR:=vU.dJ u (d.mg)
 have vW:=qY.dJ u (d.pg)
 have mU:=qZ.dJ u (d.rg)
 have qN:=uS.dJ u
 have m64:=rZ.dJ u
 have wm:=sP.dJ u
 have uy:=wP.dJ u
 have uz:=sQ.dJ u ((Ne.symm d.ga))
 have sj:=sS.dJ u
 have b5:=b4.then s5 (.inl (.inl (.inr (.inr (.inr (.inr (.inl rfl)))))))
 have ru:gN w4 m.gb m.gn (fun i=>aQ m.g j (upd (m.g j) 4 v.req) i 0) (fun i=>aQ m.g j (upd (m.g j) 4 v.req) i 1) (sJ (aQ m.g j (upd (m.g j) 4 v.req))):=Wj rO rfl rfl
 refine Ln (Rn (⟨.tuple #[],iH Tryz.results180,?_⟩))
 unfold Ni
 exact⟨rfl,{ c:=vV,t:=pR,p:=vW,r:=mU,g:=ru,a:=uz,ne:=⟨d.mp,d.mr,d.mg,d.ma,d.pr,d.pg,d.pa,d.rg,d.ra,d.ga⟩,lB:=h.lB,pB:=h.pB,rB:=h.rB,gB:=h.gB,aB:=h.aB },b5⟩
end
set_option maxRecDepth 20000
set_option linter.unusedVariables false
namespace Rt
def mQ(m:dY)(o r:Int):Bool:=EW m.ao m.ar m.an o r
def Ht(m:dY)(o r:Int):Bool:=EW (fun i=>m.g i 0) (fun i=>m.g i 1) m.gn o r
def qK(m:dY)(o r:Int):Nat:=Wh (fun i=>m.g i 0) (fun i=>m.g i 1) m.gn o r
noncomputable def TG(m:dY)(v:EvM):dY:=qH m (fun x=>bE x v.o v.aX) (m.T.path v.node)
def nO(m:dY)(v:EvM):Int:=if mQ m v.o v.req=true then 14 else if m.T.has v.node=false then 9 else dF m (fun x=>bE x v.o v.aX) (m.T.path v.node)
noncomputable def xk(m:dY)(v:EvM):dY:=TA m (TG m v).R v
noncomputable def TH(m:dY)(v:EvM):dY:=qH m (fun x=>bF x v.o (m.g (qK m v.o v.of) 3)) (m.T.path (m.g (qK m v.o v.of) 2))
def lM(m:dY)(v:EvM):Int:=if mQ m v.o v.req=true then 14 else if Ht m v.o v.of=false\/m.g (qK m v.o v.of) 4≠0 then 12 else dF m (fun x=>bF x v.o (m.g (qK m v.o v.of) 3)) (m.T.path (m.g (qK m v.o v.of) 2))
noncomputable def vL(m:dY)(v:EvM):dY:=Ni m (TH m v).R v (qK m v.o v.of)
def abn(m:dY):Prop := ∀ i,i<m.gn->mQ m (m.g i 0) (m.g i 1)=true
end Rt
theorem Fx.aeG{f:Nat->Value}{x1 x2 e g h i:Operand}{v1 v2 a b c d:Value}(h1:ev f x1=v1)(j:ev f x2=v2)(k:ev f e=a)(l:ev f g=b)(m:ev f h=c)(n:ev f i=d) : [x1,x2,e,g,h,i].map (ev f) = [v1,v2,a,b,c,d]:=by rw[List.map_cons,h1,Fx.acy j k l m n]
theorem Sy.up{w w':World}{B d a b:Nat}{m e:dY}{c:Value}{cap:Array Value}(h:Sy w B d m e a c b cap)(f:Below w.heap.size w w'):Sy w' B d m e a c b cap := { h with s:=fun i g=>h.s i (HZ f g) }
instance {w w':World} {B e a c:Nat} {m f:dY} {d:Value} {cap:Array Value}:Rt.Tr w w' (Sy w B e m f a d c cap) (Sy w' B e m f a d c cap):=⟨fun b h=>h.up b⟩
theorem Wm(m:dY)(d B:Nat)(w:World)(h:jV w B d m)(v:EvM)(M:dh v=true)(hwf:fC v)(hga:abn m) :
 Calls Tryz.prog 164 #[(pt d),.agg (aA 14 (bO v))] w fun e w'=>Ph w B d m (xk m v) (nO m v) e w':=by
 have hC:=h.c
 have hT:=h.t
 have hP:=h.p
 have hR:=h.r
 have hG:=h.g
 have hA:=h.a
 have hN:=h.ne
 have lC:=h.c.lt
 have lT:=h.t.lt
 have lP:=h.p.lt
 have lR:=h.r.lt
 have lG:=h.g.lt
 have lA:=h.a.lt
 obtain⟨a,ha,ho⟩ : ∃ a:Nat,a<6/\v.o=(a:Int)+1:=eY (iy M)
 have hra:bA v=a:=by unfold bA; omega
 have hko:=Da M hwf
 have hvo:1<=v.o/\v.o<=6:=by omega
 refine Kent Tryz.func164 40 ?_
 refine ay<|yM ((pt d)) fun C w1 kV N s1 z1 => ?_
 have⟨m2,m3,m4,m5,m6,m7,V⟩:=jl s1.old hC hT hP hR hG hA (Below.refl w.heap.size w)
 have tL:=gH kV
 have⟨mH,yG,vZ,Ab,yD⟩:=AA kV hC.lt hP.lt hR.lt hG.lt hA.lt
 have vR:=N.lt
 refine pK fun f w2 xH D s2 z2 => ?_
 have⟨m9,m10,m11,m12,m13,m14,m15,W⟩:=lu s2.old m2 m3 m4 m5 m6 m7 N V
 have qO:=jc xH V.size
 have⟨M9,Er,Es,zk,Et,AU⟩:=Gv xH m2.lt m4.lt m5.lt m6.lt m7.lt N.lt
 have zJ:=D.lt
 refine av (.nilFunc)<|av (au 0)<|aC<|ay<|av ((pt f))<|Lv (au v.o) (aL D.aH 0)<|av ((pf f 12))<|Lv (aD v.req) (aL D.aH 12)<|av (.agg (aA 2 (bG (bG (fun q=>if q<1 then au 0 else aD 0) 0 1 (fun _=>au v.o)) 1 1 (fun _=>aD v.req))))<|wC 2 (fun q=>if q<1 then au 0 else aD 0) fun l w3 yT O s3 z3 => ?_
 have⟨m17,m18,m19,m20,m21,m22,m23,m24,X⟩:=Ay s3.old m9 m10 m11 m12 m13 m14 m15 D W
 have Dy:=jc yT W.size
 have⟨abo,abe,alF,Tv,abf,Tw,Tx⟩:=KF yT m9.lt m11.lt m12.lt m13.lt m14.lt m15.lt D.lt
 have KQ:=O.lt
 refine fB O 0 (h1:=(bT (bT (fun jq _=>by show((fun q=>if q<1 then au 0 else aD 0:Nat->Value) jq).oneCell'=true; simp only[]; repeat (first|rfl|split)) (fun _ _=>rfl)) (fun _ _=>rfl))) fun w4 lW s4 z4 => ?_
 have mR:aP w4 l 2 (bG (bG (fun q=>if q<1 then au 0 else aD 0) 0 1 (fun _=>au v.o)) 1 1 (fun _=>aD v.req)) 113:=aU lW
 have nY:aP w4 l 2 (EH v.o v.req) 113:=abl (Fx.zy (by omega) (Fx.oG (j:=0) (by omega) (by omega) rfl)) (Fx.oG (j:=0) (by omega) (by omega) rfl) mR
 have gI:=gY s4 O.ty
 have⟨nT,oF,nE,lH,m32,oI,nG,oJ⟩:=YN gI m17 m18 m19 m20 m21 m22 m23 m24
 have b4:=s4.below X X.size (by omega)
 refine aC<|Ws<|Ws ?_
 -- region 2 draws
 refine jo [0,1,2,3,4,5] [4,0,0,4,4,4] [] fun oU dL gU => ?_
 have⟨pO,qL,qM,pQ,qW,P,lY,lX,qX,Y⟩:=tH dL nT oF nE lH m32 oI nG oJ nY b4
 refine Rs ((pt d)) (aL lY.aH 0) ?_
 refine aV ((pt d))<|aV ((pf d 28))<|Rs (.map (some m.ab)) (aL pO.aH 28) ?_
 refine Rs (.agg (aA 2 (EH v.o v.req))) (fA qX.aH 0) ?_
 rcases Fx.wN m.ao m.ar m.an v.o v.req with ⟨Tg,BO,BP,JN⟩|iP
 ·refine Rs aG (Fx.Iz (z := .bool false) rfl rfl ((show ev _ _ = .agg (aA 2 (EH v.o v.req))from rfl).trans (Fx.yx (y:=EH v.o v.req) (a:=v.o) (b:=v.req) rfl rfl)) hko.1 P Tryz.underlying103 EU (by rfl) BO BP JN rfl) ?_
  refine bM<|aM<|ay<|av (.nilFunc)<|av (au 14)<|aC<|Wr<|sR<|aI (.tuple #[.nilFunc,au 14]) ?_
  have k:nO m v=14:=by unfold nO; exact if_pos (Ag BO BP JN)
  exact⟨⟨.nilFunc,0,#[],by rw[k],rfl,fun A=>absurd (k.symm.trans A) (by first|decide|omega|assumption)⟩,Y⟩
 refine Rs aF (Fx.Iy (z := .bool false) rfl rfl ((show ev _ _ = .agg (aA 2 (EH v.o v.req))from rfl).trans (Fx.yx (y:=EH v.o v.req) (a:=v.o) (b:=v.req) rfl rfl)) hko.1 P Tryz.underlying103 EU (by rfl) iP) ?_
 refine bM<|aK<|Wk<|sN<|Ws<|Ws ?_
 -- region 4 draws
 refine jo [4,0,1,2,3,5,6,7] [4,0,0,4,0,4,3,0] [(6,0,[3,2,1,0]),(6,3,[3]),(6,5,[5]),(7,6,[6])] fun yP fG lQ => ?_
 have⟨oZ,mX,rM,vU,qY,qZ,Q,G,rZ,I⟩:=tH fG pO qL qM pQ qW P lY lX qX Y
 refine aV ((pf f 9))<|Rs ((pt d)) (aL Q.aH 0) ?_
 refine aV ((pt d))<|aV ((pf d 18))<|Rs ((pt m.tp)) (aL oZ.aH 18) ?_
 refine Rs (aD v.node) (aL G.aH 9) ?_
 refine fQ ?_
 by_cases s:(dN.has m.T v.node)=true
 ·refine kg (XY v.node mX) aG (by rw[s])<|Ln<|aV aF<|bM<|aK<|Wk<|sN<|ay<|Lv ((pt d)) (aL Q.aH 0)<|av ((pf f 9))<|Lv (aD v.node) (aL G.aH 9)<|Lv (.func (.func 175) #[] #[(pt f)]) (Fx.mh (us := []) (vs := [(pt f)]) rfl rfl rfl)<|jM (Tt m d B _ (h.up I) v.node v hvo f G) ?_
  rintro e9 H ⟨⟨F,fi1,Gx,he,ho1,hD1⟩,hb1⟩
  refine⟨_,he,?_⟩
  clear he
  have⟨sP,sQ,sS,rO,vV,pR,vW,mU,Z⟩:=Ay hb1 oZ rM vU qY qZ Q G rZ I
  have bw1:Bw H H:=⟨Below.refl _ _⟩
  refine av (.tuple #[F,au (dF m (fun x=>bE x v.o v.aX) (m.T.path (v.node)))])<|av (F)<|av (au (dF m (fun x=>bE x v.o v.aX) (m.T.path (v.node))))<|wC 1 (fun _ => .nilFunc) fun n w6 K S s8 z5 => ?_
  have⟨sU,sV,uD,sZ,b8⟩:=qm s8.old pR vW mU bw1 Z
  have Uq:=jc K Z.size
  have⟨alG,aaB,aaC,aaD,aaE,aaF,alH,aaG⟩:=UL K sP.lt sQ.lt sS.lt rO.lt vV.lt pR.lt vW.lt mU.lt
  have R3:=S.lt
  have kg4:H.heap.size<=n:=by rw[K]; exact bw1.b.size
  refine iQ S 0 F (h1:=ho1) fun w7 yB U z6 => ?_
  have uE:aP w7 n 1 (fun _=>F) 107:=dH yB
  have jN:=gY U S.ty
  have⟨wo,xW,wu⟩:=EK jN sU sV uD
  have yR:=(⟨U.below sZ.b sZ.b.size kg4⟩:Bw H _)
  have J:=U.below b8 b8.size (by omega)
  refine av (au (dF m (fun x=>bE x v.o v.aX) (m.T.path (v.node))))<|aC<|Ws<|ay<|av (au (dF m (fun x=>bE x v.o v.aX) (m.T.path (v.node)))) ?_
  by_cases E:(dF m (fun x=>bE x v.o v.aX) (m.T.path (v.node)))=0
  ·refine Lv aF (jJ E)<|aC<|aK<|Wk<|sN<|ay<|Lv (.func (.func 177) #[] #[(pt n),(pt C),(pt l),(pt f)]) (Fx.mh (us := []) (vs := [(pt n),(pt C),(pt l),(pt f)]) rfl rfl rfl)<|av (.func (.func 177) #[] #[(pt n),(pt C),(pt l),(pt f)])<|av (au 0)<|aC<|Wr<|aI (.tuple #[.func (.func 177) #[] #[(pt n),(pt C),(pt l),(pt f)],au 0]) ?_
   have hD0:=hD1 E
   have hfe:=hD0.e
   subst hfe
   have b01:w.heap.size<=yP.heap.size:=by omega
   have k:nO m v=0:=by unfold nO; rw[if_neg (show ¬ mQ m v.o v.req=true by unfold mQ; rw[rW iP]; decide)]; rw[if_neg (by rw[s]; decide)]; exact E
   exact⟨⟨_,177,#[(pt n),(pt C),(pt l),(pt f)],by rw[k],rfl,fun _=>⟨rfl,⟨_,_,Tryz.func177,rfl,rfl⟩,fun w2 u=>(TD m d B w2 ((h.up J).up u) v M hwf (TG m v).R yP.heap.size w.heap.size _ (by omega) _ (hD0.up (HZ yR.b u)) _ _ _ _ (uE.bZ (Sb u) (Nat.ne_of_lt uE.lt)) (wo.bZ (Sb u) (Nat.ne_of_lt wo.lt)) (wu.bZ (Sb u) (Nat.ne_of_lt wu.lt)) (xW.bZ (Sb u) (Nat.ne_of_lt xW.lt)) ⟨by omega,by omega,by omega⟩ iP (fun i hi e=>by have q9:=hga i hi; obtain⟨j9,hj9,e9,f9⟩:=qJ.1 q9; exact iP j9 hj9 ⟨e9.trans e.1,f9.trans e.2⟩)).mono fun _ _ L=>⟨L.1,L.2.1,L.2.2.mono fun _ hk=>hk⟩⟩⟩,J⟩
  refine Lv aG (mE E)<|aC<|aM<|ay<|av (au (dF m (fun x=>bE x v.o v.aX) (m.T.path (v.node))))<|av (.nilFunc)<|av (au (dF m (fun x=>bE x v.o v.aX) (m.T.path (v.node))))<|aC<|Wr<|sR<|aI (.tuple #[.nilFunc,au (dF m (fun x=>bE x v.o v.aX) (m.T.path (v.node)))]) ?_
  have k:nO m v=dF m (fun x=>bE x v.o v.aX) (m.T.path (v.node)):=by unfold nO; rw[if_neg (show ¬ mQ m v.o v.req=true by unfold mQ; rw[rW iP]; decide)]; rw[if_neg (by rw[s]; decide)]
  exact⟨⟨.nilFunc,0,#[],by rw[k],rfl,fun A=>absurd (k.symm.trans A) (by first|decide|omega|assumption)⟩,J⟩
 rw[Bool.not_eq_true]at s
 refine kg (XY v.node mX) aF (by rw[s])<|Ln<|aV aG<|bM<|aM<|ay<|av (.nilFunc)<|av (au 9)<|aC<|Wr<|sR<|aI (.tuple #[.nilFunc,au 9]) ?_
 have k:nO m v=9:=by unfold nO; rw[if_neg (show ¬ mQ m v.o v.req=true by unfold mQ; rw[rW iP]; decide)]; exact if_pos s
 exact⟨⟨.nilFunc,0,#[],by rw[k],rfl,fun A=>absurd (k.symm.trans A) (by first|decide|omega|assumption)⟩,I⟩
theorem Wn(m:dY)(A B:Nat)(w:World)(h:jV w B A m)(v:EvM)(hv:dh v=true)(hwf:fC v) :
 Calls Tryz.prog 165 #[(pt A),.agg (aA 14 (bO v))] w fun e w'=>Ph w B A m (vL m v) (lM m v) e w':=by
 have hC:=h.c
 have hT:=h.t
 have hP:=h.p
 have hR:=h.r
 have hG:=h.g
 have hA:=h.a
 have hN:=h.ne
 have lC:=h.c.lt
 have lT:=h.t.lt
 have lP:=h.p.lt
 have lR:=h.r.lt
 have lG:=h.g.lt
 have lA:=h.a.lt
 obtain⟨a,ha,ho⟩ : ∃ a:Nat,a<6/\v.o=(a:Int)+1:=eY (iy hv)
 have hra:bA v=a:=by unfold bA; omega
 have ac:=Da hv hwf
 have hvo:1<=v.o/\v.o<=6:=by omega
 refine Kent Tryz.func165 56 ?_
 refine ay<|yM ((pt A)) fun K w1 kV m1 s1 z1 => ?_
 have⟨m2,m4,m5,m6,m7,b1⟩:=qo s1.old hC hP hR hG hA (Below.refl w.heap.size w)
 have tL:=gH kV
 have⟨mH,yG,vZ,Ab,yD⟩:=AA kV hC.lt hP.lt hR.lt hG.lt hA.lt
 have vR:=m1.lt
 refine pK fun n w2 xH E s2 z2 => ?_
 have⟨m9,m11,m12,m13,m14,m15,b2⟩:=jl s2.old m2 m4 m5 m6 m7 m1 b1
 have qO:=jc xH b1.size
 have⟨M9,Er,Es,zk,Et,AU⟩:=Gv xH m2.lt m4.lt m5.lt m6.lt m7.lt m1.lt
 have zJ:=E.lt
 refine av (.nilFunc)<|av (au 0)<|aC<|Ws ?_
 -- region 1 draws
 refine JL (T1:=113) (T2:=113) (T1':=113) (T2':=113) (a1 := .tmp 6) (v1 := .tmp 16) (a2 := .tmp 7) (v2 := .tmp 21) (m1:=2) (m2:=2) (z1:=fun d=>if d<1 then au 0 else aD 0) (y1:=bG (bG (fun d=>if d<1 then au 0 else aD 0) 0 1 (fun _=>au v.o)) 1 1 (fun _=>aD v.req)) (z2:=fun d=>if d<1 then au 0 else aD 0) (y2:=bG (bG (fun d=>if d<1 then au 0 else aD 0) 0 1 (fun _=>au v.o)) 1 1 (fun _=>aD v.of)) (u1 := .agg (aA 2 (bG (bG (fun d=>if d<1 then au 0 else aD 0) 0 1 (fun _=>au v.o)) 1 1 (fun _=>aD v.req)))) (u2 := .agg (aA 2 (bG (bG (fun d=>if d<1 then au 0 else aD 0) 0 1 (fun _=>au v.o)) 1 1 (fun _=>aD v.of)))) 10 11 12 13 [[],[],[],[],[],[],[],[],[],[],[],[],[(0,[10]),(1,[11])],[(0,[10]),(1,[11]),(2,[12])]] [[(2,[0]),(3,[0])],[(2,[1]),(3,[1])],[(2,[2]),(3,[2])],[(2,[3]),(3,[3])],[(2,[4]),(3,[4])],[(3,[5])],[(3,[6])],[(3,[7])],[(3,[8])],[(3,[9])],[(2,[10]),(3,[10])],[(2,[11]),(3,[11])],[(3,[12])],[]] #[(pt n),au v.o,(pf n 12),aD v.req,.agg (aA 2 (bG (bG (fun d=>if d<1 then au 0 else aD 0) 0 1 (fun _=>au v.o)) 1 1 (fun _=>aD v.req))),(pt n),au v.o,(pf n 13),aD v.of,.agg (aA 2 (bG (bG (fun d=>if d<1 then au 0 else aD 0) 0 1 (fun _=>au v.o)) 1 1 (fun _=>aD v.of))),undef,undef,undef,undef] (by kernel_rfl) (by kernel_rfl) (by kernel_rfl) (by kernel_rfl) (by kernel_rfl) (by kernel_rfl) (by kernel_rfl) (by kernel_rfl) (by kernel_rfl) (by kernel_rfl) rfl rfl (by kernel_rfl) (by kernel_rfl) rfl rfl rfl rfl (by kernel_rfl) (by kernel_rfl) (fun k l=>(show ev _ (.tmp 6)=(pt k)from by kernel_rfl)) (fun k l=>(show ev _ (.tmp 7)=(pt l)from by kernel_rfl)) (fun k l=>(show ev _ (.tmp 16) = .agg (aA 2 (bG (bG (fun d=>if d<1 then au 0 else aD 0) 0 1 (fun _=>au v.o)) 1 1 (fun _=>aD v.req)))from by kernel_rfl)) (fun k l=>(show ev _ (.tmp 21) = .agg (aA 2 (bG (bG (fun d=>if d<1 then au 0 else aD 0) 0 1 (fun _=>au v.o)) 1 1 (fun _=>aD v.of)))from by kernel_rfl)) (bJ _ _) (bJ _ _) (bT (bT (fun jq _=>by show((fun d=>if d<1 then au 0 else aD 0:Nat->Value) jq).oneCell'=true; simp only[]; repeat (first|rfl|split)) (fun _ _=>rfl)) (fun _ _=>rfl)) (bT (bT (fun jq _=>by show((fun d=>if d<1 then au 0 else aD 0:Nat->Value) jq).oneCell'=true; simp only[]; repeat (first|rfl|split)) (fun _ _=>rfl)) (fun _ _=>rfl)) (fun k l => ?_) ?_
 ·refine⟨?_,?_,?_,?_,?_,?_,?_,?_,?_,?_,?_,?_,?_,?_,trivial⟩
  ·exact .inr oD
  ·exact .inr (qR (au v.o) fun G u=>bC (x:=bO v) rfl (show ev _ (.tmp 12)=(pt n)from by kernel_rfl) (by kernel_rfl) (E.aH.below u (by have:=E.lt; omega)) (i:=0) (by omega) (by omega) rfl)
  ·exact .inr oD
  ·exact .inr (qR (aD v.req) fun G u=>bC (x:=bO v) rfl (show ev _ (.tmp 14)=(pf n 12)from by kernel_rfl) (by kernel_rfl) (E.aH.below u (by have:=E.lt; omega)) (i:=12) (by omega) (by omega) rfl)
  ·exact .inr (qR (.agg (aA 2 (bG (bG (fun d=>if d<1 then au 0 else aD 0) 0 1 (fun _=>au v.o)) 1 1 (fun _=>aD v.req)))) fun G u=>fP (vs := [(0,au v.o),(1,aD v.req)]) (places := #[(0,1),(1,1)]) (m:=2) (x:=fun d=>if d<1 then au 0 else aD 0) rfl (Fx.Kz (show ev _ (.tmp 13)=au v.o from by kernel_rfl) (show ev _ (.tmp 15)=aD v.req from by kernel_rfl)) Tryz.underlying113 (by kernel_rfl) (by kernel_rfl) (by rw[bD (off:=0) (s:=1) (y:=fun _=>au v.o) (by kernel_rfl) (cells_one (by rfl)) (by rfl)]; rw[bD (off:=1) (s:=1) (y:=fun _=>aD v.req) (by kernel_rfl) (cells_one (by rfl)) (by rfl)]; rfl))
  ·exact .inr oD
  ·exact .inr (qR (au v.o) fun G u=>bC (x:=bO v) rfl (show ev _ (.tmp 17)=(pt n)from by kernel_rfl) (by kernel_rfl) (E.aH.below u (by have:=E.lt; omega)) (i:=0) (by omega) (by omega) rfl)
  ·exact .inr oD
  ·exact .inr (qR (aD v.of) fun G u=>bC (x:=bO v) rfl (show ev _ (.tmp 19)=(pf n 13)from by kernel_rfl) (by kernel_rfl) (E.aH.below u (by have:=E.lt; omega)) (i:=13) (by omega) (by omega) rfl)
  ·exact .inr (qR (.agg (aA 2 (bG (bG (fun d=>if d<1 then au 0 else aD 0) 0 1 (fun _=>au v.o)) 1 1 (fun _=>aD v.of)))) fun G u=>fP (vs := [(0,au v.o),(1,aD v.of)]) (places := #[(0,1),(1,1)]) (m:=2) (x:=fun d=>if d<1 then au 0 else aD 0) rfl (Fx.Kz (show ev _ (.tmp 18)=au v.o from by kernel_rfl) (show ev _ (.tmp 20)=aD v.of from by kernel_rfl)) Tryz.underlying113 (by kernel_rfl) (by kernel_rfl) (by rw[bD (off:=0) (s:=1) (y:=fun _=>au v.o) (by kernel_rfl) (cells_one (by rfl)) (by rfl)]; rw[bD (off:=1) (s:=1) (y:=fun _=>aD v.of) (by kernel_rfl) (cells_one (by rfl)) (by rfl)]; rfl))
  ·exact .inl rfl
  ·exact .inl rfl
  ·exact .inl rfl
  exact .inl rfl
 rintro k l w3 S P H I ne1 m16 m17 hb1
 have aek:A≠k:=Nat.ne_of_lt (Nat.lt_of_lt_of_le (m9.lt) H)
 have abp:m.pb≠k:=Nat.ne_of_lt (Nat.lt_of_lt_of_le (m11.lt) H)
 have abq:m.rb≠k:=Nat.ne_of_lt (Nat.lt_of_lt_of_le (m12.lt) H)
 have alI:m.gb≠k:=Nat.ne_of_lt (Nat.lt_of_lt_of_le (m13.lt) H)
 have abr:m.ab≠k:=Nat.ne_of_lt (Nat.lt_of_lt_of_le (m14.lt) H)
 have alJ:K≠k:=Nat.ne_of_lt (Nat.lt_of_lt_of_le (m15.lt) H)
 have aej:n≠k:=Nat.ne_of_lt (Nat.lt_of_lt_of_le (E.lt) H)
 have apm:A≠l:=Nat.ne_of_lt (Nat.lt_of_lt_of_le (m9.lt) I)
 have alK:m.pb≠l:=Nat.ne_of_lt (Nat.lt_of_lt_of_le (m11.lt) I)
 have alL:m.rb≠l:=Nat.ne_of_lt (Nat.lt_of_lt_of_le (m12.lt) I)
 have alM:m.gb≠l:=Nat.ne_of_lt (Nat.lt_of_lt_of_le (m13.lt) I)
 have abt:m.ab≠l:=Nat.ne_of_lt (Nat.lt_of_lt_of_le (m14.lt) I)
 have abu:K≠l:=Nat.ne_of_lt (Nat.lt_of_lt_of_le (m15.lt) I)
 have apn:n≠l:=Nat.ne_of_lt (Nat.lt_of_lt_of_le (E.lt) I)
 have⟨m18,m20,m21,m22,m23,m24,lW,b3⟩:=lu hb1 m9 m11 m12 m13 m14 m15 E b2
 have H:w.heap.size<=k:=Nat.le_trans b2.size H
 have KQ:=m16.lt
 have I:w.heap.size<=l:=Nat.le_trans b2.size I
 have R3:=m17.lt
 have q1:S 2=(pt K):=by rw[P]; kernel_rfl
 have q2:S 3=(pt n):=by rw[P]; kernel_rfl
 have q3:S 4 = .nilFunc:=by rw[P]; kernel_rfl
 have q4:S 5=au 0:=by rw[P]; kernel_rfl
 have q5:S 6=(pt k):=by rw[P]; kernel_rfl
 have q6:S 7=(pt l):=by rw[P]; kernel_rfl
 clear P
 refine sN<|Ws<|Ws ?_
 -- region 2 draws
 refine jo [0,1,2,3,4,5] [4,0,0,4,4,4] [] fun oU dL gU => ?_
 have⟨mR,nT,oF,nE,lH,m32,oI,nG,oJ,b4⟩:=tH dL m18 m20 m21 m22 m23 m24 lW m16 m17 b3
 refine Rs ((pt A)) (aL m32.aH 0 (ha:=q1)) ?_
 refine aV ((pt A))<|aV ((pf A 28))<|Rs (.map (some m.ab)) (aL mR.aH 28) ?_
 refine Rs (.agg (aA 2 (bG (bG (fun d=>if d<1 then au 0 else aD 0) 0 1 (fun _=>au v.o)) 1 1 (fun _=>aD v.req)))) (fA nG.aH 0 (ha:=q5)) ?_
 rcases Fx.wN m.ao m.ar m.an v.o v.req with ⟨Tg,BO,BP,JN⟩|iP
 ·refine Rs aG (Fx.Iz (z := .bool false) rfl rfl ((show ev _ _ = .agg (aA 2 (bG (bG (fun d=>if d<1 then au 0 else aD 0) 0 1 (fun _=>au v.o)) 1 1 (fun _=>aD v.req)))from rfl).trans (Fx.yx (y:=bG (bG (fun d=>if d<1 then au 0 else aD 0) 0 1 (fun _=>au v.o)) 1 1 (fun _=>aD v.req)) (a:=v.o) (b:=v.req) (Fx.zy (by omega) (Fx.oG (j:=0) (by omega) (by omega) rfl)) (Fx.oG (j:=0) (by omega) (by omega) rfl))) ac.1 lH Tryz.underlying103 EU (by rfl) BO BP JN rfl) ?_
  refine bM<|aM<|ay<|av (.nilFunc)<|av (au 14)<|aC<|Wr<|sR<|aI (.tuple #[.nilFunc,au 14]) ?_
  have C:lM m v=14:=by unfold lM; exact if_pos (Ag BO BP JN)
  exact⟨⟨.nilFunc,0,#[],by rw[C],rfl,fun L=>absurd (C.symm.trans L) (by first|decide|omega|assumption)⟩,b4⟩
 refine Rs aF (Fx.Iy (z := .bool false) rfl rfl ((show ev _ _ = .agg (aA 2 (bG (bG (fun d=>if d<1 then au 0 else aD 0) 0 1 (fun _=>au v.o)) 1 1 (fun _=>aD v.req)))from rfl).trans (Fx.yx (y:=bG (bG (fun d=>if d<1 then au 0 else aD 0) 0 1 (fun _=>au v.o)) 1 1 (fun _=>aD v.req)) (a:=v.o) (b:=v.req) (Fx.zy (by omega) (Fx.oG (j:=0) (by omega) (by omega) rfl)) (Fx.oG (j:=0) (by omega) (by omega) rfl))) ac.1 lH Tryz.underlying103 EU (by rfl) iP) ?_
 refine bM<|aK<|Wk<|sN<|Ws ?_
 -- region 4 draws
 refine jo [0,1,2,3,4,5,6,7,8,9,10,11] [1,0,0,1,1,1,0,0,0,2,3,0] [(10,0,[0]),(10,3,[3]),(10,4,[4]),(10,5,[5]),(10,9,[9]),(11,9,[9]),(11,10,[10])] fun yP fG lQ => ?_
 have⟨U,qM,pQ,V,mW,W,lX,qX,X,Y⟩:=tH fG mR nT oF nE lH m32 oI nG oJ b4
 refine Rd (v:=(pt A)) (by rfl) (by rfl) (sO _) (fun G u=>bC (x:=fun _=>(pt A)) rfl q1 (by kernel_rfl) (W.aH.below u (by have:=W.lt; omega)) (i:=0) (by omega) (by omega) rfl) ?_
 refine aV ((pt A))<|aV ((pf A 27))<|Rd (v := .map (some m.gb)) (by rfl) (by rfl) (sO _) (fun G u=>bC (x:=uo m) rfl rfl (by kernel_rfl) (U.aH.below u (by have:=U.lt; omega)) (i:=27) (by omega) (by omega) rfl) ?_
 refine Rd (v := .agg (aA 2 (bG (bG (fun d=>if d<1 then au 0 else aD 0) 0 1 (fun _=>au v.o)) 1 1 (fun _=>aD v.of)))) (by rfl) (by rfl) (sO _) (fun G u=>dZ (x:=bG (bG (fun d=>if d<1 then au 0 else aD 0) 0 1 (fun _=>au v.o)) 1 1 (fun _=>aD v.of)) (y:=bG (bG (fun d=>if d<1 then au 0 else aD 0) 0 1 (fun _=>au v.o)) 1 1 (fun _=>aD v.of)) rfl q6 (by kernel_rfl) (by kernel_rfl) (X.aH.below u (by have:=X.lt; omega)) (i:=0) (by omega) (by omega) (fun j _=>by rw[Nat.zero_add])) ?_
 rcases Fx.wN (fun i=>m.g i 0) (fun i=>m.g i 1) m.gn v.o v.of with ⟨f,Q,M,N⟩|Yg
 ·refine Rd (v := .tuple #[.agg (aA 5 (iM (m.g f))),.bool true]) (by rfl) (by rfl) (sO _) (fun G u=>Fx.NV (z := .agg (aA 5 (fun d=>if d<1 then au 0 else if d<3 then aD 0 else if d<4 then au 0 else aD 0))) rfl rfl ((show ev _ _ = .agg (aA 2 (bG (bG (fun d=>if d<1 then au 0 else aD 0) 0 1 (fun _=>au v.o)) 1 1 (fun _=>aD v.of)))from rfl).trans (Fx.yx (y:=bG (bG (fun d=>if d<1 then au 0 else aD 0) 0 1 (fun _=>au v.o)) 1 1 (fun _=>aD v.of)) (a:=v.o) (b:=v.of) (Fx.zy (by omega) (Fx.oG (j:=0) (by omega) (by omega) rfl)) (Fx.oG (j:=0) (by omega) (by omega) rfl))) ac.2 (V.up u) Tryz.underlying102 EU (by kernel_rfl) Q M N rfl) ?_
  refine aV (.tuple #[.agg (aA 5 (iM (m.g f))),.bool true])<|aV (.agg (aA 5 (iM (m.g f))))<|aV aG<|zC<|wC 5 (fun d=>if d<1 then au 0 else if d<3 then aD 0 else if d<4 then au 0 else aD 0) fun D w4 eg5 mX s6 z3 => ?_
  have⟨rM,qY,qZ,uw,uS,rZ,sP,wP,sQ,b6⟩:=tH s6.old U qM pQ V mW W lX qX X Y
  have lg5:=jc eg5 Y.size
  have⟨alN,alO,alP,alQ,alR,alS,alT,alU,alV⟩:=UM eg5 U.lt qM.lt pQ.lt V.lt mW.lt W.lt lX.lt qX.lt X.lt
  have tg5:=mX.lt
  refine Ln ⟨s6.old,?_⟩
  refine fQ<|fB mX 0 (h1:=(fun j hj=>by rcases j with _|_|_|_|_|_|_|_|_|_|_|_|_|_|j <;> first|rfl|omega)) fun w5 sS s7 z4 => ?_
  have rO:aP w5 D 5 (iM (m.g f)) 66:=aU sS
  have ad:aP w5 D 5 (iM (m.g f)) 66:=rO
  have gI:=gY s7 mX.ty
  have⟨pR,mU,qN,m64,wm,uy,uz,sj,ru⟩:=YO gI rM qY qZ uw uS rZ sP wP sQ
  have b7:=s7.below b6 b6.size (by omega)
  refine Ln<|aV aG<|bM<|Ws<|ay<|av aG<|av aF<|av aF<|av ((pf D 4))<|Lv (aD ((m.g f) 4)) (aL ad.aH 4) ?_
  by_cases Qm:((m.g f) 4)=0
  ·refine Lv aF (jJ Qm)<|av aF<|aC<|aK<|Wk<|sN<|ay<|Lv ((pt A)) (aL uy.aH 0 (ha:=q1))<|av ((pf D 2))<|Lv (aD ((m.g f) 2)) (aL ad.aH 2)<|Lv (.func (.func 178) #[] #[(pt n),(pt D)]) (Fx.mh (us := []) (vs := [(pt n),(pt D)]) rfl rfl (Fx.args2 q2 rfl))<|jM (Tz m A B _ (h.up b7) ((m.g f) 2) v (m.g f) hvo n D uz ad) ?_
   rintro e9 w6 ⟨⟨aa,fi1,Gx,he,ho1,hD1⟩,F⟩
   refine⟨_,he,?_⟩
   clear he
   have⟨sU,uD,sZ,yB,uE,wQ,wF,wR,vX,uT,b8⟩:=Dt F pR mU qN m64 wm uy uz sj ru ad b7
   have bw1:Bw w6 w6:=⟨Below.refl _ _⟩
   refine av (.tuple #[aa,au (dF m (fun x=>bF x v.o (m.g f 3)) (m.T.path ((m.g f) 2)))])<|av (aa)<|av (au (dF m (fun x=>bF x v.o (m.g f 3)) (m.T.path ((m.g f) 2))))<|wC 1 (fun _ => .nilFunc) fun O w7 Z9 tN s9 z5 => ?_
   have⟨xG,xY,yS,Ci,AZ,zN,b9⟩:=jl s9.old wQ wF wR vX uT bw1 b8
   have lg6:=jc Z9 b8.size
   have⟨alW,alX,alY,alZ,ama,amb,amc,amd,ame,amf⟩:=XD Z9 sU.lt uD.lt sZ.lt yB.lt uE.lt wQ.lt wF.lt wR.lt vX.lt uT.lt
   have tg6:=tN.lt
   have kg6:w6.heap.size<=O:=by rw[Z9]; exact bw1.b.size
   refine iQ tN 0 aa (h1:=ho1) fun w8 zO s10 z6 => ?_
   have xL:aP w8 O 1 (fun _=>aa) 107:=dH zO
   have jN:=gY s10 tN.ty
   have⟨vo,sw,og,nJ,oN⟩:=qp jN xG xY yS Ci AZ
   have oh:=(⟨s10.below zN.b zN.b.size kg6⟩:Bw w6 _)
   have b10:=s10.below b9 b9.size (by omega)
   refine av (au (dF m (fun x=>bF x v.o (m.g f 3)) (m.T.path ((m.g f) 2))))<|aC<|Ws<|ay<|av (au (dF m (fun x=>bF x v.o (m.g f 3)) (m.T.path ((m.g f) 2)))) ?_
   by_cases Z:(dF m (fun x=>bF x v.o (m.g f 3)) (m.T.path ((m.g f) 2)))=0
   ·refine Lv aF (jJ Z)<|aC<|aK<|Wk<|sN<|ay<|Lv (.func (.func 180) #[] #[(pt O),(pt K),(pt k),(pt n),(pt D),(pt l)]) (Fx.mh (us := []) (vs := [(pt O),(pt K),(pt k),(pt n),(pt D),(pt l)]) rfl rfl (Fx.aeG rfl q1 q5 q2 rfl q6))<|av (.func (.func 180) #[] #[(pt O),(pt K),(pt k),(pt n),(pt D),(pt l)])<|av (au 0)<|aC<|Wr<|aI (.tuple #[.func (.func 180) #[] #[(pt O),(pt K),(pt k),(pt n),(pt D),(pt l)],au 0]) ?_
    have J:qK m v.o v.of=f:=Ah h.g.inj Q M N
    have hD0:=hD1 Z
    have hfe:=hD0.e
    subst hfe
    have em:vL m v=Ni m (qH m (fun x=>bF x v.o (m.g f 3)) (m.T.path (m.g f 2))).R v f:=by unfold vL TH; rw[J]
    rw[em]
    have C:lM m v=0:=by unfold lM; rw[if_neg (show ¬ mQ m v.o v.req=true by unfold mQ; rw[rW iP]; decide)]; rw[if_neg (show ¬ (Ht m v.o v.of=false\/m.g (qK m v.o v.of) 4≠0) by rw[J,show Ht m v.o v.of=true from Ag Q M N]; rintro (q|q) <;> first|(exact absurd q (by decide))|omega),J]; exact Z
    exact⟨⟨_,180,#[(pt O),(pt K),(pt k),(pt n),(pt D),(pt l)],by rw[C],rfl,fun _=>⟨rfl,⟨_,_,Tryz.func180,rfl,rfl⟩,fun w2 F=>(TF m A B w2 ((h.up b10).up F) v hv hwf _ w5.heap.size w.heap.size _ (by omega) _ (hD0.up (HZ oh.b F)) f _ _ _ _ _ _ (xL.bZ (Sb F) (Nat.ne_of_lt xL.lt)) (vo.bZ (Sb F) (Nat.ne_of_lt vo.lt)) (og.bZ (Sb F) (Nat.ne_of_lt og.lt)) (sw.bZ (Sb F) (Nat.ne_of_lt sw.lt)) (oN.bZ (Sb F) (Nat.ne_of_lt oN.lt)) (nJ.bZ (Sb F) (Nat.ne_of_lt nJ.lt)) lg5 ⟨by omega,by omega,by omega,by omega,by omega⟩ iP Q M N).mono fun _ _ hc=>⟨hc.1,hc.2.1,hc.2.2.mono fun _ hk=>hk⟩⟩⟩,b10⟩
   refine Lv aG (mE Z)<|aC<|aM<|ay<|av (au (dF m (fun x=>bF x v.o (m.g f 3)) (m.T.path ((m.g f) 2))))<|av (.nilFunc)<|av (au (dF m (fun x=>bF x v.o (m.g f 3)) (m.T.path ((m.g f) 2))))<|aC<|Wr<|sR<|aI (.tuple #[.nilFunc,au (dF m (fun x=>bF x v.o (m.g f 3)) (m.T.path ((m.g f) 2)))]) ?_
   have J:qK m v.o v.of=f:=Ah h.g.inj Q M N
   have C:lM m v=dF m (fun x=>bF x v.o (m.g f 3)) (m.T.path ((m.g f) 2)):=by unfold lM; rw[if_neg (show ¬ mQ m v.o v.req=true by unfold mQ; rw[rW iP]; decide)]; rw[if_neg (show ¬ (Ht m v.o v.of=false\/m.g (qK m v.o v.of) 4≠0) by rw[J,show Ht m v.o v.of=true from Ag Q M N]; rintro (q|q) <;> first|(exact absurd q (by decide))|omega),J]
   exact⟨⟨.nilFunc,0,#[],by rw[C],rfl,fun L=>absurd (C.symm.trans L) (by first|decide|omega|assumption)⟩,b10⟩
  refine Lv aG (mE Qm)<|av aG<|aC<|aM<|ay<|av (.nilFunc)<|av (au 12)<|aC<|Wr<|sR<|aI (.tuple #[.nilFunc,au 12]) ?_
  have J:qK m v.o v.of=f:=Ah h.g.inj Q M N
  have C:lM m v=12:=by unfold lM; rw[if_neg (show ¬ mQ m v.o v.req=true by unfold mQ; rw[rW iP]; decide)]; exact if_pos (.inr (by rw[J]; omega))
  exact⟨⟨.nilFunc,0,#[],by rw[C],rfl,fun L=>absurd (C.symm.trans L) (by first|decide|omega|assumption)⟩,b7⟩
 refine Rd (v := .tuple #[.agg (aA 5 (fun d=>if d<1 then au 0 else if d<3 then aD 0 else if d<4 then au 0 else aD 0)),.bool false]) (by rfl) (by rfl) (sO _) (fun G u=>Fx.NU (z := .agg (aA 5 (fun d=>if d<1 then au 0 else if d<3 then aD 0 else if d<4 then au 0 else aD 0))) rfl rfl ((show ev _ _ = .agg (aA 2 (bG (bG (fun d=>if d<1 then au 0 else aD 0) 0 1 (fun _=>au v.o)) 1 1 (fun _=>aD v.of)))from rfl).trans (Fx.yx (y:=bG (bG (fun d=>if d<1 then au 0 else aD 0) 0 1 (fun _=>au v.o)) 1 1 (fun _=>aD v.of)) (a:=v.o) (b:=v.of) (Fx.zy (by omega) (Fx.oG (j:=0) (by omega) (by omega) rfl)) (Fx.oG (j:=0) (by omega) (by omega) rfl))) ac.2 (V.up u) Tryz.underlying102 EU (by kernel_rfl) Yg) ?_
 refine aV (.tuple #[.agg (aA 5 (fun d=>if d<1 then au 0 else if d<3 then aD 0 else if d<4 then au 0 else aD 0)),.bool false])<|aV (.agg (aA 5 (fun d=>if d<1 then au 0 else if d<3 then aD 0 else if d<4 then au 0 else aD 0)))<|aV aF<|zC<|wC 5 (fun d=>if d<1 then au 0 else if d<3 then aD 0 else if d<4 then au 0 else aD 0) fun g7 w9 eg7 pV s11 z7 => ?_
 have b11:=aY s11.old Y
 have lg7:=jc eg7 Y.size
 have⟨agB,agC,agD,agE,agF,agG,agH,agI,agJ⟩:=UM eg7 U.lt qM.lt pQ.lt V.lt mW.lt W.lt lX.lt qX.lt X.lt
 have tg7:=pV.lt
 refine Ln ⟨s11.old,?_⟩
 refine fQ<|fB pV 0 (h1:=(fun j hj=>by rcases j with _|_|_|_|_|_|_|_|_|_|_|_|_|_|j <;> first|rfl|omega)) fun rJ oO s12 z8 => ?_
 have wU:aP rJ g7 5 (fun d=>if d<1 then au 0 else if d<3 then aD 0 else if d<4 then au 0 else aD 0) 66:=aU oO
 have b12:=s12.below b11 b11.size (by omega)
 refine Ln<|aV aF<|bM<|Ws<|ay<|av aF<|av aG<|av aG<|cB<|cB<|cB<|av aG<|aC<|aM<|ay<|av (.nilFunc)<|av (au 12)<|aC<|Wr<|sR<|aI (.tuple #[.nilFunc,au 12]) ?_
 have C:lM m v=12:=by unfold lM; rw[if_neg (show ¬ mQ m v.o v.req=true by unfold mQ; rw[rW iP]; decide)]; exact if_pos (.inl (rW Yg))
 exact⟨⟨.nilFunc,0,#[],by rw[C],rfl,fun L=>absurd (C.symm.trans L) (by first|decide|omega|assumption)⟩,b12⟩
set_option maxRecDepth 20000
set_option linter.unusedVariables false
namespace Rt
noncomputable def iZ(m:dY)(v:EvM):dY:=if v.kind=1 then F4 m v else if v.kind=2 then zi m v else if v.kind=3 then xk m v else if v.kind=4 then vL m v else if v.kind=5 then JC m v else if v.kind=6 then JD m v else Ep m v
def gT(m:dY)(v:EvM):Int:=if v.kind=1 then mP m v else if v.kind=2 then mO m v else if v.kind=3 then nO m v else if v.kind=4 then lM m v else if v.kind=5 then nN m v else if v.kind=6 then 0 else 0
def cZ(m:dY)(v:EvM):Int:=if dh v=false then 1 else if ng m.known v=true then 14 else if eO m.known v=false then 13 else if m.inn (bA v)=false\/m.left (bA v)=true then 10 else gT m v
structure QlK(m:dY):Prop where
 own : ∀ a,a<6->0<=m.own a/\m.own a<=1000
 row : ∀ i,i<m.T.n -> ∀ p,p<54->0<=m.R i p/\m.R i p<=1125899906842624
 ga:abn m
 kn:EO m.known
def kfn(k:Nat):Nat:=if k=1 then 162 else if k=2 then 163 else if k=3 then 164 else if k=4 then 165 else if k=5 then 166 else if k=6 then 167 else 168
def EX:Nat->Value:=fun p=>if p=0 then .nilFunc else .func (.func (kfn p)) #[] #[]
theorem Wp{p:Nat}(h:1<=p):EX p = .func (.func (kfn p)) #[] #[]:=if_neg (by omega)
end Rt
theorem aeK {k : Nat} (h1 : 1 ≤ k) (b : k ≤ 7) : ∃ a c, Tryz.prog.funcs[kfn k]? = some a ∧ (a.name == "runtime.NumGoroutine") = false ∧ a.body = some c := by
 rcases(show k=1\/k=2\/k=3\/k=4\/k=5\/k=6\/k=7 by omega)with rfl|rfl|rfl|rfl|rfl|rfl|rfl
 ·exact⟨_,_,Tryz.func162,rfl,rfl⟩
 ·exact⟨_,_,Tryz.func163,rfl,rfl⟩
 ·exact⟨_,_,Tryz.func164,rfl,rfl⟩
 ·exact⟨_,_,Tryz.func165,rfl,rfl⟩
 ·exact⟨_,_,Tryz.func166,rfl,rfl⟩
 ·exact⟨_,_,Tryz.func167,rfl,rfl⟩
 exact⟨_,_,Tryz.func168,rfl,rfl⟩
theorem Sy.low{w:World}{B f b c d:Nat}{m g:dY}{e:Value}{cap:Array Value}(h:Sy w B f m g b e d cap)(i:c<=b):Sy w B f m g c e d cap := { h with s:=fun n j=>(h.s n j).mono fun _ _ a=>⟨a.1,a.2.1,a.2.2.mono fun k l=>l.imp id (Nat.le_trans i)⟩ }
theorem Wq(m:dY)(a B:Nat)(w:World)(h:jV w B a m)(v:EvM)(d:dh v=true)(f:fC v)(e:QlK m)(k:Nat)(l:v.kind=(k:Int))(j:1<=k/\k<=7) :
 Calls Tryz.prog (kfn k) #[(pt a),.agg (aA 14 (bO v))] w (Ph w B a m (iZ m v) (gT m v)):=by
 rcases(show k=1\/k=2\/k=3\/k=4\/k=5\/k=6\/k=7 by omega)with rfl|rfl|rfl|rfl|rfl|rfl|rfl
 ·have c:v.kind=1:=by omega
  rw[show iZ m v=F4 m v by unfold iZ; rw[if_pos (by omega)],show gT m v=mP m v by unfold gT; rw[if_pos (by omega)]]
  exact Wd m a B w h v d e.own
 ·have c:v.kind=2:=by omega
  rw[show iZ m v=zi m v by unfold iZ; rw[if_neg (by omega),if_pos (by omega)],show gT m v=mO m v by unfold gT; rw[if_neg (by omega),if_pos (by omega)]]
  exact SL m a B w h v d c e.row
 ·have c:v.kind=3:=by omega
  rw[show iZ m v=xk m v by unfold iZ; rw[if_neg (by omega),if_neg (by omega),if_pos (by omega)],show gT m v=nO m v by unfold gT; rw[if_neg (by omega),if_neg (by omega),if_pos (by omega)]]
  exact Wm m a B w h v d f e.ga
 ·have c:v.kind=4:=by omega
  rw[show iZ m v=vL m v by unfold iZ; rw[if_neg (by omega),if_neg (by omega),if_neg (by omega),if_pos (by omega)],show gT m v=lM m v by unfold gT; rw[if_neg (by omega),if_neg (by omega),if_neg (by omega),if_pos (by omega)]]
  exact Wn m a B w h v d f
 ·have c:v.kind=5:=by omega
  rw[show iZ m v=JC m v by unfold iZ; rw[if_neg (by omega),if_neg (by omega),if_neg (by omega),if_neg (by omega),if_pos (by omega)],show gT m v=nN m v by unfold gT; rw[if_neg (by omega),if_neg (by omega),if_neg (by omega),if_neg (by omega),if_pos (by omega)]]
  exact VR m a B w h v d c
 ·have c:v.kind=6:=by omega
  rw[show iZ m v=JD m v by unfold iZ; rw[if_neg (by omega),if_neg (by omega),if_neg (by omega),if_neg (by omega),if_neg (by omega),if_pos (by omega)],show gT m v=0 by unfold gT; rw[if_neg (by omega),if_neg (by omega),if_neg (by omega),if_neg (by omega),if_neg (by omega),if_pos (by omega)]]
  obtain⟨b,g,i⟩:=FK d c
  exact VT m a B w h v d b g i
 have c:v.kind=7:=by omega
 rw[show iZ m v=Ep m v by unfold iZ; rw[if_neg (by omega),if_neg (by omega),if_neg (by omega),if_neg (by omega),if_neg (by omega),if_neg (by omega)],show gT m v=0 by unfold gT; rw[if_neg (by omega),if_neg (by omega),if_neg (by omega),if_neg (by omega),if_neg (by omega),if_neg (by omega)]]
 exact SV m a B w h v d
theorem Nj(m:dY)(b B:Nat)(w:World)(h:jV w B b m)(v:EvM)(n:fC v)(R:QlK m)(hB:1<=B)(N:iF w 0 0 8 EX) :
 Calls Tryz.prog 40 #[(pt b),.agg (aA 14 (bO v))] w fun e w'=>Ph w B b m (iZ m v) (cZ m v) e w':=by
 have M:=h.c
 have hT:=h.t
 have hP:=h.p
 have hR:=h.r
 have hG:=h.g
 have hA:=h.a
 have hN:=h.ne
 have lC:=h.c.lt
 have lT:=h.t.lt
 have lP:=h.p.lt
 have lR:=h.r.lt
 have lG:=h.g.lt
 have lA:=h.a.lt
 obtain⟨s,Q⟩ : ∃ s:Nat,v.kind=(s:Int):=⟨v.kind.toNat,by have:=n.kind; omega⟩
 have O:Kr m.known:=fun i hi=>by have:=R.kn i hi; exact⟨by omega,by omega⟩
 refine Kent Tryz.func40 55 ?_
 refine ay<|pK fun y w1 A F s1 z1 => ?_
 have⟨m2,m8,H⟩:=jk s1.old M N (Below.refl w.heap.size w)
 have tL:=gH A
 have⟨mH,yG,vZ,Ab,yD⟩:=AA A M.lt hP.lt hR.lt hG.lt hA.lt
 have Ja:0≠y:=by rw[A]; exact Nat.ne_of_lt (N.lt (by omega))
 have vR:=F.lt
 refine av (.nilFunc)<|av (au 0)<|aC<|Ws<|Wb<|ay<|av ((pt b))<|Lv aF (Fx.nQ rfl rfl rfl (by kernel_rfl))<|av aF<|aC<|aK<|ay<|Lv (.agg (aA 14 (bO v))) (fA F.aH 0) ?_
 by_cases k:(dh v)=true
 ·have D:dh v=true:=k
  obtain⟨a,ha,ho⟩ : ∃ a:Nat,a<6/\v.o=(a:Int)+1:=eY (iy D)
  have E:bA v=a:=by unfold bA; omega
  have hkr:=lV D
  refine dA (FW v _ n) aG (by rw[k]) ?_
  intro w2 hb1
  have⟨m9,m15,m16,b2⟩:=mF hb1 m2 m8 F H
  refine av aF<|av aF<|aC<|aK<|Ws ?_
  -- region 5 draws
  refine jo [0,1,2,3,4,5,6] [0,0,0,4,4,3,0] [(5,3,[3]),(5,4,[4]),(6,5,[5])] fun oU dL gU => ?_
  have⟨S,m23,T,I⟩:=mF dL m9 m15 m16 b2
  refine aV ((pt b))<|aV ((pt b))<|aV ((pf b 12))<|Rs (.agg (aA 6 (rv .u64 m.known))) (fA S.aH 12 (fun j hj=>qc (p:=j) (by omega) (by omega))) ?_
  refine Rs (.agg (aA 14 (bO v))) (fA T.aH 0) ?_
  refine fQ ?_
  by_cases l:(ng m.known v)=true
  ·refine dA (SH m.known v _ n) aG (by rw[l]) ?_
   intro w3 hb2
   have b4:=aY hb2 I
   refine Ln<|aV aG<|bM<|aM<|ay<|av (.nilFunc)<|av (au 14)<|aC<|Wr<|bK<|sR<|aI (.tuple #[.nilFunc,au 14]) ?_
   have d:cZ m v=14:=by unfold cZ; rw[if_neg (by rw[k]; decide)]; exact if_pos l
   exact⟨⟨.nilFunc,0,#[],by rw[d],rfl,fun f=>absurd (d.symm.trans f) (by first|decide|omega|assumption)⟩,b4⟩
  rw[Bool.not_eq_true]at l
  refine dA (SH m.known v _ n) aF (by rw[l]) ?_
  intro w4 hb3
  have⟨oI,pQ,qW,b5⟩:=mF hb3 S m23 T I
  refine Ln<|aV aF<|bM<|aK<|Ws ?_
  -- region 7 draws
  refine jo [0,1,2,3,4,5,6,7] [0,0,0,4,4,3,0,0] [(5,3,[3]),(5,4,[4]),(6,5,[5]),(7,5,[5])] fun yP fG lQ => ?_
  have⟨U,rM,V,J⟩:=mF fG oI pQ qW b5
  refine aV ((pt b))<|aV ((pt b))<|aV ((pf b 12))<|Rs (.agg (aA 6 (rv .u64 m.known))) (fA U.aH 12 (fun j hj=>qc (p:=j) (by omega) (by omega))) ?_
  refine Rs (.agg (aA 14 (bO v))) (fA V.aH 0) ?_
  refine fQ ?_
  by_cases q:(eO m.known v)=true
  ·refine dA (M7 m.known v _ n O) aG (by rw[q]) ?_
   intro w5 hb4
   have⟨qY,wP,sQ,b7⟩:=mF hb4 U rM V J
   refine Ln<|aV aF<|aV aF<|bM<|aK<|Ws<|Ws ?_
   -- region 9 draws
   refine jo [0,1,4,5,2,3,6,7,8,9] [0,0,4,0,0,0,0,4,0,0] [] fun Pb kF zH => ?_
   have⟨G,qN,W,K⟩:=mF kF qY wP sQ b7
   refine aV ((pt b))<|aV ((pt y))<|aV ((pt b))<|aV ((pt b))<|Rs (au v.o) (aL W.aH 0) ?_
   refine Rp (au a) (fun _=>fO)<|Rp ((pf b a)) (fun _=>je 6 1) ?_
   by_cases u:(m.inn a)=true
   ·refine Rs aG (aL G.aH a ((Bo (by omega)).trans (congrArg Value.bool u))) ?_
    refine aV aF<|aV aF<|bM<|aK ?_
    -- region 10 draws
    refine jo [0,1,4,5,2,3,6,7,8] [0,0,4,0,0,0,0,4,0] [] fun Zd oV Fv => ?_
    have⟨X,sV,Y,L⟩:=mF oV G qN W K
    refine aV ((pt b))<|aV ((pt y))<|aV ((pt b))<|aV ((pf b 6))<|Rs (au v.o) (aL Y.aH 0) ?_
    refine Rp (au a) (fun _=>fO)<|Rp ((pf b (a+6))) (fun _=>je 6 1) ?_
    by_cases x:(m.left a)=true
    ·refine Rs aG (aL X.aH (a+6) ((zY (p:=a) (by omega) (by omega)).trans (congrArg Value.bool x))) ?_
     refine aV aG<|bM<|aM<|ay<|av (.nilFunc)<|av (au 10)<|aC<|Wr<|bK<|sR<|aI (.tuple #[.nilFunc,au 10]) ?_
     have d:cZ m v=10:=by unfold cZ; rw[if_neg (by rw[k]; decide)]; rw[if_neg (by rw[l]; decide)]; rw[if_neg (by rw[q]; decide)]; exact if_pos (.inr (by rw[E]; exact x))
     exact⟨⟨.nilFunc,0,#[],by rw[d],rfl,fun f=>absurd (d.symm.trans f) (by first|decide|omega|assumption)⟩,L⟩
    rw[Bool.not_eq_true]at x
    refine Rs aF (aL X.aH (a+6) ((zY (p:=a) (by omega) (by omega)).trans (congrArg Value.bool x))) ?_
    refine aV aF<|bM<|aK<|Wk<|bP<|sN<|Ws ?_
    -- region 12 draws
    refine jo [0,4,1,2,3,5,6,7,8,9,10] [0,4,0,4,0,4,3,0,0,0,0] [(6,1,[3,2,1]),(6,3,[3]),(6,5,[5]),(7,6,[6]),(8,6,[6]),(9,6,[6]),(10,6,[6])] fun wt5 yA Qu => ?_
    have⟨vX,Z,z⟩:=jk yA sV Y L
    refine aV ((pf y 8))<|aV ((pt b))<|Rs (.int .u8 ((s:Int))) (aL Z.aH 8 (congrArg (Value.int IntKind.u8) Q)) ?_
    refine Rp ((pf 0 s)) (fun _=>je 8 1)<|Rs (.func (.func (kfn s)) #[] #[]) (aL vX s (Wp (by omega))) ?_
    refine Rs (.agg (aA 14 (bO v))) (fA Z.aH 0) ?_
    refine fQ<|Ao (by rfl) (Fx.MZ (args := [(pt b),.agg (aA 14 (bO v))]) rfl rfl rfl (by rfl) (aeK (by omega) (by omega))) rfl<|(Wq m b B _ (h.up z) v D n R s Q (by omega)).mono ?_
    rintro e9 w6 ⟨⟨C,fi1,Gx,P,ho1,hD1⟩,hb5⟩
    refine⟨_,P,?_⟩
    clear P
    have aa:=aY hb5 z
    refine Ln<|aV (C)<|aV (au (gT m v))<|aV (C)<|aV (au (gT m v))<|bM<|Wr<|aI (.tuple #[C,au (gT m v)]) ?_
    have d:cZ m v=gT m v:=by unfold cZ; rw[if_neg (by rw[k]; decide)]; rw[if_neg (by rw[l]; decide)]; rw[if_neg (by rw[q]; decide)]; exact if_neg (by rw[E,u,x]; decide)
    exact⟨⟨_,_,_,by rw[d],ho1,fun f=>(hD1 (d.symm.trans f)).low z.size⟩,aa⟩
   rw[Bool.not_eq_true]at u
   refine Rs aF (aL G.aH a ((Bo (by omega)).trans (congrArg Value.bool u))) ?_
   refine aV aG<|aV aG<|bM<|aM<|Wk<|sN<|aM<|ay<|av (.nilFunc)<|av (au 10)<|aC<|Wr<|bK<|sR<|aI (.tuple #[.nilFunc,au 10]) ?_
   have d:cZ m v=10:=by unfold cZ; rw[if_neg (by rw[k]; decide)]; rw[if_neg (by rw[l]; decide)]; rw[if_neg (by rw[q]; decide)]; exact if_pos (.inl (by rw[E]; exact u))
   exact⟨⟨.nilFunc,0,#[],by rw[d],rfl,fun f=>absurd (d.symm.trans f) (by first|decide|omega|assumption)⟩,K⟩
  rw[Bool.not_eq_true]at q
  refine dA (M7 m.known v _ n O) aF (by rw[q]) ?_
  intro w7 hb6
  have ab:=aY hb6 J
  refine Ln<|aV aG<|aV aG<|bM<|aM<|ay<|av (.nilFunc)<|av (au 13)<|aC<|Wr<|bK<|sR<|aI (.tuple #[.nilFunc,au 13]) ?_
  have d:cZ m v=13:=by unfold cZ; rw[if_neg (by rw[k]; decide)]; rw[if_neg (by rw[l]; decide)]; exact if_pos q
  exact⟨⟨.nilFunc,0,#[],by rw[d],rfl,fun f=>absurd (d.symm.trans f) (by first|decide|omega|assumption)⟩,ab⟩
 rw[Bool.not_eq_true]at k
 refine dA (FW v _ n) aF (by rw[k]) ?_
 intro w8 hb7
 have ac:=aY hb7 H
 refine av aG<|av aG<|aC<|aM<|ay<|av (.nilFunc)<|av (au 1)<|aC<|Wr<|bK<|sR<|aI (.tuple #[.nilFunc,au 1]) ?_
 have d:cZ m v=1:=by unfold cZ; exact if_pos k
 exact⟨⟨.nilFunc,0,#[],by rw[d],rfl,fun f=>absurd (d.symm.trans f) (by first|decide|omega|assumption)⟩,ac⟩
set_option maxRecDepth 20000
set_option linter.unusedVariables false
namespace Rt
noncomputable def kP(m:dY)(v:EvM):dY:=if cZ m v=0 then { iZ m v with known:=aJ (iZ m v).known (bA v) ((iZ m v).known (bA v)+1) } else m
theorem JO(m:dY)(v:EvM):(iZ m v).known=m.known:=by
 unfold iZ
 repeat (first|rfl|split)
def Nk:Nat->Int:=fun _=>0
def nW(m:dY)(k:Int):Nat->Int:=if m.T.has k=true then BQ m k else Nk
end Rt
theorem jV.known{w w':World}{B d:Nat}{m:dY}{K:Nat->Int}(h:jV w B d m)(f:Stp d w w')(e:aP w' d 29 (uo { m with known:=K }) 106):jV w' B d { m with known:=K }:=by
 have b:=gY f h.c.ty
 exact { c:=e,t:=h.t.jG b (by decide),p:=h.p.jG b trivial,r:=h.r.jG b trivial,g:=h.g.jG b trivial,a:=h.a.jG b trivial,ne:=⟨h.ne.mp,h.ne.mr,h.ne.mg,h.ne.ma,h.ne.pr,h.ne.pg,h.ne.pa,h.ne.rg,h.ne.ra,h.ne.ga⟩,lB:=h.lB,pB:=h.pB,rB:=h.rB,gB:=h.gB,aB:=h.aB }
theorem xq{m:dY}{v:EvM}(h:cZ m v=0):dh v=true:=by
 cases hc:dh v with
 | true=>rfl
 | false=>unfold cZ at h; rw[if_pos hc]at h; cases h
theorem BS{m:dY}{v:EvM}(h:cZ m v=0):v.seq=m.known (bA v)+1/\gT m v=0/\m.inn (bA v)=true/\m.left (bA v)=false:=by
 have d:=xq h
 unfold cZ at h
 rw[if_neg (by rw[d]; decide)]at h
 by_cases c:ng m.known v=true
 ·rw[if_pos c]at h; cases h
 rw[if_neg c]at h
 by_cases a:eO m.known v=false
 ·rw[if_pos a]at h; cases h
 rw[if_neg a]at h
 by_cases b:m.inn (bA v)=false\/m.left (bA v)=true
 ·rw[if_pos b]at h; cases h
 rw[if_neg b]at h
 refine⟨?_,h,?_,?_⟩
 ·have a:eO m.known v=true:=by cases e:eO m.known v with|true=>rfl|false=>exact absurd e a
  unfold eO at a
  simp only[Bool.and_eq_true,decide_eq_true_iff]at a
  exact a.1.2
 ·cases e:m.inn (bA v)with|true=>rfl|false=>exact absurd (.inl e) b
 cases e:m.left (bA v)with|false=>rfl|true=>exact absurd (.inr e) b
theorem amg(m:dY)(b B:Nat)(w:World)(h:jV w B b m)(v:EvM)(D:fC v)(C:QlK m)(s:1<=B)(j:iF w 0 0 8 EX) :
 Calls Tryz.prog 22 #[(pt b),.agg (aA 14 (bO v))] w fun e G=>e = .returned (au (cZ m v))/\Below w.heap.size w G:=by
 have u:=h.c
 have M:=h.t
 have y:=h.p
 have z:=h.r
 have x:=h.g
 have q:=h.a
 have L:=h.ne
 have P:=h.c.lt
 have T:=h.t.lt
 have R:=h.p.lt
 have S:=h.r.lt
 have Q:=h.g.lt
 have O:=h.a.lt
 refine Kent Tryz.func22 14 ?_
 refine ay<|pK fun o w1 d l F z1 => ?_
 have⟨E,i⟩:=eG F.old j (Below.refl w.heap.size w)
 have U:=gH d
 have⟨V,W,X,Y,Z⟩:=AA d u.lt y.lt z.lt x.lt q.lt
 have aa:0≠o:=by rw[d]; exact Nat.ne_of_lt (j.lt (by omega))
 have ab:=l.lt
 refine av (au 0)<|aC<|ay<|av ((pt b))<|Lv (.agg (aA 14 (bO v))) (fA l.aH 0)<|jM (Nj m b B _ (h.up i) v D C s E) ?_
 rintro I w2 ⟨⟨f,J,H,k,N,K⟩,A⟩
 refine⟨_,k,?_⟩
 clear k
 have n:=aY A i
 refine av (.tuple #[f,au (cZ m v)])<|av (f)<|av (au (cZ m v))<|av (f)<|av (au (cZ m v))<|aC<|ay<|av (au (cZ m v))<|av (au (cZ m v))<|aC<|Wr<|aI (au (cZ m v)) ?_
 exact⟨rfl,n⟩
theorem Wu(m:dY)(b B:Nat)(w:World)(h:jV w B b m)(v:EvM)(hwf:fC v)(M:QlK m)(hB:1<=B)(I:iF w 0 0 8 EX) :
 Calls Tryz.prog 15 #[(pt b),.agg (aA 14 (bO v))] w fun e S=>e = .returned (au (cZ m v))/\jV S B b (kP m v)/\jB (Sw m b w.heap.size) w S:=by
 have F:=h.c
 have hT:=h.t
 have hP:=h.p
 have hR:=h.r
 have hG:=h.g
 have Z:=h.a
 have hN:=h.ne
 have lC:=h.c.lt
 have lT:=h.t.lt
 have lP:=h.p.lt
 have lR:=h.r.lt
 have lG:=h.g.lt
 have lA:=h.a.lt
 refine Kent Tryz.func15 30 ?_
 refine ay<|pK fun E w1 x D s1 z1 => ?_
 have⟨d,m8,l⟩:=jk s1.old F I (Below.refl w.heap.size w)
 have tL:=gH x
 have⟨mH,yG,vZ,Ab,yD⟩:=AA x F.lt hP.lt hR.lt hG.lt Z.lt
 have Ja:0≠E:=by rw[x]; exact Nat.ne_of_lt (I.lt (by omega))
 have vR:=D.lt
 refine av (au 0)<|aC<|ay<|av ((pt b))<|Lv (.agg (aA 14 (bO v))) (fA D.aH 0)<|jM (Nj m b B _ (h.up l) v hwf M hB m8) ?_
 rintro W w2 ⟨⟨z,Y,V,j,ho1,hD1⟩,hb1⟩
 refine⟨_,j,?_⟩
 clear j
 have⟨O,n⟩:=eG hb1 D l
 refine av (.tuple #[z,au (cZ m v)])<|av (z)<|av (au (cZ m v))<|av (z)<|av (au (cZ m v))<|aC<|Ws<|ay<|av (au (cZ m v)) ?_
 by_cases i:(cZ m v)=0
 ·refine Lv aF (jJ i)<|aC<|aK<|Wk<|sN<|Ws ?_
  have A:=hD1 i
  have hfe:=A.e
  subst hfe
  refine Wl<|av (.func (.func Y) #[] V)<|Ao (by rfl) (Fx.MZ (args := []) rfl rfl rfl (by simp) A.f) rfl<|(A.s _ (Below.refl _ _)).mono ?_
  rintro W u ⟨j,C,G⟩
  refine⟨_,j,?_⟩
  clear j
  have J:jB (Sw m b w.heap.size) w u:=(Fx.jB.of_below n) |> fun q=>Fx.jB.trans _ _ _ q (G.mono fun k hk=>hk.imp id (Nat.le_trans l.size))
  obtain⟨d,y⟩ : ∃ q,q=iZ m v:=⟨_,rfl⟩
  rw[<- y]at C
  have X:d.known=m.known:=by rw[y,JO]
  have H:=C.c
  have lC2:=H.lt
  have hkb:=(BS i).1
  have N:=xq i
  obtain⟨a,K,ho⟩ : ∃ a:Nat,a<6/\v.o=(a:Int)+1:=eY (iy N)
  have hra:bA v=a:=by unfold bA; omega
  have hbd:=qG N
  have hka:=M.kn a K
  have P:=(h.up n).Hg (w':=u) (O) (by decide) G (by have:=O.lt; have:=l.size; omega)
  have atm:=P.lt
  refine aC<|Ws ?_
  -- region 5 draws
  refine jo [0,1,4,5,9,10,2,3,6,7,8,11,12] [0,0,4,0,0,0,0,4,0,0,0,0,3] [(12,2,[2]),(12,7,[7])] fun oU L gU => ?_
  have s3:Stp u.heap.size u oU:=Sb L
  have⟨Q,m19,m20⟩:=jk L H C P
  have T:=J.then s3 (.inr J.size)
  refine aV ((pt b))<|aV ((pt E))<|aV ((pt b))<|aV ((pf b 12))<|aV ((pt b))<|aV ((pf b 12))<|Rs (au v.o) (aL m20.aH 0) ?_
  refine Rp (au a) (fun _=>fO)<|Rp ((pf b (a+12))) (fun _=>je 6 1)<|Rs (aD (d.known a)) (aL Q.aH (a+12) (qc (p:=a) (by omega) (by omega))) ?_
  refine Rp (aD (d.known a+1)) (fun v1=>Fx.Ig rfl rfl rfl (jr (by rw[X]; omega) rfl))<|Rp ((pf b (a+12))) (fun _=>je 6 1)<|fQ<|iQ Q (a+12) (aD (d.known a+1)) fun w4 m21 R z2 => ?_
  have m22:aP w4 b 29 (uo { d with known:=aJ d.known a (d.known a+1) }) 106:=m21.to (OP K (by omega) _)
  have U:=T.then R (.inl (.inl (.inl rfl)))
  refine Ln (bM (ay (av (au 0) (aC (Wr (aI (au 0) (⟨by rw[i],?_,U⟩)))))))
  rw[show kP m v = { d with known:=aJ d.known a (d.known a+1) } by unfold kP; rw[if_pos i,<- y,hra]]
  exact m19.known R m22
 refine Lv aG (mE i) (aC (aM (ay (av (au (cZ m v)) (av (au (cZ m v)) (aC (Wr (sR (aI (au (cZ m v)) (⟨rfl,?_,Fx.jB.of_below n⟩))))))))))
 rw[show kP m v=m by unfold kP; exact if_neg i]; exact h.up n
set_option maxRecDepth 20000
set_option linter.unusedVariables false
namespace Rt
def Ai(k f c d e b a:Nat):dY := { inn:=fun i=>decide (i<k),left:=fun _=>false,known:=fun _=>0,own:=fun _=>0,T:=dN.zero,R:=fun _ _=>0,gn:=0,g:=fun _ _=>0,an:=0,ao:=fun _=>0,ar:=fun _=>0,tp:=f,mb:=c,pb:=d,rb:=e,gb:=b,ab:=a }
end Rt
theorem TI(k g c d f b a:Nat)(h:k<6):dz (uo (Ai k g c d f b a)) k (.bool true)=uo (Ai (k+1) g c d f b a):=by
 rw[Sr h]
 have:aJ (Ai k g c d f b a).inn k true=(Ai (k+1) g c d f b a).inn:=by
  funext i
  show(if i=k then true else decide (i<k))=decide (i<k+1)
  by_cases e:i=k
  ·subst e; rw[if_pos rfl]; exact(decide_eq_true (by omega)).symm
  ·rw[if_neg e]; exact decide_eq_decide.2 (by omega)
 show uo { Ai k g c d f b a with inn:=_ }=_
 rw[this]; rfl
theorem Wv(m:dY)(b B:Nat)(w:World)(h:jV w B b m) :
 Calls Tryz.prog 23 #[(pt b)] w fun e D=>e = .returned (.agg (aA 6 (rv .u64 m.known)))/\Below w.heap.size w D:=by
 have i:=h.c
 have G:=h.t
 have s:=h.p
 have u:=h.r
 have q:=h.g
 have o:=h.a
 have F:=h.ne
 have J:=h.c.lt
 have N:=h.t.lt
 have L:=h.p.lt
 have M:=h.r.lt
 have K:=h.g.lt
 have I:=h.a.lt
 refine Kent Tryz.func23 10 ?_
 refine ay<|Ca (m:=6) (y:=rv .u64 (fun _=>0)) (by rfl) rfl (by kernel_rfl) rfl fun n V f k A W => ?_
 have⟨v,d⟩:=eG A.old i (Below.refl w.heap.size w)
 have O:=gH f
 have⟨P,Q,R,S,T⟩:=AA f i.lt s.lt u.lt q.lt o.lt
 have U:=k.lt
 refine aC<|Ws<|ay<|av ((pt b))<|Lv aF (Fx.nQ rfl rfl rfl (by kernel_rfl))<|aC<|aK<|Wk<|sN<|ay<|av ((pt b))<|av ((pt b))<|av ((pf b 12))<|Lv (.agg (aA 6 (rv .u64 m.known))) (fA v.aH 12 (fun j H=>qc (p:=j) (by omega) (by omega)))<|fB k 0 fun E x C X => ?_
 have z:aP E n 6 (rv .u64 m.known) 30:=aU x
 have l:=C.below d d.size (by omega)
 refine aC (Wr (⟨.agg (aA 6 (rv .u64 m.known)),rV Tryz.results23 ⟨_,rfl,aT z.aH (by kernel_rfl) (by kernel_rfl)⟩,?_⟩))
 exact⟨rfl,l⟩
theorem Ww(m:dY)(f B:Nat)(w:World)(h:jV w B f m)(i b:Int)(hi : -9223372036854775808<=i/\i<=9223372036854775807) :
 Calls Tryz.prog 19 #[(pt f),au i,aD b] w fun e C=>e = .returned (au (dV (nW m b) i))/\Below w.heap.size w C:=by
 have v:=h.c
 have H:=h.t
 have G:=h.p
 have o:=h.r
 have E:=h.g
 have D:=h.a
 have F:=h.ne
 have J:=h.c.lt
 have N:=h.t.lt
 have L:=h.p.lt
 have M:=h.r.lt
 have K:=h.g.lt
 have I:=h.a.lt
 refine Kent Tryz.func19 17 ?_
 refine ay<|av (au 0)<|aC<|Ws<|ay<|av ((pt f))<|Lv aF (Fx.nQ rfl rfl rfl (by kernel_rfl))<|aC<|aK<|Wk<|sN<|ay<|av ((pt f))<|av ((pt f))<|av ((pf f 20))<|Lv (.map (some m.rb)) (aL v.aH 20)<|av (aD b) ?_
 rcases Fx.qx m.T.x m.T.n b with ⟨d,l,j⟩|iP
 ·refine Lv (.agg (aA 54 (rv .i64 (m.R d)))) (Fx.uN (z := .agg (aA 54 (rv .i64 (fun _=>0)))) rfl rfl rfl o Tryz.underlying101 Tryz.underlying28 (by kernel_rfl) l j rfl)<|av (au i)<|dA (uW (m.R d) i _ hi) _ rfl ?_
  intro O y
  have s:=aY y (Below.refl w.heap.size w)
  refine av (au (dV (m.R d) i))<|aC<|Wr<|aI (au (dV (m.R d) i)) ?_
  have k:nW m b=m.R d:=by unfold nW BQ; rw[if_pos (show m.T.has b=true from iW l j),show m.idx b=d from kY h.t.inv.inj l j]
  exact⟨congrArg (fun q=>Ending.returned (Value.int .i64 (dV q i))) k.symm,s⟩
 refine Lv (.agg (aA 54 (rv .i64 (fun _=>0)))) (Fx.Mj (z := .agg (aA 54 (rv .i64 (fun _=>0)))) rfl rfl rfl o Tryz.underlying101 Tryz.underlying28 (by kernel_rfl) iP)<|av (au i)<|dA (uW (fun _=>0) i _ hi) _ rfl ?_
 intro P A
 have u:=aY A (Below.refl w.heap.size w)
 refine av (au (dV (fun _=>0) i))<|aC<|Wr<|aI (au (dV (fun _=>0) i)) ?_
 have k:nW m b=Nk:=by unfold nW; exact if_neg (by rw[show m.T.has b=false from xC iP]; decide)
 exact⟨congrArg (fun q=>Ending.returned (Value.int .i64 (dV q i))) k.symm,u⟩
theorem abv(m:dY)(d B:Nat)(w:World)(h:jV w B d m)(b:Int) :
 Calls Tryz.prog 20 #[(pt d),aD b] w fun e k => ∃ a c,e = .returned (.slice a (m.T.path b).length c)/\Un k w.heap.size a c (m.T.path b)/\Below w.heap.size w k:=by
 have n:=h.c
 have o:=h.t
 have z:=h.p
 have A:=h.r
 have x:=h.g
 have v:=h.a
 have y:=h.ne
 have D:=h.c.lt
 have H:=h.t.lt
 have F:=h.p.lt
 have G:=h.r.lt
 have E:=h.g.lt
 have C:=h.a.lt
 refine Kent Tryz.func20 13 ?_
 refine ay<|av (.slice none 0 0)<|aC<|Ws<|ay<|av ((pt d))<|Lv aF (Fx.nQ rfl rfl rfl (by kernel_rfl))<|aC<|aK<|Wk<|sN<|ay<|av ((pt d))<|av ((pt d))<|av ((pf d 18))<|Lv ((pt m.tp)) (aL n.aH 18)<|av (aD b)<|jM (GH b o) ?_
 rintro u I ⟨i,j,f,s,q⟩
 refine⟨_,f,?_⟩
 clear f
 have l:=aY q (Below.refl w.heap.size w)
 refine av (.slice i ((dN.path m.T b).length) (j))<|aC<|Wr<|aI (.slice i ((dN.path m.T b).length) (j)) ?_
 exact⟨_,_,rfl,s,l⟩
theorem Yh(k:Nat)(hk:1<=k/\k<=6)(w:World) :
 Calls Tryz.prog 14 #[au ((k:Int))] w fun e w' => ∃ W m,e = .returned (.tuple #[(pt W),au 0])/\(∃ tp mb pb rb gb ab,m=Ai k tp mb pb rb gb ab)/\jV w' w.heap.size W m/\Below w.heap.size w w':=by
 refine Kent Tryz.func14 30 ?_
 refine ay<|av (.pointer none)<|av (au 0)<|aC<|Ws<|ay<|av (au k)<|Lv aF Dq<|av aF<|av (au k)<|Lv aF wL<|av aF<|aC<|aK<|Wk<|sN<|ay<|jM (XW _) ?_
 rintro e9 w1 ⟨n,x,V,hg1,X,hb1⟩
 refine⟨_,V,?_⟩
 clear V
 have J:=aY hb1 (Below.refl w.heap.size w)
 have m2:qz w1 (w.heap.size) n x dN.zero:=X.weak (Below.refl w.heap.size w).size
 clear X hg1
 refine Fx.L.Ir (by rfl) rfl rfl fun o w2 Q G s2 z1 => ?_
 have⟨m4,K⟩:=eG s2.old m2 J
 have tL:=jc Q J.size
 have abw:=bY Q m2.lt
 have vR:=G.lt
 refine Fx.L.Ir (by rfl) rfl rfl fun q w3 R H s3 z2 => ?_
 have⟨m6,m7,M⟩:=jk s3.old m4 G K
 have qO:=jc R K.size
 have⟨abx,Rz⟩:=wM R m4.lt G.lt
 have zJ:=H.lt
 refine Fx.L.PZ (by rfl) rfl rfl fun s w4 S I s4 z3 => ?_
 have⟨m9,Y,Z,N⟩:=mF s4.old m6 m7 H M
 have Dy:=jc S M.size
 have⟨aby,amh,abp⟩:=Iq S m6.lt m7.lt H.lt
 have KQ:=I.lt
 refine Fx.L.PZ (by rfl) rfl rfl fun u w5 T E s5 z4 => ?_
 have⟨m13,aa,ac,ad,O⟩:=qm s5.old m9 Y Z I N
 have Uq:=jc T N.size
 have⟨abz,abt,abu,ami⟩:=YP T m9.lt Y.lt Z.lt I.lt
 have R3:=E.lt
 refine av (.agg (aA 29 (bG (bG (bG (bG (bG (fun d=>if d<12 then .bool false else if d<18 then aD 0 else if d<19 then .pointer none else if d<21 then .map none else if d<27 then au 0 else .map none) 18 1 (fun _=>(pt n))) 19 1 (fun _ => .map (some o))) 20 1 (fun _ => .map (some q))) 27 1 (fun _ => .map (some s))) 28 1 (fun _ => .map (some u)))))<|Dl (m:=29) (y:=bG (bG (bG (bG (bG (fun d=>if d<12 then .bool false else if d<18 then aD 0 else if d<19 then .pointer none else if d<21 then .map none else if d<27 then au 0 else .map none) 18 1 (fun _=>(pt n))) 19 1 (fun _ => .map (some o))) 20 1 (fun _ => .map (some q))) 27 1 (fun _ => .map (some s))) 28 1 (fun _ => .map (some u))) (by rfl) rfl rfl (bJ _ _) rfl fun b w6 U ae s6 z5 => ?_
 have⟨m18,m19,m20,m21,m22,b6⟩:=qo s6.old m13 aa ac ad E O
 have lg5:=jc U O.size
 have⟨amj,amk,aml,amm⟩:=YP U aa.lt ac.lt ad.lt E.lt
 have tg5:=ae.lt
 have l:QlN (Ai 0 n x o q s u):=⟨abw,abx,aby,abz,by assumption,by assumption,by assumption,by assumption,by assumption,by assumption⟩
 have m23:aP w6 b 29 (uo (Ai 0 n x o q s u)) 106:=ae.congr (fun j hj=>match j,hj with|0,_=>rfl|1,_=>rfl|2,_=>rfl|3,_=>rfl|4,_=>rfl|5,_=>rfl|6,_=>rfl|7,_=>rfl|8,_=>rfl|9,_=>rfl|10,_=>rfl|11,_=>rfl|12,_=>rfl|13,_=>rfl|14,_=>rfl|15,_=>rfl|16,_=>rfl|17,_=>rfl|18,_=>rfl|19,_=>rfl|20,_=>rfl|21,_=>rfl|22,_=>rfl|23,_=>rfl|24,_=>rfl|25,_=>rfl|26,_=>rfl|27,_=>rfl|28,_=>rfl|j+29,h=>absurd h (by omega))
 refine av ((pt b))<|aC<|Ws<|ay<|av (au k)<|av (au 0)<|aC<|Wb<|Wo (fun f z => ∃ i:Nat,i<=k/\f 4=(pt b)/\f 19=au ((k:Int))/\f 20=au ((i:Int))/\qz z (w.heap.size) n x dN.zero/\Mp z o 0 (fun _=>0) (fun _ => .pointer none)/\Mp z q 0 (fun _=>0) (fun _ => .pointer none)/\gN z s 0 (fun _=>0) (fun _=>0) (fun _ => .pointer none)/\gN z u 0 (fun _=>0) (fun _=>0) (fun _ => .pointer none)/\aP z b 29 (uo (Ai i n x o q s u)) 106/\Below w.heap.size w z) (fun f _=>((k:Int)-intOf (f 20)).toNat) ⟨0,(by omega),(by rfl),Fx.ic,Fx.ic,m18,m19,m20,m21,m22,m23,b6⟩ ?_
 rintro f1 w7 ⟨i,v,C,D,A,m24,lW,mR,nY,nT,F,B⟩
 refine ay ?_
 by_cases P:(i:Int)<(k:Int)
 ·refine Lv aG (gy P (hx:=A) (hy:=D))<|aC<|Ws<|aM<|Wk<|sN<|Ws<|Wb<|ay<|aS A<|av (au i)<|aC<|Wl<|aS C<|av (au i)<|av ((pt b))<|av ((pt b))<|Lv ((pf b i)) (je 6 1)<|iQ F i aG fun w8 nE s7 z6 => ?_
  have lH:aP w8 b 29 (uo (Ai (i+1) n x o q s u)) 106:=nE.to (TI i _ _ _ _ _ _ (by omega))
  have gI:=gY s7 F.ty
  have⟨m32,oI,nG,oJ,pO⟩:=qp gI m24 lW mR nY nT
  have b8:=s7.below B B.size (by omega)
  refine Ln<|bP<|sN<|Wl<|Lv (au ((i:Int)+1)) (eZ (hx:=A))<|av (au ((i:Int)+1))<|Ln<|gJ ⟨i+1,(by omega),C,(D.trans Fx.ic),Fx.ic,m32,oI,nG,oJ,pO,lH,b8⟩ ?_
  show((k:Int)-intOf ((au ((i:Int)+1)))).toNat<_
  simp only[A,intOf]; omega
 refine Lv aF (gD P (hx:=A) (hy:=D))<|aC<|Ws<|aK<|Wx<|bV<|fU<|bW<|sN<|ay<|aS C<|av ((pt b))<|av (au 0)<|aC<|Wr<|aI (.tuple #[(pt b),au 0]) ?_
 have eik:i=k:=by omega
 subst eik
 exact⟨b,Ai i n x o q s u,rfl,⟨_,_,_,_,_,_,rfl⟩,{ c:=F,t:=m24,p:=lW.qU fun i v=>absurd v (Nat.not_lt_zero _),r:=mR.qU fun i v=>absurd v (Nat.not_lt_zero _),g:=nY.qU fun i v=>absurd v (Nat.not_lt_zero _),a:=nT.qU fun i v=>absurd v (Nat.not_lt_zero _),ne:=⟨l.mp,l.mr,l.mg,l.ma,l.pr,l.pg,l.pa,l.rg,l.ra,l.ga⟩,lB:=lg5,pB:=tL,rB:=qO,gB:=Dy,aB:=Uq },B⟩
theorem Wy(n:Int)(b:n<1)(w:World) :
 Calls Tryz.prog 14 #[au n] w fun e a=>e = .returned (.tuple #[.pointer none,au 1])/\Below w.heap.size w a:=by
 refine Kent Tryz.func14 30 ?_
 refine ay<|av (.pointer none)<|av (au 0)<|aC<|Ws<|ay<|av (au n)<|Lv aG Mg<|av aG<|cB<|cB<|av aG<|aC<|aM<|ay<|av (.pointer none)<|av (au 1)<|aC<|Wr<|sR<|aI (.tuple #[.pointer none,au 1]) ?_
 exact⟨rfl,(Below.refl w.heap.size w)⟩
theorem Wz(n:Int)(b:6<n)(w:World) :
 Calls Tryz.prog 14 #[au n] w fun e a=>e = .returned (.tuple #[.pointer none,au 1])/\Below w.heap.size w a:=by
 refine Kent Tryz.func14 30 ?_
 refine ay<|av (.pointer none)<|av (au 0)<|aC<|Ws<|ay<|av (au n)<|Lv aF Dq<|av aF<|av (au n)<|Lv aG zB<|av aG<|aC<|aM<|ay<|av (.pointer none)<|av (au 1)<|aC<|Wr<|sR<|aI (.tuple #[.pointer none,au 1]) ?_
 exact⟨rfl,(Below.refl w.heap.size w)⟩
end Go.Proofs.YtahbiajdgealnaaGreatDoor
namespace Go.Proofs.YtahbiajdgealnaaGreatDoor.Fx
open Go.RowKit Go.Shelf Go.Sort Go.Lib
def jU(a b:Int):Int:=if a<b then -1 else if b<a then 1 else 0
theorem Nl(a b:Int):jU a b<0<->a<b:=by
 unfold jU
 split
 ·simp_all
 split <;> simp_all
theorem WA{c:Type}(ky:c->Int):SWO (ltOf fun x y=>jU (ky x) (ky y)):=by
 have e : ∀ x y,(ltOf fun x y=>jU (ky x) (ky y)) x y=decide (ky x<ky y):=fun x y=>by
  unfold ltOf
  exact decide_eq_decide.2 (Nl _ _)
 refine⟨fun x => ?_,fun x y z a b => ?_,fun x y z a b => ?_⟩ <;> simp only[e,decide_eq_true_eq,decide_eq_false_iff_not]at * <;> omega
end Go.Proofs.YtahbiajdgealnaaGreatDoor.Fx
namespace Go.Proofs.YtahbiajdgealnaaGreatDoor.Fx
open Go.RowKit Go.Shelf Go.Sort Go.Lib
theorem JQ{w:World}{B g cap m N s:Nat}{E:TypeId}(a:Array Value)(os:Array Obj){x:Nat->Value}(h:Own w B E s (.slice (some ⟨g,0,none⟩) m cap) m x)(f:a.size=m*s) :
 Own (sortWorld id w g 0 N a os) B E s (.slice (some ⟨g,0,none⟩) m cap) m (fun q=>a[q]!)/\Stp g w (sortWorld id w g 0 N a os):=by
 rcases h.2 with ⟨b,_⟩|⟨g',cap',cur,b,hB,hg,hn,hm,hs,ht⟩
 ·cases b
 simp only[Value.slice.injEq,Option.some.injEq,Addr.mk.injEq]at b
 obtain⟨⟨rfl,_⟩,_,rfl⟩:=b
 have n:g<w.heap.size:=(Array.getElem?_eq_some_iff.1 hg).1
 have d:(sortWorld id w g 0 N a os).heap=(w.heap.modify g (onCells (putCells id 0 a)))++os:=rfl
 have e : ∀ k,k<w.heap.size->(sortWorld id w g 0 N a os).heap[k]? = (w.heap.modify g (onCells (putCells id 0 a)))[k]? := fun k c=>by
  rw[d,Array.getElem?_append_left (by simpa using c)]
 have p:m*s<=cap*s:=Nat.mul_le_mul_right s hn
 refine⟨⟨by simp,.inr ⟨g,cap,putCells id 0 a cur,rfl,hB,?_,hn,hm,?_,?_⟩⟩,⟨rfl,rfl,rfl,by rw[d]; simp,fun k c o => ?_⟩⟩
 ·rw[e g n,Array.getElem?_modify,if_pos rfl,hg]; rfl
 ·simp[putCells,hs]
 ·apply List.ext_getElem?
  intro i
  by_cases j:i<m*s
  ·have l:i<cur.size:=by omega
   rw[List.getElem?_take_of_lt (by omega),Array.getElem?_toList]
   unfold putCells
   rw[Array.getElem?_mapIdx,Array.getElem?_eq_getElem l]
   simp[j,f]
  rw[List.getElem?_eq_none (by simp; omega),List.getElem?_eq_none (by simp; omega)]
 rw[e k c,Array.getElem?_modify,if_neg (Ne.symm o)]
theorem LH{w:World}{B g cap m s:Nat}{E:TypeId}(d:Array Value){x:Nat->Value}(h:Own w B E s (.slice (some ⟨g,0,none⟩) m cap) m x)(n:d.size=m*s)(hx : ∀ q,q<m*s->x q=d[q]!)(i:0<m) :
 Holds id w g 0 d/\g<w.heap.size:=by
 obtain⟨l,k,e,_,f,_,c⟩:=h.form i
 rcases h.2 with ⟨a,_⟩|⟨g2,cap2,cur,a,hB,hg,hn,hm,hs,ht⟩
 ·cases a
 simp only[Value.slice.injEq,Option.some.injEq,Addr.mk.injEq]at a e
 obtain⟨⟨rfl,_⟩,_,rfl⟩:=a
 obtain⟨⟨rfl,_⟩,_,rfl⟩:=e
 refine⟨fun j o=>⟨?_,?_⟩,f⟩
 ·have b:=c j (by omega)
  rw[b,hx j (by omega)]; rfl
 simp[World.frozen?,hg]
theorem F8{a:Type} [Inhabited a]{s:Nat}{enc:a->Nat->Value}{e0:a}{l:List a}(f:0<s) : ∀ q,q<l.length*s->flat s (fun k=>enc (l.getD k e0)) q=(Go.Sort.flatK (fun x=>(List.range s).map (enc x)) s l.toArray)[q]! := fun q b=>by
 have d:q / s<l.length:=Nat.div_lt_of_lt_mul (by rw[Nat.mul_comm]; exact b)
 have e:q % s<s:=Nat.mod_lt _ f
 rw[Go.Sort.get_flatK _ _ _ q (by simpa using b)]
 unfold flat
 have c:l.toArray[q / s]! = l.getD (q / s) e0:=by simp[d]
 rw[c]
 simp[e]
theorem TJ{P:Program}{ρ:Ren}(I:SlLaysF0.n6 P ρ){p:Nat}(U : ∀ J w,(callFunc p J).run P w = .ok (.enter p J) w){w:World}{B cap s:Nat}{a:Option Addr}{E:TypeId}(L:0<s)
 (S : ∀ w,(isAgg (ρ.t 24)).run P w = .ok true w) (zE : ∀ w,(Go.sizeOf (ρ.t 24)).run P w = .ok s w) {o:Type} [Inhabited o] {enc:o->Nat->Value} {e0:o} (h1 : ∀ x j,j<s->(enc x j).oneCell'=true) {ky:o->Int} {l:List o}
 (h:Own w B E s (.slice a l.length cap) l.length (flat s fun q=>enc (l.getD q e0)))
 (Y : ∀ O x y,Calls P p #[.agg (aA s (enc x)),.agg (aA s (enc y))] O fun e c=>e = .returned (.int .i64 (jU (ky x) (ky y))) /\ ∃ q os',c=grow (O.drewN q) os') (hm:l.length<4611686018427387904) :
 Calls P (ρ.f 6) #[.slice a l.length cap,.func (.func p) #[] #[]] w fun e c=>e = .returned (.tuple #[]) /\ ∃ H:List o,H.Perm l/\H.Pairwise (fun x y=>ky x<=ky y)/\Own c B E s (.slice a l.length cap) l.length (flat s fun q=>enc (H.getD q e0))/\(∀ k,k<w.heap.size->(Value.slice a l.length cap).ownBlock≠some k->c.heap[k]? = w.heap[k]?)/\iG [E] w c/\Below B w c:=by
 by_cases V:l.length=0
 ·have F:l = []:=List.length_eq_zero_iff.1 V
  subst F
  refine(AnyF.slices_SortFunc_none I a cap _ w).mono ?_
  rintro e c ⟨D,rfl⟩
  exact⟨D,[],List.Perm.refl _,List.Pairwise.nil,h,fun _ _ _=>rfl,vP _,Below.refl _ _⟩
 obtain⟨g,c2,u,hB,hg,hmc,_⟩:=h.form (by omega)
 simp only[Value.slice.injEq]at u
 obtain⟨rfl,_,rfl⟩:=u
 have A : ∀ x,((fun x=>(List.range s).map (enc x)) x).length=s:=fun x=>by simp
 have hsz:(Go.Sort.flatK (fun x=>(List.range s).map (enc x)) s l.toArray).size=l.length*s:=by simp
 obtain⟨X,F⟩:=LH _ h hsz (F8 L) (by omega)
 have hty:Ty w g E:=h.ty rfl
 have C : ∀ x,((List.range s).map (enc x)).toArray=aA s (enc x):=fun x=>by
  apply Array.ext
  ·simp[bS]
  ·intro i h1 W
   have m:i<s:=by simpa using h1
   have:=fE (enc x) m
   rw[Array.getElem?_eq_getElem W]at this
   rw[Option.some.inj this]; simp
 have K:=AnyQ.slices_SortFunc I s S zE (fun x=>(List.range s).map (enc x)) A (fun x v C=>by
  obtain⟨j,z,rfl⟩:=List.mem_map.1 C
  exact h1 x j (List.mem_range.1 z)) (fun x y=>jU (ky x) (ky y)) (WA _) p #[] g 0 cap l.toArray w U
  (fun N r dk hdk x y=>by rw[C,C]; exact Y _ x y) X F (by simpa using hm)
 rw[show l.toArray.size=l.length by simp]at K
 refine K.mono ?_
 rintro e c ⟨D,b,N,r,⟨n,_,M⟩,hso,rfl⟩
 have n:b.size=l.length:=by simpa using n
 have hw:sortWorldK (fun x=>(List.range s).map (enc x)) s w g 0 N b r=sortWorld id w g 0 N (Go.Sort.flatK (fun x=>(List.range s).map (enc x)) s b) r:=rfl
 rw[hw]
 obtain⟨o1,d⟩:=JQ (N:=N) (Go.Sort.flatK (fun x=>(List.range s).map (enc x)) s b) r h (by simp[n])
 have u:(b.extract 0 l.length).toList=b.toList:=by
  rw[<- n]; simp
 have T:(l.toArray.extract 0 l.length).toList=l:=by simp
 rw[u,T]at M
 refine⟨D,b.toList,M,?_,?_,fun k A hne=>d.block k A (fun e=>hne (by rw[e]; rfl)),gY d hty,⟨d.os,d.tape,d.output,d.size,fun k A=>d.block k (by omega) (by omega)⟩⟩
 ·rw[List.pairwise_iff_getElem]
  intro i j Z z aa
  have m:=hso i j (Nat.zero_le _) aa (by rw[<- n]; simpa using z)
  unfold ltOf at m
  rw[decide_eq_false_iff_not,Nl]at m
  have Q:b[i]! = b.toList[i]:=by rw[getElem!_pos b i (by simpa using Z)]; simp
  have R:b[j]! = b.toList[j]:=by rw[getElem!_pos b j (by simpa using z)]; simp
  rw[Q,R]at m
  exact Int.not_lt.1 m
 have:=fun q (G:q<l.length*s)=>F8 (enc:=enc) (e0:=e0) (l:=b.toList) L q (by simpa [n] using G)
 have o3:Own (sortWorld id w g 0 N (Go.Sort.flatK (fun x=>(List.range s).map (enc x)) s b) r) B E s (.slice (some ⟨g,0,none⟩) l.length cap) l.length (flat s fun q=>enc (b.toList.getD q e0)):=o1.congr fun q G=>by
  have:=this q G
  simp only[Array.toArray_toList]at this
  exact this.symm
 exact o3
end Go.Proofs.YtahbiajdgealnaaGreatDoor.Fx
namespace Go.Proofs.YtahbiajdgealnaaGreatDoor
open Go.Shelf
def OY:Go.Shelf.Ren:=⟨fun|6=>43|15=>68|14=>67|28=>102|29=>103|20=>94|21=>95|22=>96|23=>97|24=>98|25=>99|26=>100|27=>101|46=>121|47=>122|48=>123|49=>124|50=>125|57=>138|n=>n,fun|22=>51|24=>66|25=>118|3=>3|39=>142|0=>0|53=>173|55=>28|4=>4|46=>166|45=>165|50=>170|5=>5|9=>9|66=>184|70=>188|76=>200|77=>201|n=>n,fun|n=>n⟩
theorem aeL:Go.Proofs.SlLaysF0.n6 Tryz.prog OY := {
 mixed:=by kernel_rfl
 f6:=⟨Tryz.f43.name,by decide,Tryz.func43.trans (congrArg some (by kernel_rfl))⟩
 f14:=⟨Tryz.f67.name,by decide,Tryz.func67.trans (congrArg some (by kernel_rfl))⟩
 f15:=Tryz.func68.trans (congrArg some (by kernel_rfl))
 f20:=⟨Tryz.f94.name,by decide,Tryz.func94.trans (congrArg some (by kernel_rfl))⟩
 f21:=⟨Tryz.f95.name,by decide,Tryz.func95.trans (congrArg some (by kernel_rfl))⟩
 f22:=⟨Tryz.f96.name,by decide,Tryz.func96.trans (congrArg some (by kernel_rfl))⟩
 f23:=⟨Tryz.f97.name,by decide,Tryz.func97.trans (congrArg some (by kernel_rfl))⟩
 f24:=⟨Tryz.f98.name,by decide,Tryz.func98.trans (congrArg some (by kernel_rfl))⟩
 f25:=⟨Tryz.f99.name,by decide,Tryz.func99.trans (congrArg some (by kernel_rfl))⟩
 f26:=⟨Tryz.f100.name,by decide,Tryz.func100.trans (congrArg some (by kernel_rfl))⟩
 f27:=⟨Tryz.f101.name,by decide,Tryz.func101.trans (congrArg some (by kernel_rfl))⟩
 f28:=Tryz.func102.trans (congrArg some (by kernel_rfl))
 f29:=Tryz.func103.trans (congrArg some (by kernel_rfl))
 f46:=⟨Tryz.f121.name,by decide,Tryz.func121.trans (congrArg some (by kernel_rfl))⟩
 f47:=Tryz.func122.trans (congrArg some (by kernel_rfl))
 f48:=Tryz.func123.trans (congrArg some (by kernel_rfl))
 f49:=⟨Tryz.f124.name,by decide,Tryz.func124.trans (congrArg some (by kernel_rfl))⟩
 f50:=⟨Tryz.f125.name,by decide,Tryz.func125.trans (congrArg some (by kernel_rfl))⟩
 f57:=⟨Tryz.f138.name,by decide,Tryz.func138.trans (congrArg some (by kernel_rfl))⟩
 t0:=Tryz.underlying0
 a0:=Tryz.isAgg0
 z0:=Tryz.sizeOf0
 v0:=Tryz.zeroValue0
 t3:=Tryz.underlying3
 a3:=Tryz.isAgg3
 z3:=Tryz.sizeOf3
 v3:=Tryz.zeroValue3
 t4:=Tryz.underlying4
 a4:=Tryz.isAgg4
 z4:=Tryz.sizeOf4
 v4:=Tryz.zeroValue4
 t5:=Tryz.underlying5
 a5:=Tryz.isAgg5
 z5:=Tryz.sizeOf5
 v5:=Tryz.zeroValue5
 t9:=Tryz.underlying9
 a9:=Tryz.isAgg9
 z9:=Tryz.sizeOf9
 v9:=Tryz.zeroValue9
 t22:=Tryz.underlying51
 a22:=Tryz.isAgg51
 z22:=Tryz.sizeOf51
 v22:=Tryz.zeroValue51
 t25:=Tryz.underlying118
 a25:=Tryz.isAgg118
 z25:=Tryz.sizeOf118
 v25:=Tryz.zeroValue118
 t39:=Tryz.underlying142
 a39:=Tryz.isAgg142
 z39:=Tryz.sizeOf142
 v39:=Tryz.zeroValue142
 t45:=Tryz.underlying165
 a45:=Tryz.isAgg165
 z45:=Tryz.sizeOf165
 v45:=Tryz.zeroValue165
 t46:=Tryz.underlying166
 a46:=Tryz.isAgg166
 z46:=Tryz.sizeOf166
 v46:=Tryz.zeroValue166
 t50:=Tryz.underlying170
 a50:=Tryz.isAgg170
 z50:=Tryz.sizeOf170
 v50:=Tryz.zeroValue170
 t53:=Tryz.underlying173
 a53:=Tryz.isAgg173
 z53:=Tryz.sizeOf173
 v53:=Tryz.zeroValue173
 t55:=Tryz.underlying28
 a55:=Tryz.isAgg28
 z55:=Tryz.sizeOf28
 v55:=Tryz.zeroValue28
 t66:=Tryz.underlying184
 a66:=Tryz.isAgg184
 z66:=Tryz.sizeOf184
 v66:=Tryz.zeroValue184
 t70:=Tryz.underlying188
 a70:=Tryz.isAgg188
 z70:=Tryz.sizeOf188
 v70:=Tryz.zeroValue188
 t76:=Tryz.underlying200
 a76:=Tryz.isAgg200
 z76:=Tryz.sizeOf200
 v76:=Tryz.zeroValue200
 t77:=Tryz.underlying201
 a77:=Tryz.isAgg201
 z77:=Tryz.sizeOf201
 v77:=Tryz.zeroValue201 }
end Go.Proofs.YtahbiajdgealnaaGreatDoor
namespace Go.Proofs.YtahbiajdgealnaaGreatDoor
open Go.RowKit Go.Sort Rt
set_option linter.unusedVariables false
set_option maxRecDepth 20000
namespace Fx
def WB(w w':World):Prop := ∃ q a,w'=grow (w.drewN q) a
theorem WB.refl(w:World):WB w w:=⟨0,#[],by rw[grow_empty]; rfl⟩
theorem WB.alloc{w a b:World}(h:WB w a)(z : ∃ o,b=a.alloc o):WB w b:=by
 obtain⟨q,c,rfl⟩:=h
 obtain⟨o,rfl⟩:=z
 exact⟨q,c ++ #[o],by rw[alloc_eq_grow,grow_grow]⟩
theorem WB.drew{w a b:World}(h:WB w a)(z:b=a.drew):WB w b:=by
 obtain⟨q,c,rfl⟩:=h
 subst z
 exact⟨q+1,c,rfl⟩
section
variable {P:Program} {n:Nat} {Q:Post} {f:Nat->Value} {w:World} {ops:Array Oper} {rest:List Oper} {o:Oper}
theorem L.aeM{T:TypeId}{x:Operand}{v:Value}{m:Nat}{y:Nat->Value}(i:Region.wanted o (yf ops f)=true)(d:o.op = .box T x)(hx:ev f x=v)(b:v.cells=aA m y)(c:inn n o.dst=true)
 (h : ∀ g a,g=w.heap.size->aP a g m y T->Stp w.heap.size w a->(∃ o,a=w.alloc o)->L P n ops Q rest (put f o.dst (.pointer (some ⟨g,0,none⟩))) a):L P n ops Q (o::rest) f w:=by
 have e:(execOp (ev f) o).run P w = .ok (.value (.pointer (some ⟨w.heap.size,0,none⟩))) (w.alloc (.cells v.cells T)):=by
  unfold execOp
  simp[d,hx,Instr.box,newVar,newRow]
 refine L.val i e c (h _ _ rfl ?_ (Stp.alloc _ _) ⟨_,rfl⟩)
 show(w.alloc _).heap[w.heap.size]? = _
 rw[alloc_at,if_pos rfl,b]
theorem L.WC{T E:TypeId}{len s:Nat}{l:List (Nat × Operand)}{vs:List (Nat × Value)}{zc y:Nat->Value}(I:Region.wanted o (yf ops f)=true)(B:o.op = .buildSlice T len l.toArray)(C:l.map (fun p=>(p.1,ev f p.2))=vs)(H:P.underlying T=some (.slice E))(k:(P.info? E).map (·.size)=some s)
 (q:Nat.ble (len*s) 16777216=true) (d:Nat.beq (len*s) 0=false) (J:((P.info? E).bind (·.zero)).map (·.cells)=some (aA s zc)) (u:Instr.fill (fun i=>some (i*s,s)) (aA (len*s) (fun j=>zc (j % s))) vs=some (aA (len*s) y)) (t:inn n o.dst=true)
 (h : ∀ g a,g=w.heap.size->aP a g (len*s) y E->Stp w.heap.size w a->(∃ o,a=w.alloc o)->L P n ops Q rest (put f o.dst (.slice (some ⟨g,0,none⟩) len len)) a):L P n ops Q (o::rest) f w:=by
 obtain⟨z,K,M⟩:=Option.map_eq_some_iff.1 J
 obtain⟨i,c,N⟩:=Option.bind_eq_some_iff.1 K
 have G:i.size=s:=by rw[c]at k; simpa using k
 have O : ¬ len*s>2^24:=by have:=Nat.le_of_ble_eq_true q; omega
 have b:len*s≠0:=fun e=>by rw[e]at d; exact absurd d (by decide)
 have F:0<s:=Nat.pos_of_ne_zero fun e=>b (by rw[e,Nat.mul_zero])
 have r:(Array.range (len*s)).map (fun j=>z.cells[j % z.cells.size]!)=aA (len*s) (fun j=>zc (j % s)):=by
  refine tC (by simp) fun j x => ?_
  have A:j % s<s:=Nat.mod_lt _ F
  have v:=fE zc A
  rw[M]
  simp[x,bS]
  rw[getElem!_def,v]
 have D:(execOp (ev f) o).run P w = .ok (.value (.slice (some ⟨w.heap.size,0,none⟩) len len)) (w.alloc (.cells (aA (len*s) y) E)):=by
  unfold execOp
  simp only[B,List.map_toArray,C]
  unfold Instr.buildSlice
  have m : ¬ 16777216<len*s:=by omega
  simp[underlying,sizeOf,typeInfo,zeroValue,H,c,G,N,m]
  simp[b,r,u,newRow]
 refine L.val I D t (h _ _ rfl ?_ (Stp.alloc _ _) ⟨_,rfl⟩)
 show(w.alloc _).heap[w.heap.size]? = _
 rw[alloc_at,if_pos rfl]
end
section
variable {P:Program} {n:Nat} {ops:List Oper} {Q:Post}
theorem W.abA{f:Nat->Value}{w:World}{id:Nat}(l:List Nat)(cs:List Nat)(S:World->World->Prop)(j : ∀ w,S w w)(m : ∀ a b c,S a b->S b c->S a c)(fu:List (Nat × Nat × List Nat))(t:P.follows .mixedOrders=true)(u:kr n ops=true)(x:Region.noSelect ops.toArray=true)(e:yK ops l=true)(v:uL ops cs fu l=true)
 (h : ∀ g,Below w.heap.size w g->g=w.drew->R P n ops cs S Q l f g):W P n (.region id ops.toArray true) Q f w:=fun a o=>by
 refine wp_region_any t ?_
 unfold yK at e
 rw[Bool.and_eq_true,Bool.and_eq_true,Bool.and_eq_true,List.all_eq_true,List.all_eq_true]at e
 obtain⟨⟨⟨y,z⟩,p3⟩,p4⟩:=e
 have s:=Nat.eq_of_beq_eq_true y
 have A:l.Nodup:=of_decide_eq_true p3
 have:=R.any (P:=P) (Q:=Q) (fu:=fu) u x j m ops.length l (Array.replicate ops.length false) a f w.drew s (by simp) (H6.start _ _ _) (fun i=>by
  have p : ∀ i,(Array.replicate ops.length false).getD i false=false:=fun i=>getD_replicate_false _ _
  constructor
  ·intro d; exact⟨by simpa [Nat.blt_eq] using z i d,p i⟩
  ·intro d
   obtain⟨k,q,r⟩:=List.any_eq_true.1 (p4 i (by simpa using d.1))
   rw[Nat.eq_of_beq_eq_true r]; exact q) A (uM v) o (h w.drew (Below.refl _ _).drew rfl)
 simpa using this
end
end Fx
namespace Rt
structure Hu where
 x:Nat->Int
 h:0<=x 1/\x 1<=18446744073709551615
def g0:Hu:=⟨fun _=>0,by decide⟩
instance:Inhabited Hu:=⟨g0⟩
def Ib(x:Nat->Int):Hu:=if h:0<=x 1/\x 1<=18446744073709551615 then⟨x,h⟩else g0
def JR(x:Hu):Int:=x.x 0*18446744073709551616+x.x 1
theorem Yi{x:Nat->Int}(h:0<=x 1/\x 1<=18446744073709551615):(Ib x).x=x:=by unfold Ib; rw[dif_pos h]
def Pk(a b:Int):Int:=if a=0 then b else a
def LJ(a b:Int)(i:Nat):Int:=if i=0 then a else b
def orW(a b:Int):Nat->Value:=fun j => .int .i64 (LJ a b j)
section
variable {a b:Int} {i:Nat}
theorem amn(d:i=0\/a=0)(c:LJ a b i=0):i+1=0\/a=0:=by
 unfold LJ at c
 rcases d with rfl|e
 ·exact .inr (by simpa using c)
 exact .inr e
theorem amo(d:i=0\/a=0)(c:LJ a b i=0):i+1<2\/Pk a b=0:=by
 unfold LJ at c
 by_cases e:i=0
 ·exact .inl (by omega)
 rw[if_neg e]at c
 rcases d with h|h
 ·exact absurd h e
 exact .inr (by unfold Pk; rw[if_pos h]; exact c)
theorem amq(d:i=0\/a=0)(c : ¬ LJ a b i=0):Pk a b=LJ a b i:=by
 unfold LJ at c ⊢
 unfold Pk
 by_cases e:i=0
 ·rw[if_pos e]at c ⊢; rw[if_neg c]
 rw[if_neg e]
 rcases d with h|h
 ·exact absurd h e
 rw[if_pos h]
theorem amr(h:i<2\/Pk a b=0)(c : ¬ (i:Int)<2):Pk a b=0:=by
 rcases h with h|h
 ·omega
 exact h
end
theorem abB(x y:Hu):Pk (Fx.jU (x.x 0) (y.x 0)) (Fx.jU (x.x 1) (y.x 1))=Fx.jU (JR x) (JR y):=by
 have a:=x.h
 have b:=y.h
 unfold Pk Fx.jU JR
 repeat' split
 all_goals first|rfl|omega
structure OZ(n:Nat)(S:Nat->Bool)(il:List Nat):Prop where
 nd:il.Nodup
 mem : ∀ i,i∈il<->(i<n/\S i=true)
theorem OZ.start(n:Nat):OZ n (fun _=>false) []:=⟨List.nodup_nil,fun i=>⟨fun h=>(nomatch h),fun h=>(nomatch h.2)⟩⟩
theorem OZ.step{n i:Nat}{S:Nat->Bool}{c:List Nat}(h:OZ n S c)(hi:i<n)(l:S i=false):OZ n (Fx.aQ S i true) (c ++ [i]):=by
 have k:i ∉ c:=fun g=>by have:=((h.mem i).1 g).2; rw[l]at this; cases this
 refine⟨List.nodup_append.2 ⟨h.nd,by simp,fun a f b d e => ?_⟩,fun j => ?_⟩
 ·rw[List.mem_singleton]at d; subst d; subst e; exact k f
 rw[List.mem_append,List.mem_singleton,h.mem]
 show _<->(j<n/\(if j=i then true else S j)=true)
 by_cases e:j=i
 ·subst e; rw[if_pos rfl]; exact⟨fun _=>⟨hi,rfl⟩,fun _ => .inr rfl⟩
 rw[if_neg e]; exact⟨fun h=>h.elim id fun h=>absurd h e,fun h => .inl h⟩
theorem OZ.len{n:Nat}{S:Nat->Bool}{c:List Nat}(h:OZ n S c):c.length<=n :=
 Bp n c.length (fun q=>c.getD q 0) (fun q d=>by
  have:c.getD q 0∈c:=by rw[List.getD_eq_getElem?_getD,List.getElem?_eq_getElem d]; exact List.getElem_mem d
  exact((h.mem _).1 this).1) fun a b f g e=>by
  have e:c.getD a 0=c.getD b 0:=e
  rw[List.getD_eq_getElem?_getD,List.getD_eq_getElem?_getD,List.getElem?_eq_getElem f,List.getElem?_eq_getElem g]at e
  exact(List.getElem_inj h.nd).1 e
structure GrS(m:dY)(l:List Hu):Prop where
 mem : ∀ x,x∈l -> ∃ i,i<m.gn/\x.x=m.g i
 all : ∀ i,i<m.gn -> ∃ x,x∈l/\x.x=m.g i
 up:l.Pairwise fun x y=>JR x<JR y
theorem GrS.of{m:dY}{w:World}{b:Nat}{t:List Nat}{l:List Hu}{S:Nat->Bool}(o:Fx.gN w b m.gn (fun i=>m.g i 0) (fun i=>m.g i 1) (sJ m.g))(hi:OZ m.gn S t)(z : ∀ i,i<m.gn->S i=true)(r:l.Perm (t.map fun i=>Ib (m.g i)))(B:l.Pairwise fun x y=>JR x<=JR y):GrS m l:=by
 have k : ∀ i,i<m.gn->(Ib (m.g i)).x=m.g i:=fun i hi=>Yi (o.ok hi).b
 have f : ∀ i,i∈t<->i<m.gn:=fun i=>by rw[hi.mem]; exact⟨fun h=>h.1,fun h=>⟨h,z i h⟩⟩
 have p : ∀ x,x∈l -> ∃ i,i<m.gn/\x=Ib (m.g i):=fun x s=>by
  obtain⟨i,c,d⟩:=List.mem_map.1 (r.mem_iff.1 s)
  exact⟨i,(f i).1 c,d.symm⟩
 have A:l.Nodup:=by
  rw[r.nodup_iff,List.nodup_iff_pairwise_ne,List.pairwise_map]
  refine(List.nodup_iff_pairwise_ne.1 hi.nd).imp_of_mem fun {a b} ha hb q e=>q ?_
  have c:=congrArg Hu.x e
  rw[k a ((f a).1 ha),k b ((f b).1 hb)]at c
  exact o.inj a b ((f a).1 ha) ((f b).1 hb) (by show m.g a 0=m.g b 0; rw[c]) (by show m.g a 1=m.g b 1; rw[c])
 refine⟨fun x s => ?_,fun i c => ?_,?_⟩
 ·obtain⟨i,c,d⟩:=p x s
  exact⟨i,c,by rw[d,k i c]⟩
 ·exact⟨Ib (m.g i),r.mem_iff.2 (List.mem_map.2 ⟨i,(f i).2 c,rfl⟩),k i c⟩
 refine(B.and (List.nodup_iff_pairwise_ne.1 A)).imp_of_mem fun {a b} ha hb h => ?_
 obtain⟨i,c,u⟩:=p a ha
 obtain⟨j,d,v⟩:=p b hb
 have q:=h.2
 rcases Int.lt_or_eq_of_le h.1 with h3|h3
 ·exact h3
 exfalso
 have C:=a.h
 have D:=b.h
 unfold JR at h3
 refine q ?_
 have n:a.x 0=b.x 0/\a.x 1=b.x 1:=by omega
 rw[u,v,k i c,k j d]at n
 have:=o.inj i j c d n.1 n.2
 rw[u,v,this]
def TK(m:dY)(l:List Int)(k:Nat):Nat->Value:=kQ (l.getD k 0) (m.T.par (l.getD k 0)) (BQ m (l.getD k 0))
def Ut(l:List Hu)(k:Nat):Nat->Value:=iM (l.getD k g0).x
theorem JU{id par:Int}{R:Nat->Int}{z:Nat->Value} : ∀ j,j<56->Fx.bG (Fx.bG (Fx.bG z 0 1 (fun _ => .int .u64 id)) 1 1 (fun _ => .int .u64 par)) 2 54 (Fx.rv .i64 R) j=kQ id par R j:=fun j a=>by
 unfold Fx.bG kQ
 rcases(show j=0\/j=1\/2<=j by omega)with rfl|rfl|h
 ·rfl
 ·rfl
 ·rw[if_pos (by omega),if_neg (by omega),if_neg (by omega)]; rfl
theorem WE{m:dY}{l:List Int}{n:Nat}{id par:Int}{R:Nat->Int}{z z2:Nat->Value}(b:l.getD n 0=id)(c:m.T.par id=par)(d:BQ m id=R) : ∀ j,j<(n+1)*56->Fx.gM (Fx.flat 56 (TK m l)) (n*56) (Fx.bG z (0*56) 56 (Fx.bG (Fx.bG (Fx.bG z2 0 1 (fun _ => .int .u64 id)) 1 1 (fun _ => .int .u64 par)) 2 54 (Fx.rv .i64 R))) j=Fx.flat 56 (TK m l) j:=fun j a =>
 (Fx.wJ j a).trans (Fx.bH (fun k _ q f=>by
  unfold Fx.pJ
  by_cases e:k=n
  ·subst e; rw[if_pos rfl,JU q f]; unfold TK; rw[b,c,d]
  ·rw[if_neg e]) j a)
theorem WG{g:Nat->Nat->Int}{a:List Nat}{i:Nat}{z:Nat->Value} : ∀ j,j<(a.length+1)*5->Fx.gM (Fx.flat 5 fun k=>iM (g (a.getD k 0))) (a.length*5) (Fx.bG z (0*5) 5 (iM (g i))) j=Fx.flat 5 (fun k=>iM (g ((a ++ [i]).getD k 0))) j:=fun j b =>
 (Fx.wJ j b).trans (Fx.bH (fun k c q _=>by
  unfold Fx.pJ
  by_cases e:k=a.length
  ·subst e; rw[if_pos rfl]; simp[List.getD_eq_getElem?_getD]
  ·rw[if_neg e]; show iM (g (a.getD k 0)) q=_; rw[List.getD_eq_getElem?_getD,List.getD_eq_getElem?_getD,List.getElem?_append_left (by omega)]) j b)
theorem WH{m:dY}{a:List Nat}{S:Nat->Bool}{w:World}{b:Nat}(d:Fx.gN w b m.gn (fun i=>m.g i 0) (fun i=>m.g i 1) (sJ m.g))(hi:OZ m.gn S a) : ∀ j,j<(a.map fun i=>Ib (m.g i)).length*5->Fx.flat 5 (fun k=>iM (m.g (a.getD k 0))) j=Fx.flat 5 (Ut (a.map fun i=>Ib (m.g i))) j:=fun j f =>
 Fx.bH (n:=(a.map fun i=>Ib (m.g i)).length) (fun k c q _=>by
  rw[List.length_map]at c
  unfold Ut
  have h:a.getD k 0∈a:=by rw[List.getD_eq_getElem?_getD,List.getElem?_eq_getElem c]; exact List.getElem_mem c
  have e:((a.map fun i=>Ib (m.g i)).getD k g0)=Ib (m.g (a.getD k 0)):=by
   rw[List.getD_eq_getElem?_getD,List.getD_eq_getElem?_getD,List.getElem?_eq_getElem (by rw[List.length_map]; exact c),List.getElem?_eq_getElem c,List.getElem_map]; rfl
  rw[e,Yi (d.ok ((hi.mem _).1 h).1).b]) j f
theorem O1(s:CO)(a:Option Addr)(n c:Nat):Fx.dz (nH s) 18 (.slice a n c)=nH { s with na:=a,nn:=n,nc:=c }:=by
 funext p
 unfold Fx.dz nH
 by_cases e:p=18
 ·subst e; rw[if_pos rfl,if_neg (by omega),if_neg (by omega),if_neg (by omega),if_pos rfl]
 rw[if_neg e]
 repeat' split
 all_goals first|rfl|omega
theorem LK(s:CO)(a:Option Addr)(n c:Nat) : ∀ p,p<20->Fx.dz (nH s) 19 (.slice a n c) p=nH { s with ga:=a,gn:=n,gc:=c } p:=fun p b=>by
 unfold Fx.dz nH
 by_cases e:p=19
 ·subst e; rw[if_pos rfl,if_neg (by omega),if_neg (by omega),if_neg (by omega),if_neg (by omega)]
 ·rw[if_neg e]
  repeat' split
  all_goals first|rfl|omega
def TL(m:dY)(d:Option Addr)(f e:Nat)(a:Option Addr)(c b:Nat):CO:=⟨m.inn,m.left,m.known,d,f,e,a,c,b⟩
theorem WI{id par:Int}{R:Nat->Int}{z z2:Nat->Value} : ∀ j,j<1*56->(Fx.bG z (0*56) 56 (Fx.bG (Fx.bG (Fx.bG z2 0 1 (fun _ => .int .u64 id)) 1 1 (fun _ => .int .u64 par)) 2 54 (Fx.rv .i64 R)) j).oneCell'=true:=fun j a=>by
 rw[show Fx.bG z (0*56) 56 (Fx.bG (Fx.bG (Fx.bG z2 0 1 (fun _ => .int .u64 id)) 1 1 (fun _ => .int .u64 par)) 2 54 (Fx.rv .i64 R)) j=Fx.bG (Fx.bG (Fx.bG z2 0 1 (fun _ => .int .u64 id)) 1 1 (fun _ => .int .u64 par)) 2 54 (Fx.rv .i64 R) (j-0*56) by unfold Fx.bG; rw[if_pos (by omega)],JU _ (by omega)]
 exact tY _ _ _ _
theorem WJ{x:Nat->Int}{z:Nat->Value} : ∀ j,j<1*5->(Fx.bG z (0*5) 5 (iM x) j).oneCell'=true:=fun j a=>by
 unfold Fx.bG; rw[if_pos (by omega)]; exact rU x _
theorem abC{m:dY}{c:List Nat}{S:Nat->Bool}{w f:World}{b B cap d:Nat}{a:Option Addr}{T:TypeId}(l:Fx.gN w b m.gn (fun i=>m.g i 0) (fun i=>m.g i 1) (sJ m.g))(hi:OZ m.gn S c)(e:d=c.length)(n:Fx.Own f B T 5 (.slice a d cap) d (Fx.flat 5 fun k=>iM (m.g (c.getD k 0)))) :
 Fx.Own f B T 5 (.slice a (c.map fun i=>Ib (m.g i)).length cap) (c.map fun i=>Ib (m.g i)).length (Fx.flat 5 (Ut (c.map fun i=>Ib (m.g i)))):=by
 have h:=n.congr (y:=Fx.flat 5 (Ut (c.map fun i=>Ib (m.g i)))) (fun j o=>WH l hi j (by rw[List.length_map,<- e]; exact o))
 rw[List.length_map,<- e]; exact h
theorem TM(m:dY){z:Nat->Value}(e : ∀ j,18<=j->z j = .slice none 0 0){x1 x2:Nat->Value}(h1 : ∀ j,j<6->x1 j = .bool (m.inn j))(d : ∀ j,j<6->x2 j = .bool (m.left j)) : ∀ j,j<20->Fx.bG (Fx.bG (Fx.bG z 0 6 x1) 6 6 x2) 12 6 (Fx.rv .u64 m.known) j=nH (TL m none 0 0 none 0 0) j:=fun j f=>by
 unfold Fx.bG nH
 by_cases a:j<6
 ·rw[if_neg (by omega),if_neg (by omega),if_pos (by omega),if_pos a]; exact h1 _ (by omega)
 ·by_cases b:j<12
  ·rw[if_neg (by omega),if_pos (by omega),if_neg a,if_pos b]; exact d _ (by omega)
  ·by_cases c:j<18
   ·rw[if_pos (by omega),if_neg a,if_neg b,if_pos c]; rfl
   ·rw[if_neg (by omega),if_neg (by omega),if_neg (by omega),if_neg a,if_neg b,if_neg c,e j (by omega)]
    split <;> rfl
end Rt
structure StQ(w:World)(B:Nat)(m:dY)(s:CO)(l:List Int)(gl:List Hu):Prop where
 inn:s.inn=m.inn
 left:s.left=m.left
 known:s.known=m.known
 nn:s.nn=l.length
 gn:s.gn=gl.length
 ls:l.Pairwise (· < ·) /\ ∀ k,k∈l<->m.T.has k=true
 len:l.length<=32
 gs:GrS m gl
 glb:gl.length<=m.gn
 n:Fx.Own w B 61 56 (.slice s.na s.nn s.nc) s.nn (Fx.flat 56 (TK m l))
 g:Fx.Own w B 66 5 (.slice s.ga s.gn s.gc) s.gn (Fx.flat 5 (Ut gl))
end Go.Proofs.YtahbiajdgealnaaGreatDoor
namespace Go.Proofs.YtahbiajdgealnaaGreatDoor
open Go.RowKit Rt
open Fx (fD eT fI bC gL gK dw dR fZ iL dZ jg fP jh iV Lv sN Ln Ws Qv Wl Rp Wc Qs Wr Sb Lk Wk rC rV sR Rs Rn Rd Rk Wb Wx Wo Dw Wt qQ JL Qn EI Ao yj yI Ca Dl pG gY yL lZ sO uq vP wB xR Cy Ak rv aA aP bG aQ ev bX Stp dG aU flat dz Mp eX aT gN iF bD down iH jB jU iA ku bH bJ cells_one iG bT wD unseen jr gM bU dH bK bP bV bW fU gJ oQ gG)
set_option maxRecDepth 20000
set_option linter.unusedVariables false
theorem Nn(n:Int)(w:World) :
 Calls Tryz.prog 69 #[au n] w fun e a=>e = .returned (.bool false)/\a=w:=by
 refine Kent Tryz.func69 6 ?_
 refine ay<|av aF<|aC<|ay<|av (au n)<|av (au n)<|Lv aF (jJ rfl)<|av aF<|aC<|Wr<|aI aF ?_
 exact⟨rfl,rfl⟩
theorem WK(a b:Int)(w:World) :
 Calls Tryz.prog 46 #[au a,au b] w fun e f=>e = .returned (au (jU a b))/\f=w:=by
 refine Kent Tryz.func46 20 ?_
 refine ay<|av (au 0)<|aC<|ay<|av (au a)<|kg (Nn a _) _ rfl<|av aF<|aC<|ay<|av (au b)<|kg (Nn b _) _ rfl<|av aF<|aC<|Ws<|ay<|av aF<|aC<|aK<|Wk<|sN<|Ws<|ay<|av aF<|aC<|aK<|Wk<|sN<|Ws<|ay<|av (au a)<|av (au b) ?_
 by_cases c:a<b
 ·refine Lv aG (gy c)<|aC<|aM<|ay<|av (au (-1))<|aC<|Wr<|sR<|aI (au (-1)) ?_
  exact⟨by unfold jU; simp[c],rfl⟩
 refine Lv aF (gD c)<|aC<|aK<|Wk<|sN<|Ws<|ay<|av (au a)<|av (au b) ?_
 by_cases d:b<a
 ·refine Lv aG (jY d)<|aC<|aM<|ay<|av (au 1)<|aC<|Wr<|sR<|aI (au 1) ?_
  exact⟨by unfold jU; simp[c,d],rfl⟩
 refine Lv aF (jZ d)<|aC<|aK<|Wk<|sN<|ay<|av (au 0)<|aC<|Wr<|aI (au 0) ?_
 exact⟨by unfold jU; simp[c,d],rfl⟩
theorem Np(n:Int)(w:World) :
 Calls Tryz.prog 70 #[aD n] w fun e a=>e = .returned (.bool false)/\a=w:=by
 refine Kent Tryz.func70 6 ?_
 refine ay<|av aF<|aC<|ay<|av (aD n)<|av (aD n)<|Lv aF (jJ rfl)<|av aF<|aC<|Wr<|aI aF ?_
 exact⟨rfl,rfl⟩
theorem WL(a b:Int)(w:World) :
 Calls Tryz.prog 47 #[aD a,aD b] w fun e f=>e = .returned (au (jU a b))/\f=w:=by
 refine Kent Tryz.func47 20 ?_
 refine ay<|av (au 0)<|aC<|ay<|av (aD a)<|kg (Np a _) _ rfl<|av aF<|aC<|ay<|av (aD b)<|kg (Np b _) _ rfl<|av aF<|aC<|Ws<|ay<|av aF<|aC<|aK<|Wk<|sN<|Ws<|ay<|av aF<|aC<|aK<|Wk<|sN<|Ws<|ay<|av (aD a)<|av (aD b) ?_
 by_cases c:a<b
 ·refine Lv aG (gy c)<|aC<|aM<|ay<|av (au (-1))<|aC<|Wr<|sR<|aI (au (-1)) ?_
  exact⟨by unfold jU; simp[c],rfl⟩
 refine Lv aF (gD c)<|aC<|aK<|Wk<|sN<|Ws<|ay<|av (aD a)<|av (aD b) ?_
 by_cases d:b<a
 ·refine Lv aG (jY d)<|aC<|aM<|ay<|av (au 1)<|aC<|Wr<|sR<|aI (au 1) ?_
  exact⟨by unfold jU; simp[c,d],rfl⟩
 refine Lv aF (jZ d)<|aC<|aK<|Wk<|sN<|ay<|av (au 0)<|aC<|Wr<|aI (au 0) ?_
 exact⟨by unfold jU; simp[c,d],rfl⟩
theorem ams(a b:Int)(c:Nat)(w:World)(q:iF w c 0 2 (orW a b)) :
 Calls Tryz.prog 45 #[bI c 2 2] w fun e s=>e = .returned (au (Pk a b))/\s=w:=by
 refine Kent Tryz.func45 18 ?_
 refine ay<|av (au 0)<|aC<|ay<|av (au 0)<|aC<|Ws<|ay<|av (bI c 2 2)<|av (au 2)<|av (au 0)<|aC<|Wb<|Wo (fun f p => ∃ i:Nat,i<=2/\((i=0\/a=0))/\((i<2\/Pk a b=0))/\p=w/\f 3=au 0/\f 6=bI c 2 2/\f 7=au 2/\f 8=au ((i:Int))/\iF p c 0 2 (orW a b)) (fun f _=>(2-intOf (f 8)).toNat) ⟨0,(by omega),(.inl rfl),(.inl (by decide)),rfl,Fx.ic,(by rfl),Fx.ic,Fx.ic,q⟩ ?_
 rintro t v ⟨i,u,m,r,l,j,n,k,g,o⟩
 refine ay ?_
 by_cases h:(i:Int)<2
 ·refine Lv aG (gy h (hx:=g) (hy:=k))<|aC<|Ws<|aM<|Wk<|sN<|Ws<|Wb<|ay<|Lv ((pf c i)) (cu 1 (hx:=n) (hi:=g))<|Lv (au (LJ a b i)) (aL o i)<|av (au (LJ a b i))<|aC<|ay<|av (au (LJ a b i))<|aS j ?_
  by_cases d:(LJ a b i)=0
  ·refine Lv aF (jJ d)<|aC<|aK<|Wk<|bP<|sN<|Wl<|Lv (au ((i:Int)+1)) (eZ (hx:=g))<|av (au ((i:Int)+1))<|Ln<|gJ ⟨i+1,(by omega),(amn m d),(amo m d),l,(j.trans Fx.ic),n,(k.trans Fx.ic),Fx.ic,o⟩ ?_
   show(2-intOf ((au ((i:Int)+1)))).toNat<_
   simp only[g,intOf]; omega
  refine Lv aG (mE d)<|aC<|aM<|ay<|av (au (LJ a b i))<|av (au (LJ a b i))<|aC<|Wr<|bK<|sR<|oQ<|bK<|sR<|aI (au (LJ a b i)) ?_
  exact⟨by rw[amq m d],l⟩
 refine Lv aF (gD h (hx:=g) (hy:=k))<|aC<|Ws<|aK<|Wx<|bV<|fU<|bW<|sN<|ay<|aS j<|av (au 0)<|aC<|Wr<|aI (au 0) ?_
 exact⟨by rw[amr r h],l⟩
set_option maxRecDepth 20000
set_option linter.unusedVariables false
theorem Rt.abD{w:World}{g:Nat}{a b:Int}{z:Nat->Value}{T:TypeId}(h:aP w g 2 (bG (bG z (0*1) 1 (fun _=>au a)) (1*1) 1 (fun _=>au b)) T):iF w g 0 2 (orW a b):=(h.congr (y:=orW a b) fun j c=>by
 rcases(show j=0\/j=1 by omega)with rfl|rfl <;> rfl).aH
theorem abE(x y:Hu)(w:World) :
 Calls Tryz.prog 44 #[.agg (aA 5 (iM x.x)),.agg (aA 5 (iM y.x))] w fun e H=>e = .returned (au (jU (JR x) (JR y))) /\ ∃ q C,H=Go.Sort.grow (w.drewN q) C:=by
 refine Kent Tryz.func44 17 ?_
 refine ay<|Fx.L.aeM (m:=5) (y:=iM x.x) (by rfl) rfl rfl (bJ _ _) rfl fun k V t d D I => ?_
 have f:=aY D.old (Below.refl w.heap.size w)
 have M:=gH t
 have S:=d.lt
 refine Fx.L.aeM (m:=5) (y:=iM y.x) (by rfl) rfl rfl (bJ _ _) rfl fun l X g n E J => ?_
 have⟨B,p⟩:=eG E.old d f
 have N:=jc g f.size
 have P:=bY g d.lt
 have T:=n.lt
 refine av (au 0)<|aC<|Ws ?_
 -- region 1 draws
 refine Fx.W.abA [0,2,5,7,1,3,6,8,4,9,10,11,12] [0,4,0,4,2,0,1,0,1,2,2,3,0] Fx.Mk sO Fx.Mk.trans (fu := [(4,1,[1]),(9,1,[4,1]),(10,1,[4,1]),(11,1,[10,4,1]),(4,3,[3]),(9,3,[4,3]),(10,3,[4,3]),(11,3,[10,4,3]),(11,6,[9,6]),(11,8,[9,8]),(9,4,[4]),(10,4,[4]),(11,4,[10,4]),(12,4,[4]),(10,9,[9]),(11,9,[9]),(12,9,[9]),(11,10,[10]),(12,10,[10]),(12,11,[11])]) (by kernel_rfl) (by kernel_rfl) (by kernel_rfl) (by kernel_rfl) (by kernel_rfl) fun Z z A => ?_
 have⟨a,b,r⟩:=jk z B n p
 refine aV ((pt k))<|aV ((pt l))<|aV ((pf k 1))<|aV ((pf l 1))<|Rs (au (x.x 0)) (aL a.aH 0) ?_
 refine Rs (au (y.x 0)) (aL b.aH 0) ?_
 refine Rd (v:=aD (x.x 1)) (by rfl) (by rfl) (sO _) (fun G c=>bC (x:=iM x.x) rfl rfl (by kernel_rfl) (a.aH.below c (by have:=a.lt; omega)) (i:=1) (by omega) (by omega) rfl) ?_
 refine Rd (v:=aD (y.x 1)) (by rfl) (by rfl) (sO _) (fun G c=>bC (x:=iM y.x) rfl rfl (by kernel_rfl) (b.aH.below c (by have:=b.lt; omega)) (i:=1) (by omega) (by omega) rfl) ?_
 refine zC (kg (WK (x.x 0) (y.x 0) _) _ rfl (Ln ⟨Below.refl _ _,?_⟩))
 refine zC (kg (WL (x.x 1) (y.x 1) _) _ rfl (Ln ⟨Below.refl _ _,?_⟩))
 refine zC<|Fx.L.WC (vs := [(0,au (jU (x.x 0) (y.x 0))),(1,au (jU (x.x 1) (y.x 1)))]) (s:=1) (zc:=rv .i64 (fun _=>0)) (y:=bG (bG (fun j=>(rv .i64 (fun _=>0)) (j % 1)) (0*1) 1 (fun _=>au (jU (x.x 0) (y.x 0)))) (1*1) 1 (fun _=>au (jU (x.x 1) (y.x 1)))) (by rfl) rfl rfl Tryz.underlying88 (by kernel_rfl) (by rfl) (by rfl) (by kernel_rfl) (by rw[bD (off:=0*1) (s:=1) (y:=fun _=>au (jU (x.x 0) (y.x 0))) rfl (cells_one (by rfl)) (by rfl)]; rw[bD (off:=1*1) (s:=1) (y:=fun _=>au (jU (x.x 1) (y.x 1))) rfl (cells_one (by rfl)) (by rfl)]; rfl) rfl fun u Y h o F K => ?_
 have O:=jc h r.size
 have⟨Q,R⟩:=wM h a.lt b.lt
 have U:=o.lt
 refine Ln ⟨F.old,?_⟩
 refine fQ<|kg (ams (jU (x.x 0) (y.x 0)) (jU (x.x 1) (y.x 1)) u _ (abD o)) _ rfl<|Ln<|aV (au (Pk (jU (x.x 0) (y.x 0)) (jU (x.x 1) (y.x 1))))<|bM<|Wr<|aI (au (Pk (jU (x.x 0) (y.x 0)) (jU (x.x 1) (y.x 1)))) ?_
 exact⟨by rw[<- abB],(((((Fx.WB.refl w).alloc I).alloc J).drew A).alloc K)⟩
theorem abF{w:World}{B cap:Nat}{a:Option Addr}{l:List Hu}(h:Fx.Own w B 66 5 (.slice a l.length cap) l.length (flat 5 (Ut l)))(i:l.length<=1000000) :
 Calls Tryz.prog 43 #[.slice a l.length cap,.func (.func 44) #[] #[]] w fun e b=>e = .returned (.tuple #[]) /\ ∃ c:List Hu,c.Perm l/\c.Pairwise (fun x y=>JR x<=JR y)/\Fx.Own b B 66 5 (.slice a l.length cap) l.length (flat 5 (Ut c))/\(∀ k,k<w.heap.size->(Value.slice a l.length cap).ownBlock≠some k->b.heap[k]? = w.heap[k]?)/\iG [66] w b/\Below B w b:=by
 have f:Fx.Own w B 66 5 (.slice a l.length cap) l.length (flat 5 fun q=>(fun x:Hu=>iM x.x) (l.getD q g0)):=h
 have:=Fx.TJ aeL (fun d w=>enters_of Tryz.func44 (by kernel_rfl) rfl d w) (by decide) Tryz.isAgg66 Tryz.sizeOf66 (enc:=fun x:Hu=>iM x.x) (e0:=g0) (ky:=JR) (fun x j _=>rU x.x j) f
  (by intro g x y; refine(abE x y g).mono fun e b h => ?_; exact h) (by omega)
 exact this
theorem WO{m:dY}{d:List Nat}{S:Nat->Bool}{p w:World}{b B cap c:Nat}{a:Option Addr}(n:gN p b m.gn (fun i=>m.g i 0) (fun i=>m.g i 1) (sJ m.g))(hi:OZ m.gn S d)(e:c=d.length)(o:Fx.Own w B 66 5 (.slice a c cap) c (flat 5 fun k=>iM (m.g (d.getD k 0))))(q:c<=1000000) :
 Calls Tryz.prog 43 #[.slice a c cap,.func (.func 44) #[] #[]] w fun e f=>e = .returned (.tuple #[]) /\ ∃ h:List Hu,h.Perm (d.map fun i=>Ib (m.g i))/\h.Pairwise (fun x y=>JR x<=JR y)/\Fx.Own f B 66 5 (.slice a c cap) c (flat 5 (Ut h))/\(∀ k,k<w.heap.size->(Value.slice a c cap).ownBlock≠some k->f.heap[k]? = w.heap[k]?)/\iG [66] w f/\Below B w f:=by
 have j:(d.map fun i=>Ib (m.g i)).length=c:=by rw[List.length_map]; exact e.symm
 have l:=abF (abC n hi e o) (by rw[j]; omega)
 rw[j]at l
 exact l
set_option maxRecDepth 20000
set_option linter.unusedVariables false
set_option maxHeartbeats 1000000 in
theorem WQ(m:dY)(u B:Nat)(w:World)(h:jV w B u m)(hgn:m.gn<=900000) :
 Calls Tryz.prog 18 #[(pt u)] w fun e w' => ∃ s l gl,e = .returned (.agg (aA 20 (nH s)))/\StQ w' w.heap.size m s l gl/\Below w.heap.size w w':=by
 have hC:=h.c
 have hT:=h.t
 have hP:=h.p
 have hR:=h.r
 have hG:=h.g
 have hA:=h.a
 have hN:=h.ne
 have lC:=h.c.lt
 have lT:=h.t.lt
 have lP:=h.p.lt
 have lR:=h.r.lt
 have lG:=h.g.lt
 have lA:=h.a.lt
 refine Kent Tryz.func18 72 ?_
 refine ay<|Ca (m:=20) (y:=fun d=>if d<12 then .bool false else if d<18 then aD 0 else .slice none 0 0) (by rfl) rfl (by kernel_rfl) rfl fun D w1 kV m1 s1 z1 => ?_
 have⟨m2,m3,m4,m5,m6,m7,b1⟩:=jl s1.old hC hT hP hR hG hA (Below.refl w.heap.size w)
 have tL:=gH kV
 have⟨mH,yG,vZ,Ab,yD⟩:=AA kV hC.lt hP.lt hR.lt hG.lt hA.lt
 have vR:=m1.lt
 refine aC<|Ws<|ay<|av ((pt u))<|Lv aF (Fx.nQ rfl rfl rfl (by kernel_rfl))<|aC<|aK<|Wk<|sN<|Ws ?_
 -- region 3 draws
 refine Wt 13 (by kernel_rfl) (by kernel_rfl) fun oU dL gU => ?_
 have⟨m8,m9,m10,m11,m12,m13,m14,b2⟩:=lu dL m2 m3 m4 m5 m6 m7 m1 b1
 refine Dr ((pt u))<|Dr ((pt u))<|Dr ((pt u))<|pG (.agg (aA 6 (fun j => .bool (m.inn j)))) (fA m8.aH 0 (fun j J=>by rw[Nat.zero_add]; exact Bo J))<|Dr ((pt u))<|Dr ((pt u))<|Dr ((pf u 6))<|pG (.agg (aA 6 (fun j => .bool (m.left j)))) (fA m8.aH 6 (fun j J=>zY (p:=j) J (by omega)))<|Dr ((pt u))<|Dr ((pt u))<|Dr ((pf u 12))<|pG (.agg (aA 6 (rv .u64 m.known))) (fA m8.aH 12 (fun j J=>qc (p:=j) (by omega) (by omega)))<|Dr (.agg (aA 20 (bG (bG (bG (fun d=>if d<12 then .bool false else if d<18 then aD 0 else .slice none 0 0) 0 6 (fun j => .bool (m.inn j))) 6 6 (fun j => .bool (m.left j))) 12 6 (rv .u64 m.known))))<|Fx.St.nil ?_
 refine fB m14 0 (h1:=(bT (bT (bT (fun jq _=>by show((fun d=>if d<12 then .bool false else if d<18 then aD 0 else .slice none 0 0:Nat->Value) jq).oneCell'=true; simp only[]; repeat (first|rfl|split)) (fun _ _=>rfl)) (fun _ _=>rfl)) (fun _ _=>rfl))) fun V m15 s3 z2 => ?_
 have m16:aP V D 20 (bG (bG (bG (fun d=>if d<12 then .bool false else if d<18 then aD 0 else .slice none 0 0) 0 6 (fun j => .bool (m.inn j))) 6 6 (fun j => .bool (m.left j))) 12 6 (rv .u64 m.known)) 53:=aU m15
 have m17:aP V D 20 (nH (TL m none 0 0 none 0 0)) 53:=m16.congr (TM m (fun j J=>by show(if j<12 then _ else if j<18 then _ else _)=_; rw[if_neg (by omega),if_neg (by omega)]) (fun _ _=>rfl) (fun _ _=>rfl))
 have gI:=gY s3 m14.ty
 have⟨m18,m19,m20,m21,m22,m23⟩:=PS gI m8 m9 m10 m11 m12 m13
 have b3:=s3.below b2 b2.size (by omega)
 refine aC<|Ws<|ay<|av ((pt u))<|av ((pt u))<|av ((pf u 18))<|Lv ((pt m.tp)) (aL m18.aH 18)<|jM (Q6 m19) ?_
 rintro e9 w3 ⟨Yf,N,b,he,m24,hq1,aeB,hb1⟩
 refine⟨_,he,?_⟩
 clear he
 have⟨lW,mR,nY,nT,oF,nE,lH,b4⟩:=lu hb1 m18 m19 m20 m21 m22 m23 m17 b3
 refine av (au b.length)<|av (au 0)<|aC<|Wb ?_
 have m32:Fx.Own w3 w.heap.size 61 56 (.slice none 0 0) 0 (flat 56 (TK m b)):=wB _ _ _ _ _
 have kll:=aeB
 refine Wo (fun f A => ∃ i:Nat,∃ E:Option Addr,∃ F:Nat,i<=b.length/\f 0=(pt u)/\f 2=(pt D)/\f 27 = .slice Yf (b.length) (N)/\f 28=au ((b.length:Int))/\f 29=au ((i:Int))/\aP A u 29 (uo m) 106/\qz A B m.tp m.mb m.T/\Mp A m.pb m.T.n m.T.x (Cn m.T)/\Mp A m.rb m.T.n m.T.x (vI m.R)/\gN A m.gb m.gn (fun i=>m.g i 0) (fun i=>m.g i 1) (sJ m.g)/\gN A m.ab m.an m.ao m.ar Co/\Fx.Own A V.heap.size 28 1 (.slice Yf (b.length) (N)) b.length (wE b)/\aP A D 20 (nH (TL m E i F none 0 0)) 53/\Fx.Own A w.heap.size 61 56 (.slice E (i) (F)) i (flat 56 (TK m b))/\Below w.heap.size w A) (fun f _=>((b.length:Int)-intOf (f 29)).toNat) ⟨0,none,0,(by omega),(by rfl),(by rfl),(by rfl),Fx.ic,Fx.ic,lW,mR,nY,nT,oF,nE,m24,lH,m32,b4⟩ ?_
 rintro f1 w4 ⟨i,E,F,hi,P,h2,h3,h4,Q,oI,nG,oJ,pO,qL,qM,pQ,qW,mW,b5⟩
 refine ay ?_
 by_cases c30:(i:Int)<(b.length:Int)
 ·refine Lv aG (gy c30 (hx:=Q) (hy:=h4))<|aC<|Ws<|aM<|Wk<|sN<|Ws<|Wb<|ay ?_
  obtain⟨BK,eq1⟩:=pQ.addr (by omega)
  have lY:Fx.Own w4 V.heap.size 28 1 (bI BK b.length N) b.length (wE b):=pQ.dU (congrArg (fun q=>Value.slice q b.length N) eq1)
  refine Lv ((pf BK i)) (cu 1 (hx:=(h3.trans (congrArg (fun q=>Value.slice q (b.length) (N)) eq1))) (hi:=Q))<|Lv (aD (b.getD i 0)) (aL lY.aH i)<|av (aD (b.getD i 0))<|aC ?_
  obtain⟨I,hjz,aa⟩:=fT ((hq1.2 _).1 (tK (show i<b.length by omega) rfl))
  have ejx:BQ m (b.getD i 0)=m.R I:=by unfold BQ dY.idx; rw[kY h.t.inv.inj hjz aa]
  have ejp:m.T.par (b.getD i 0)=m.T.p I:=zD h.t.inv.inj hjz aa
  -- region 7 draws
  refine Ak [0,2,3,4,5,7,9,10,11,13,1,6,8,12,14,15,16,17,18,19] [0,1,0,0,0,0,4,0,4,0,0,0,4,0,4,0,2,2,0,3] (iG [61]) vP Fx.iG.trans (fu := [(19,1,[1]),(16,6,[15,8,6]),(17,6,[16,15,8,6]),(19,6,[6]),(16,8,[15,8]),(17,8,[16,15,8]),(19,8,[8]),(16,12,[15,14,12]),(17,12,[16,15,14,12]),(19,12,[12]),(16,14,[15,14]),(17,14,[16,15,14]),(19,14,[14]),(17,16,[16]),(18,16,[16]),(19,16,[16]),(18,17,[17]),(19,17,[17])]) (by kernel_rfl) (by kernel_rfl) (by kernel_rfl) (by kernel_rfl) (by kernel_rfl) fun yP fG lQ => ?_
  have⟨lX,qX,oZ,mX,rM,vU,qY,qZ,uw,b6⟩:=tH fG oI nG oJ pO qL qM qW mW lY b5
  refine Rp ((pf D 18)) (fun _=>iN h2 18)<|aV (aD (b.getD i 0))<|bQ P<|aV ((pt u))<|aV ((pf u 19))<|aV (aD (b.getD i 0))<|bQ P<|aV ((pt u))<|aV ((pf u 20))<|aV (aD (b.getD i 0))<|Rd (v := .slice E (i) (F)) (by rfl) (by rfl) (vP _) (fun v1 hv1=>bC (x:=nH (TL m E i F none 0 0)) rfl rfl (by kernel_rfl) (qY.jG hv1 (by decide)).aH (i:=18) (by omega) (by omega) rfl) ?_
  refine Rs (.map (some m.pb)) (aL lX.aH 19) ?_
  refine Rs (aD (m.T.p I)) (Fx.uN (z:=aD 0) rfl rfl rfl oZ Tryz.underlying100 Tryz.underlying28 (by rfl) hjz aa rfl) ?_
  refine Rs (.map (some m.rb)) (aL lX.aH 20) ?_
  refine Rs (.agg (aA 54 (rv .i64 (m.R I)))) (Fx.uN (z := .agg (aA 54 (rv .i64 (fun _=>0)))) rfl rfl rfl mX Tryz.underlying101 Tryz.underlying28 (by kernel_rfl) hjz aa rfl) ?_
  refine aV (.agg (aA 56 (bG (bG (bG (fun d=>if d<2 then aD 0 else au 0) 0 1 (fun _=>aD (b.getD i 0))) 1 1 (fun _=>aD (m.T.p I))) 2 54 (rv .i64 (m.R I)))))<|zC<|yj (vs := [(0,.agg (aA 56 (bG (bG (bG (fun d=>if d<2 then aD 0 else au 0) 0 1 (fun _=>aD (b.getD i 0))) 1 1 (fun _=>aD (m.T.p I))) 2 54 (rv .i64 (m.R I)))))]) (s:=56) (zc:=fun d=>if d<2 then aD 0 else au 0) (y:=bG (fun j=>(fun d=>if d<2 then aD 0 else au 0) (j % 56)) (0*56) 56 (bG (bG (bG (fun d=>if d<2 then aD 0 else au 0) 0 1 (fun _=>aD (b.getD i 0))) 1 1 (fun _=>aD (m.T.p I))) 2 54 (rv .i64 (m.R I)))) (by rfl) rfl rfl Tryz.underlying50 (by kernel_rfl) (by rfl) (by rfl) (by kernel_rfl) (by rw[bD (off:=0*56) (s:=56) (y:=bG (bG (bG (fun d=>if d<2 then aD 0 else au 0) 0 1 (fun _=>aD (b.getD i 0))) 1 1 (fun _=>aD (m.T.p I))) 2 54 (rv .i64 (m.R I))) rfl (bJ _ _) (by rfl)]; rfl) rfl fun g2 w5 Y uS s6 z3 => ?_
  have⟨rZ,sP,wP,sQ,sS,rO,vV,pR,vW,b7⟩:=tH s6.old lX qX oZ mX rM vU qY qZ uw b6
  have qO:=jc Y b6.size
  have⟨amu,aae,aaf,amv,amw,aag⟩:=Gv Y lX.lt oZ.lt mX.lt rM.lt vU.lt qY.lt
  have amx:(.slice E (i) (F):Value).ownBlock≠some g2:=by rw[Y]; exact qZ.jC (Nat.le_refl _)
  have amy:=bY Y uw.lt
  have zJ:=uS.lt
  refine Ln ⟨Fx.iG.of_below s6.old,?_⟩
  refine zC<|yI (B:=w.heap.size) (s:=56) (bytes:=448) (k:=i) (m:=1) (v := .slice E (i) (F)) (x:=flat 56 (TK m b)) (by rfl) rfl rfl rfl Tryz.underlying50 (by kernel_rfl) (by kernel_rfl) rfl rfl pR uS.aH WI (by omega) (by omega) (by omega) b7.size fun g3 W w6 ho1 hg1 tJ hlt1 => ?_
  have jN:=yL hg1 pR
  have⟨qN,m64,wm,uy,uz,sj,ru,sU⟩:=YN jN rZ sP wP sQ sS rO vV vW
  have mU:Fx.Own w6 w.heap.size 61 56 (bI g3 (i+1) W) (i+1) (flat 56 (TK m b)):=(ho1.congr (fun j J=>WE rfl ejp ejx j J))
  have b8:Below w.heap.size w w6:=xR b7 hg1 b7.size (fun q hq=>(pR.ge hq).1)
  refine Ln ⟨jN,?_⟩
  refine Rp ((pf D 18)) (fun _=>iN h2 18)<|fQ<|iQ ru 18 (bI g3 (i+1) W) fun w7 sV s7 z4 => ?_
  have uD:aP w7 D 20 (nH (TL m (some ⟨g3,0,none⟩) (i+1) W none 0 0)) 53:=sV.to (O1 _ _ _ _)
  have qy:=gY s7 ru.ty
  have⟨sZ,yB,uE,wQ,wF,wR,vX,uT⟩:=YN qy qN m64 wm uy uz sj sU mU
  have b9:=s7.below b8 b8.size (by omega)
  refine Ln<|Rn<|bP<|sN<|Wl<|Lv (au ((i:Int)+1)) (eZ (hx:=Q))<|av (au ((i:Int)+1))<|Ln ?_
  have tN:Fx.Own w7 V.heap.size 28 1 (.slice Yf (b.length) (N)) b.length (wE b):=vX.dU (congrArg (fun q=>Value.slice q b.length N) eq1.symm)
  skip
  refine gJ ⟨i+1,(some ⟨g3,0,none⟩),W,(by omega),P,h2,h3,(h4.trans Fx.ic),Fx.ic,sZ,yB,uE,wQ,wF,wR,tN,uD,uT,b9⟩ ?_
  show((b.length:Int)-intOf ((au ((i:Int)+1)))).toNat<_
  simp only[Q,intOf]; omega
 refine Lv aF (gD c30 (hx:=Q) (hy:=h4))<|aC<|Ws<|aK<|Wx<|bV<|fU<|bW<|sN<|Ws<|ay<|aS P<|av ((pt u))<|av ((pf u 27))<|Lv (.map (some m.gb)) (aL oI.aH 27)<|Fx.L.YT (by rfl) rfl rfl rfl qL Tryz.underlying102 fun g4 w8 KJ wo s8 z5 => ?_
 have⟨xX,yS,Ci,b10⟩:=mF s8.old qL qW mW b5
 have Uq:=jc KJ b5.size
 have R3:=wo.lt
 refine aC<|Wb ?_
 have AZ:Fx.Own w8 w.heap.size 66 5 (.slice none 0 0) 0 (flat 5 (fun k=>iM (m.g (([]:List Nat).getD k 0)))):=wB _ _ _ _ _
 refine Dw (fun kE f A => ∃ S:Nat->Bool,∃ kk:Nat,∃ K:List Nat,∃ o:Nat,∃ G:Option Addr,∃ H:Nat,kk=unseen S m.gn/\kk=kE/\OZ m.gn S K/\o=K.length/\f 2=(pt D)/\f 57=(pt g4)/\gN A m.gb m.gn (fun i=>m.g i 0) (fun i=>m.g i 1) (sJ m.g)/\Fx.Own A w.heap.size 61 56 (.slice E (i) (F)) i (flat 56 (TK m b))/\aP A D 20 (nH (TL m E i F G o H)) 53/\Fx.Own A w.heap.size 66 5 (.slice G (o) (H)) o (flat 5 (fun k=>iM (m.g (K.getD k 0))))/\Fx.It A g4 m.gb m.gn S/\Below w.heap.size w A) (unseen (fun _=>false) m.gn) ⟨(fun _=>false),(unseen (fun _=>false) m.gn),[],0,none,0,rfl,rfl,(OZ.start _),rfl,h2,(by rfl),xX,Ci,yS,AZ,wo,b10⟩ ?_
 rintro kE f2 w9 ⟨S,kk,K,o,G,H,hkk,hkE,U,hgl,M,h7,zN,zO,xL,Ck,A8,b11⟩
 refine ay<|Fx.L.acG (by rfl) rfl rfl h7 zN A8 (fun nZ => ?_)<|fun C rJ hi1 hS1 CS mc1 s9 z6 => ?_
 ·skip
  refine av aF<|aC<|Ws<|aK<|Wx<|bV<|fU<|bW<|sN<|Ws ?_
  have eL:(K.map fun i=>Ib (m.g i)).length=o:=by rw[List.length_map]; exact hgl.symm
  have amA:=U.len
  refine Wl<|Lv ((pf D 19)) (iN M 19)<|Lv (.slice G (o) (H)) (aL xL.aH 19)<|dA (WO h.g U hgl Ck (by omega)) _ rfl ?_
  rintro DI ⟨gl,hpm,hup,DU,_,yQ,hb2⟩
  have b12:=b11.trans hb2
  have⟨vk,wT⟩:=Az yQ zO xL
  have aps:=wT.lt
  refine aC<|ay<|Lv (.agg (aA 20 (nH (TL m E i F G o H)))) (fA wT.aH 0 (ha:=M))<|fB wT 0 (ha:=M) (h1:=(fun j _=>Vg _ j)) fun Ch vo s10 z7 => ?_
  have sw:aP Ch D 20 (nH (TL m E i F G o H)) 53:=aU vo
  have xU:=gY s10 wT.ty
  have⟨nJ,oN⟩:=Az xU vk DU
  have b13:=s10.below b12 b12.size (by omega)
  refine aC (Wr (⟨.agg (aA 20 (nH (TL m E i F G o H))),rV Tryz.results18 ⟨_,M,aT sw.aH (by kernel_rfl) (by kernel_rfl)⟩,?_⟩))
  have eil:i=b.length:=by omega
  have egl:o=gl.length:=by rw[hpm.length_eq,eL]
  exact⟨TL m E i F G o H,b,gl,rfl,{ inn:=rfl,left:=rfl,known:=rfl,nn:=eil,gn:=egl,ls:=hq1,len:=kll,gs:=GrS.of h.g U nZ hpm hup,glb:=by omega,n:=nJ,g:=oN },b13⟩
 skip
 have hcm1:=A8.AB s9
 have oh:=zN.dJ hcm1 (A8.rb.symm)
 have pV:=zO.dJ hcm1
 have qE:=xL.dJ hcm1
 have tZ:=Ck.dJ hcm1
 have b14:=s9.below b11 b11.size (by omega)
 refine av aG<|aC<|Ws<|aM<|Wk<|sN<|Wb<|ay<|Lv (.tuple #[Fx.kS (m.g C 0) (m.g C 1),.agg (aA 5 (iM (m.g C)))]) (Fx.P5 (k1:=fun i=>m.g i 0) (k2:=fun i=>m.g i 1) (val:=sJ m.g) (i:=C) rfl h7 oh mc1 hi1)<|av (.agg (aA 5 (iM (m.g C))))<|wC 5 (fun d=>if d<1 then au 0 else if d<3 then aD 0 else if d<4 then au 0 else aD 0) fun g5 EN eg5 pW s11 z8 => ?_
 have⟨sD,xZ,uf,yc,wz,b15⟩:=qo s11.old oh pV qE tZ CS b14
 have lg5:=jc eg5 b14.size
 have⟨agL,agM⟩:=wM eg5 oh.lt qE.lt
 have Nq:(.slice G (o) (H):Value).ownBlock≠some g5:=by rw[eg5]; exact tZ.jC (Nat.le_refl _)
 have tg5:=pW.lt
 refine fB pW 0 (h1:=(fun j _=>rU _ j)) fun Mv sF s12 z9 => ?_
 have oO:aP Mv g5 5 (iM (m.g C)) 66:=aU sF
 have xV:=gY s12 pW.ty
 have⟨wU,wV,sG⟩:=EK xV sD xZ uf
 have Ba:=yc.bZ s12 Nq
 have DW:=kR xV wz
 have b16:=s12.below b15 b15.size (by omega)
 refine aC ?_
 have amA:=U.len
 have hgn1:o<=m.gn:=by omega
 refine Wl<|Lv ((pf D 19)) (iN M 19)<|Lv (.slice G (o) (H)) (aL sG.aH 19)<|Lv (.agg (aA 5 (iM (m.g C)))) (fA oO.aH 0)<|yj (vs := [(0,.agg (aA 5 (iM (m.g C))))]) (s:=5) (zc:=fun d=>if d<1 then au 0 else if d<3 then aD 0 else if d<4 then au 0 else aD 0) (y:=bG (fun j=>(fun d=>if d<1 then au 0 else if d<3 then aD 0 else if d<4 then au 0 else aD 0) (j % 5)) (0*5) 5 (iM (m.g C))) (by rfl) rfl rfl Tryz.underlying51 (by kernel_rfl) (by rfl) (by rfl) (by kernel_rfl) (by rw[bD (off:=0*5) (s:=5) (y:=iM (m.g C)) rfl (bJ _ _) (by rfl)]; rfl) rfl fun g6 Mw Z zP s13 z10 => ?_
 have⟨DX,EP,Bb,yY,GZ,Jg,b17⟩:=jl s13.old wU wV sG Ba DW oO b16
 have lg6:=jc Z b16.size
 have⟨agN,agO⟩:=wM Z wU.lt sG.lt
 have agP:(.slice G (o) (H):Value).ownBlock≠some g6:=by rw[Z]; exact Ba.jC (Nat.le_refl _)
 have agQ:=bY Z oO.lt
 have tg6:=zP.lt
 refine yI (B:=w.heap.size) (s:=5) (bytes:=40) (k:=o) (m:=1) (v := .slice G (o) (H)) (x:=flat 5 (fun k=>iM (m.g (K.getD k 0)))) (by rfl) rfl rfl rfl Tryz.underlying51 (by kernel_rfl) (by kernel_rfl) rfl rfl yY zP.aH WJ (by omega) (by omega) (by omega) b17.size fun O X w16 ho2 hg2 Jc hlt2 => ?_
 have zM:=yL hg2 yY
 have⟨DZ,ER,ES,Bc⟩:=KE zM DX EP Bb GZ
 have agR:g5≠O:=fun e=>Jc.elim (fun e2=>Nq (by rw[e]; exact e2)) (fun e2=>by have:=Jg.lt; omega)
 have DY:Fx.Own w16 w.heap.size 66 5 (bI O (o+1) X) (o+1) (flat 5 (fun k=>iM (m.g ((K ++ [C]).getD k 0)))):=(ho2.congr (fun j J=>by rw[hgl]at J ⊢; exact WG j J))
 have b18:Below w.heap.size w w16:=xR b17 hg2 b17.size (fun q hq=>(yY.ge hq).1)
 refine Lv ((pf D 19)) (iN M 19)<|iQ ES 19 (bI O (o+1) X) fun Qy Bd AQ z11 => ?_
 have Ed:aP Qy D 20 (nH (TL m E i F (some ⟨O,0,none⟩) (o+1) X)) 53:=Bd.congr (LK _ _ _ _)
 have DT:=gY AQ ES.ty
 have⟨D6,yZ,Bf,GQ⟩:=KE DT DZ ER Bc DY
 have b19:=AQ.below b18 b18.size (by omega)
 refine Ln<|bP ?_
 skip
 refine gJ ⟨unseen (aQ S C true) m.gn,(by have P:=Fx.nC hS1 m.gn hi1; omega),(aQ S C true),(unseen (aQ S C true) m.gn),(K ++ [C]),o+1,(some ⟨O,0,none⟩),X,rfl,rfl,(U.step hi1 hS1),(by rw[List.length_append,<- hgl]; rfl),M,h7,D6,yZ,Ed,GQ,Bf,b19⟩ (by decide)
end Go.Proofs.YtahbiajdgealnaaGreatDoor
namespace Go.Proofs.YtahbiajdgealnaaGreatDoor
open Go.RowKit Go
set_option linter.unusedVariables false
namespace Rt
section
variable {f:(Nat->Int)->(Nat->Int) × Int} {idx:Nat->Nat} {R:Nat->Nat->Int} {r r':Nat->Nat->Int} {n K k:Nat}
theorem BU : ∀ {n:Nat},(∀ i,i<n->r i=r' i)->kN f r n=kN f r' n
 | 0,_=>rfl
 | n+1,h=>by unfold kN; rw[BU (n:=n) fun i a=>h i (by omega),h n (by omega)]
theorem Ez : ∀ {K:Nat},(∀ i j,i<K->j<K->idx i=idx j->i=j)->(cO f idx R K).2=kN f (fun i=>R (idx i)) K/\((cO f idx R K).2=0 -> ∀ k,(cO f idx R K).1 k=R k/\(∀ i,i<K->idx i≠k)\/(cO f idx R K).1 k=(f (R k)).1 /\ ∃ i,i<K/\idx i=k)
 | 0,_=>⟨rfl,fun _ k => .inl ⟨rfl,fun _ h=>absurd h (Nat.not_lt_zero _)⟩⟩
 | K+1,hi=>by
   obtain⟨q,r⟩:=Ez (K:=K) fun i j a b=>hi i j (by omega) (by omega)
   unfold kN
   rw[<- q]
   by_cases c:(cO f idx R K).2=0
   ·have n:=r c
    have p:(cO f idx R K).1 (idx K)=R (idx K):=by
     rcases n (idx K)with h|⟨_,i,d,g⟩
     ·exact h.1
     ·have:=hi i K (by omega) (by omega) g; omega
    rw[if_pos c]
    have e:cO f idx R (K+1)=(if(f ((cO f idx R K).1 (idx K))).2=0 then(aJ (cO f idx R K).1 (idx K) (f ((cO f idx R K).1 (idx K))).1,0)else((cO f idx R K).1,(f ((cO f idx R K).1 (idx K))).2)):=by show(if _ then _ else _)=_; rw[if_pos c]
    rw[e,p]
    by_cases l:(f (R (idx K))).2=0
    ·rw[if_pos l]
     refine⟨l.symm,fun _ k => ?_⟩
     show aJ (cO f idx R K).1 (idx K) _ k=R k/\_\/aJ (cO f idx R K).1 (idx K) _ k=(f (R k)).1/\_
     unfold aJ
     by_cases e:k=idx K
     ·subst e; rw[if_pos rfl]; exact .inr ⟨rfl,K,by omega,rfl⟩
     ·rw[if_neg e]
      rcases n k with ⟨d,g⟩|⟨d,i,g,h5⟩
      ·refine .inl ⟨d,fun i s m => ?_⟩
       by_cases o:i=K
       ·subst o; exact e m.symm
       ·exact g i (by omega) m
      ·exact .inr ⟨d,i,by omega,h5⟩
    ·rw[if_neg l]; exact⟨rfl,fun h=>absurd h l⟩
   ·rw[if_neg c]
    have e:cO f idx R (K+1)=cO f idx R K:=by show(if _ then _ else _)=_; rw[if_neg c]
    rw[e]
    exact⟨rfl,fun h=>absurd h c⟩
end
structure Bu(T:dN)(L:gV):Prop where
 has : ∀ k,T.has k=true <-> ∃ i,i<L.nn/\L.id i=k
 n:T.n=L.nn
 par : ∀ i,i<L.nn->T.par (L.id i)=L.par i
section
variable {T:dN} {L:gV} {N:Nat} {x:Int}
theorem Bu.find(h:Bu T L)(b:Inv0 L N)(x:Int):T.has x=true<->0<=bB L.t L.tn x:=by
 rw[h.has,gX,b.Bj]
 constructor
 ·rintro ⟨i,a,e⟩; exact⟨i,a,by rw[(b.tid i a).1]; exact e⟩
 rintro ⟨i,a,e⟩; exact⟨i,a,by rw[<- (b.tid i a).1]; exact e⟩
theorem Bu.findF(h:Bu T L)(a:Inv0 L N)(x:Int):T.has x=false<->bB L.t L.tn x<0:=by
 have:=h.find a x
 cases e:T.has x with
 | false=>rw[e]at this; exact⟨fun _=>by rcases X8 (bB L.t L.tn x)with h1|h1; exact h1; exact absurd (this.2 h1) (by decide),fun _=>rfl⟩
 | true=>rw[e]at this; have:=this.1 rfl; exact⟨fun h=>(nomatch h),fun h=>by omega⟩
theorem Inv0.at(c:Inv0 L N){i:Nat}(hi:i<L.nn):L.node (L.id i)=(i:Int):=by
 rw[c.node,<- (c.tid i hi).1]
 exact uj (fun a b d f e=>c.aea a b d f e) (by rw[c.Bj]; exact hi)
theorem Bu.next(h:Bu T L)(a:Inv0 L N)(hx:T.has x=true):T.par x=L.t (bB L.t L.tn x).toNat 1:=by
 obtain⟨i,b,rfl⟩:=(h.has x).1 hx
 have e:=a.at b
 rw[a.node]at e
 rw[e,h.par i b]
 exact((a.tid i b).2).symm
theorem Bu.path(h:Bu T L)(f:T.ok)(a:Inv0 L N)(x:Int):(T.path x).length=dn L.t L.tn x /\ ∀ q,q<(T.path x).length->(T.path x).getD q 0=bf L.t L.tn q x:=by
 have g : ∀ q,q<(T.path x).length->T.has ((T.path x).getD q 0)=true/\(q+1<(T.path x).length->(T.path x).getD (q+1) 0=T.par ((T.path x).getD q 0))/\(q+1=(T.path x).length->T.has (T.par ((T.path x).getD q 0))=false):=qg (f.stop x)
 have j : ∀ q,q<(T.path x).length->(T.path x).getD q 0=bf L.t L.tn q x:=by
  intro q
  induction q with
  | zero =>
    intro b
    cases hx:T.has x with
    | false=>rw[show T.path x = []from kH hx]at b; exact absurd b (Nat.not_lt_zero _)
    | true=>rw[dN.step f hx]; rfl
  | succ q ih =>
    intro b
    have l:=ih (by omega)
    have c:=(g q (by show q<(T.path x).length; omega))
    have e:=c.2.1 b
    show(T.path x).getD (q+1) 0=L.t (bB L.t L.tn (bf L.t L.tn q x)).toNat 1
    rw[<- l,<- h.next a c.1]
    exact e
 refine⟨?_,j⟩
 obtain⟨D,n,m⟩:=a.dep x
 refine qF (D:=D) (fun i k => ?_) ?_ m (by omega)
 ·rw[<- j i k,<- h.find a]; exact(g i k).1
 by_cases d:(T.path x).length=0
 ·rw[d]
  show bB L.t L.tn x<0
  rw[<- h.findF a]
  cases hx:T.has x with
  | false=>rfl
  | true=>rw[dN.step f hx]at d; simp at d
 obtain⟨q,b⟩ : ∃ q,(T.path x).length=q+1:=⟨(T.path x).length-1,by omega⟩
 have c:=g q (by show q<(T.path x).length; omega)
 have e:=c.2.2 (by show q+1=(T.path x).length; omega)
 rw[b]
 show bB L.t L.tn (L.t (bB L.t L.tn (bf L.t L.tn q x)).toNat 1)<0
 rw[<- j q (by omega),<- h.next a c.1,<- h.findF a]
 exact e
theorem WR(d:Inv0 L N)(x:Int):bB L.t L.tn (bf L.t L.tn (dn L.t L.tn x) x)<0:=by
 obtain⟨D,e,b⟩:=d.dep x
 obtain⟨K,f,a,c⟩:=um D b
 rw[<- qF c a b (by omega)]; exact a
theorem Bu.mem(h:Bu T L)(f:T.ok)(d:Inv0 L N)(x y:Int):y∈T.path x <-> ∃ i,i<dn L.t L.tn x/\bf L.t L.tn i x=y:=by
 obtain⟨c,b⟩:=h.path f d x
 rw[<- c]
 constructor
 ·intro g
  obtain⟨i,a,e⟩:=List.getElem_of_mem g
  refine⟨i,a,?_⟩
  rw[<- b i a,List.getD_eq_getElem?_getD,List.getElem?_eq_getElem a]; exact e
 rintro ⟨i,a,rfl⟩
 rw[<- b i a,List.getD_eq_getElem?_getD,List.getElem?_eq_getElem a]; exact List.getElem_mem a
theorem Bu.err(h:Bu T L)(l:T.ok)(a:Inv0 L N)(id pa:Int):T.err id pa=iR L.t L.tn id pa:=by
 unfold dN.err qV iR
 by_cases c:id=0
 ·rw[if_pos c,if_pos c]
 rw[if_neg c,if_neg c]
 by_cases d:dP T.x T.n id=true
 ·rw[if_pos d,if_pos ((h.find a id).1 d)]
 rw[if_neg d,if_neg (fun e=>d ((h.find a id).2 e))]
 have j:(¬ pa=0/\dP T.x T.n pa=false)<->(pa≠0/\bB L.t L.tn pa<0):=by
  rw[<- h.findF a]; exact Iff.rfl
 by_cases f : ¬ pa=0/\dP T.x T.n pa=false
 ·rw[if_pos f,if_pos (j.1 f)]
 rw[if_neg f,if_neg (fun e=>f (j.2 e))]
 have k:(32<=T.n\/4<=(iX T.x T.p T.n 4 pa).length)<->(32<=L.tn\/BJ L.t L.tn pa):=by
  obtain⟨q,r⟩:=h.path l a pa
  have v:(T.path pa).length<=4:=dN.Ad
  have:4<=(T.path pa).length<->BJ L.t L.tn pa:=by
   constructor
   ·intro s i u
    have b:=(qg (l.stop pa)) i (by show i<(T.path pa).length; omega)
    rw[<- r i (by omega),<- h.find a]; exact b.1
   ·intro o
    rcases Nat.lt_or_ge (T.path pa).length 4 with b|b
    ·exfalso
     have m:=o _ b
     rw[q]at m
     have:=WR a pa
     omega
    ·exact b
  show(32<=T.n\/4<=(T.path pa).length)<->_
  rw[this,h.n,a.Bj]
 by_cases g:32<=T.n\/4<=(iX T.x T.p T.n 4 pa).length
 ·rw[if_pos g,if_pos (k.1 g)]
 rw[if_neg g,if_neg (fun e=>g (k.2 e))]
end
end Rt
end Go.Proofs.YtahbiajdgealnaaGreatDoor
namespace Go.Proofs.YtahbiajdgealnaaGreatDoor
open Go.RowKit Go
set_option linter.unusedVariables false
set_option maxRecDepth 20000
namespace Rt
section
variable {m:dY} {k:Int} {i:Nat}
theorem dY.Nr(b:m.T.ok)(c:m.T.has k=true):m.idx k<m.T.n/\m.T.x (m.idx k)=k:=by
 obtain⟨j,a,e⟩:=fT c
 have:m.idx k=j:=kY b.inj a e
 rw[this]; exact⟨a,e⟩
theorem TN(x:Nat->Int)(id:Int) : ∀ n,(∀ i,i<n->x i≠id)->zZ (Fx.aQ x n id) (n+1) id=n:=fun n _=>by
 unfold zZ
 rw[if_pos]
 unfold Fx.aQ
 rw[if_pos rfl]
theorem F9{x y:Nat->Int}{k:Int} : ∀ {n:Nat},(∀ i,i<n->x i=y i)->zZ x n k=zZ y n k
 | 0,_=>rfl
 | n+1,h=>by unfold zZ; rw[h n (by omega),F9 (n:=n) fun i a=>h i (by omega)]
theorem TP(x:Nat->Int){id k:Int}(n:Nat)(b:id≠k):zZ (Fx.aQ x n id) (n+1) k=zZ x n k:=by
 have a:Fx.aQ x n id n=id:=by unfold Fx.aQ; rw[if_pos rfl]
 show(if Fx.aQ x n id n=k then n else zZ (Fx.aQ x n id) n k)=_
 rw[a,if_neg b]
 exact F9 fun i c=>by unfold Fx.aQ; rw[if_neg (by omega)]
theorem Ga{f g:Nat->Int}{o:Int} : ∀ {n:Nat},(∀ i,i<n->f i=g i)->mM f o n=mM g o n
 | 0,_=>rfl
 | n+1,h=>by unfold mM; rw[Ga (n:=n) fun i a=>h i (by omega),h n (by omega)]
theorem JV{f:Nat->Int}{o v:Int}{k:Nat} : ∀ n,k<=n->mM (Fx.bX f k v) o (n+1)=mM f o n+if v / 1099511627776=o then 1 else 0
 | 0,h=>by
   obtain rfl:k=0:=by omega
   show 0+(if Fx.bX f 0 v 0 / 1099511627776=o then 1 else 0)=0+_
   rw[dD]
 | n+1,h=>by
   by_cases e:k=n+1
   ·subst e
    show mM (Fx.bX f (n+1) v) o (n+1)+(if Fx.bX f (n+1) v (n+1) / 1099511627776=o then 1 else 0)=_
    rw[dD,Ga (g:=f) fun i a=>CV a]
   ·show mM (Fx.bX f k v) o (n+1)+(if Fx.bX f k v (n+1) / 1099511627776=o then 1 else 0)=mM f o n+(if f n / 1099511627776=o then 1 else 0)+_
    rw[JV n (by omega),CW (by omega)]
    show _+(if f n / 1099511627776=o then 1 else 0)=_
    omega
theorem Ns{f:Nat->Int}{o:Int} : ∀ n,mM f o n<=n
 | 0=>Nat.le_refl _
 | n+1=>by have:=Ns (f:=f) (o:=o) n; unfold mM; split <;> omega
theorem Bv{P:Nat->Bool}{n:Nat}:0<=gF P n <-> ∃ j,j<n/\P j=true:=by
 rcases jf P n with ⟨k,c,e,a⟩|⟨e,h⟩
 ·rw[e]; exact⟨fun _=>⟨k,c,a⟩,fun _=>by omega⟩
 rw[e]; exact⟨fun h=>by omega,fun⟨j,b,a⟩=>by rw[h j b]at a; cases a⟩
end
structure fK(m:dY)(L:gV):Prop where
 T:Bu m.T L
 inn:m.inn=L.inn
 left:m.left=L.left
 known:m.known=L.known
 row : ∀ i,i<L.nn->BQ m (L.id i)=L.R i
 own : ∀ a,a<6->m.own a=((mM L.id ((a:Int)+1) L.nn:Nat):Int)
 gi : ∀ i j,i<m.gn->j<m.gn->m.g i 0=m.g j 0->m.g i 1=m.g j 1->i=j
 gn:m.gn=L.gn
 g1 : ∀ q,q<L.gn -> ∃ j,j<m.gn/\m.g j=L.g q
 g2 : ∀ j,j<m.gn -> ∃ q,q<L.gn/\L.g q=m.g j
 ask : ∀(a:Nat) (r:Int),a<6->(mQ m ((a:Int)+1) r=true <-> ∃ j,j<L.rn a/\L.rq a j=r)
 ga:abn m
 li : ∀ p q,p<L.gn->q<L.gn->L.g p 0=L.g q 0->L.g p 1=L.g q 1->p=q
section
variable {m:dY} {L:gV} {N:Nat} {v:EvM} {x:Int}
theorem fK.node(h:fK m L)(a:Inv0 L N)(x:Int):m.T.has x=true<->0<=L.node x:=by rw[h.T.find a,a.node]
theorem fK.JW(h:fK m L)(a:Inv0 L N)(x:Int):m.T.has x=false<->L.node x<0:=by rw[h.T.findF a,a.node]
theorem Inv0.WS(a:Inv0 L N)(hx:0<=L.node x):(L.node x).toNat<L.nn/\L.id (L.node x).toNat=x:=by
 rw[a.node]at hx ⊢
 obtain⟨j,b,e,c⟩:=tX hx
 rw[e]
 rw[a.Bj]at b
 exact⟨b,by show L.id j=x; rw[<- (a.tid j b).1]; exact c⟩
theorem fK.rk(h:fK m L)(c:Inv0 L N)(hx:0<=L.node x):BQ m x=L.R (L.node x).toNat:=by
 obtain⟨a,b⟩:=c.WS hx
 rw[<- h.row _ a,b]
theorem fK.Cr(h:fK m L)(f:m.T.ok)(a:Inv0 L N)(hx:m.T.has x=true)(r:Nat->Int):fK (Cr m x r) { L with R:=aJ L.R (L.node x).toNat r }:=by
 have l:=(h.node a x).1 hx
 obtain⟨j,c⟩:=a.WS l
 refine { h with row:=fun i b => ?_,T:=⟨h.T.has,h.T.n,h.T.par⟩ }
 show Fx.aQ m.R (m.idx x) r (m.idx (L.id i))=aJ L.R (L.node x).toNat r i
 unfold Fx.aQ aJ
 by_cases e:i=(L.node x).toNat
 ·subst e; rw[c,if_pos rfl,if_pos rfl]
 rw[if_neg e,if_neg]
 ·exact h.row i b
 intro g
 have d:=(dY.Nr f ((h.T.has _).2 ⟨i,b,rfl⟩)).2
 have k:=(dY.Nr f hx).2
 rw[g,k]at d
 exact e (a.inj i _ b j (by rw[c]; exact d.symm))
theorem fK.along(h:fK m L)(l:m.T.ok)(g:Inv0 L N)(f:(Nat->Int)->(Nat->Int) × Int)(x:Int) :
 dF m f (m.T.path x)=(cO f (mY L x) L.R (dn L.t L.tn x)).2/\((cO f (mY L x) L.R (dn L.t L.tn x)).2=0 -> ∀ i,i<L.nn->(qH m f (m.T.path x)).R (m.idx (L.id i))=(cO f (mY L x) L.R (dn L.t L.tn x)).1 i):=by
 obtain⟨z,p⟩:=h.T.path l g x
 have w:(m.T.path x).Nodup:=dN.zl l x
 have o : ∀ i,i<dn L.t L.tn x->0<=L.node (bf L.t L.tn i x):=fun i c=>by rw[g.node]; exact zV c
 have y : ∀ i j,i<dn L.t L.tn x->j<dn L.t L.tn x->mY L x i=mY L x j->i=j:=fun i j c v e=>by
  have a:=g.WS (o i c)
  have b:=g.WS (o j v)
  have e:(L.node (bf L.t L.tn i x)).toNat=(L.node (bf L.t L.tn j x)).toNat:=e
  rw[e]at a
  have k:bf L.t L.tn i x=bf L.t L.tn j x:=a.2.symm.trans b.2
  rw[<- p i (by omega),<- p j (by omega)]at k
  exact Bt w (by omega) (by omega) k
 obtain⟨A,B⟩:=Ez (f:=f) (idx:=mY L x) (R:=L.R) y
 refine⟨?_,fun s i c => ?_⟩
 ·rw[A]
  unfold dF
  rw[z]
  exact BU fun i c=>by
   rw[p i (by omega)]
   exact h.rk g (o i c)
 have u:=(dY.Nr l ((h.T.has _).2 ⟨i,c,rfl⟩)).2
 show(if m.T.x (m.idx (L.id i))∈m.T.path x then(f (m.R (m.idx (L.id i)))).1 else m.R (m.idx (L.id i)))=_
 rw[u,show m.R (m.idx (L.id i))=L.R i from h.row i c]
 have r:L.id i∈m.T.path x <-> ∃ q,q<dn L.t L.tn x/\mY L x q=i:=by
  rw[h.T.mem l g]
  constructor
  ·rintro ⟨q,d,e⟩
   exact⟨q,d,(CY g c d).2 e⟩
  ·rintro ⟨q,d,e⟩
   exact⟨q,d,(CY g c d).1 e⟩
 rcases B s i with ⟨n,k⟩|⟨n,q,d,k⟩
 ·rw[n,if_neg]
  rw[r]; rintro ⟨q,d,e⟩; exact k q d e
 rw[n,if_pos (r.2 ⟨q,d,k⟩)]
theorem fK.asked(h:fK m L)(f:dh v=true)(r:Int):mQ m v.o r=true<->0<=L.jQ (bA v) r:=by
 obtain⟨a,c,d⟩:=eY (iy f)
 have:bA v=a:=by unfold bA; omega
 rw[this,d,h.ask a r c]
 unfold gV.jQ
 rw[Bv]
 constructor
 ·rintro ⟨j,b,e⟩; exact⟨j,b,decide_eq_true e⟩
 rintro ⟨j,b,e⟩; exact⟨j,b,of_decide_eq_true e⟩
theorem fK.grant(h:fK m L)(o r:Int):(Ht m o r=true<->0<=L.grant o r)/\(0<=L.grant o r->(L.grant o r).toNat<L.gn/\qK m o r<m.gn/\m.g (qK m o r)=L.g (L.grant o r).toNat/\L.g (L.grant o r).toNat 0=o/\L.g (L.grant o r).toNat 1=r):=by
 have k1:Ht m o r=true <-> ∃ j,j<m.gn/\m.g j 0=o/\m.g j 1=r:=qJ
 have k2:0<=L.grant o r <-> ∃ q,q<L.gn/\L.g q 0=o/\L.g q 1=r:=by
  unfold gV.grant
  rw[Bv]
  constructor
  ·rintro ⟨j,a,e⟩; rw[Bool.and_eq_true]at e; exact⟨j,a,of_decide_eq_true e.1,of_decide_eq_true e.2⟩
  ·rintro ⟨j,a,b,c⟩; exact⟨j,a,by rw[decide_eq_true b,decide_eq_true c]; rfl⟩
 refine⟨?_,fun l => ?_⟩
 ·rw[k1,k2]
  constructor
  ·rintro ⟨j,a,b,c⟩
   obtain⟨q,d,e⟩:=h.g2 j a
   exact⟨q,d,by rw[e]; exact b,by rw[e]; exact c⟩
  rintro ⟨q,d,b,c⟩
  obtain⟨j,a,e⟩:=h.g1 q d
  exact⟨j,a,by rw[e]; exact b,by rw[e]; exact c⟩
 have : ∃ q,q<L.gn/\L.grant o r=(q:Int)/\L.g q 0=o/\L.g q 1=r:=by
  unfold gV.grant at l ⊢
  rcases jf (fun i=>decide (L.g i 0=o)&&decide (L.g i 1=r)) L.gn with ⟨q,d,e,k⟩|⟨e,_⟩
  ·rw[Bool.and_eq_true]at k; exact⟨q,d,e,of_decide_eq_true k.1,of_decide_eq_true k.2⟩
  ·omega
 obtain⟨q,d,e,b,c⟩:=this
 rw[e]
 obtain⟨j,a,f⟩:=h.g1 q d
 have:qK m o r=j:=Ah h.gi a (by show m.g j 0=o; rw[f]; exact b) (by show m.g j 1=r; rw[f]; exact c)
 rw[this]
 exact⟨d,a,f,b,c⟩
theorem fK.aeO(h:fK m L)(i:m.T.ok)(g:Inv0 L N)(e:dh v=true)(l:v.kind=1):mP m v=jE L v:=by
 obtain⟨a,j,d⟩:=eY (iy e)
 have k:bA v=a:=by unfold bA; omega
 unfold mP jE
 rw[k,h.own a j,d]
 have b:(5<=((mM L.id ((a:Int)+1) L.nn:Nat):Int)\/140737488355328<v.aX)<->(5<=mM L.id ((a:Int)+1) L.nn\/140737488355328<v.aX):=by omega
 have f:qP v=jd ((a:Int)+1) v.seq:=by rw[<- d,CX e]; rfl
 by_cases c:5<=mM L.id ((a:Int)+1) L.nn\/140737488355328<v.aX
 ·rw[if_pos c,if_pos (b.2 c)]
 rw[if_neg c,if_neg (fun q=>c (b.1 q)),h.T.err i g,f]
theorem fK.make(h:fK m L)(A:m.T.ok)(r:Inv0 L N)(l:dh v=true)(D:v.kind=1)(z:jE L v=0):fK (F4 m v) (oM L v):=by
 obtain⟨k,g,H,I,J,K,M,y,P,Q,G⟩:=vH r l D z
 have t:=CX l
 have O:=qG l
 have f:qP v=jd v.o v.seq:=by rw[t]; rfl
 have w:m.T.has (qP v)=false:=by
  rw[h.T.findF r,f,uh]
  exact G.no
 have E : ∀ i,i<m.T.n->m.T.x i≠qP v:=fun i d e=>by
  have:=dN.Ac d; rw[e,w]at this; cases this
 rw[y]
 have C : ∀ q,(m.T.put (qP v) v.node).has q=true<->(m.T.has q=true\/q=qP v):=fun q=>by
  rw[dN.jH,Bool.or_eq_true,decide_eq_true_iff]
  exact⟨fun h=>h.imp id Eq.symm,fun h=>h.imp id Eq.symm⟩
 have u : ∀ q,q<L.nn->L.id q≠qP v:=fun q F e=>by
  have:=(h.T.has _).2 ⟨q,F,rfl⟩; rw[e,w]at this; cases this
 refine {
  T:=⟨fun q => ?_,?_,fun i d => ?_⟩
  inn:=h.inn
  left:=h.left
  known:=h.known
  row:=fun i d => ?_
  own:=fun a s => ?_
  gi:=h.gi
  gn:=h.gn
  g1:=h.g1
  g2:=h.g2
  ask:=h.ask
  ga:=h.ga
  li:=h.li }
 ·show(m.T.put (qP v) v.node).has q=true <-> ∃ i,i<L.nn+1/\Fx.bX L.id k (jd v.o v.seq) i=q
  rw[C,h.T.has]
  constructor
  ·rintro (⟨i,d,e⟩|e)
   ·obtain⟨j,b,_,c⟩:=zU (k:=k) d
    exact⟨j,b,by rw[c]; exact e⟩
   exact⟨k,by omega,by rw[dD,e,f]⟩
  rintro ⟨i,d,e⟩
  rcases dO g d with rfl|⟨j,b,c,_,_⟩
  ·rw[dD]at e; exact .inr (by rw[<- e,f])
  rw[c]at e; exact .inl ⟨j,b,e⟩
 ·show m.T.n+1=L.nn+1
  rw[h.T.n]
 ·show(m.T.put (qP v) v.node).par (Fx.bX L.id k (jd v.o v.seq) i)=Fx.bX L.par k v.node i
  rw[dN.uR]
  rcases dO g d with rfl|⟨j,b,c,_,_⟩
  ·rw[dD,dD,if_pos f]
  rw[c,c,if_neg (fun e=>u j b e.symm)]; exact h.T.par j b
 ·show Fx.aQ m.R m.T.n _ (zZ (Fx.aQ m.T.x m.T.n (qP v)) (m.T.n+1) (Fx.bX L.id k (jd v.o v.seq) i))=Fx.bX L.R k _ i
  rcases dO g d with rfl|⟨j,b,c,_,_⟩
  ·rw[dD,dD,<- f,TN _ _ _ E]; unfold Fx.aQ; rw[if_pos rfl]
  rw[c,c,TP _ _ (fun e=>u j b e.symm)]
  have p:=(dY.Nr A ((h.T.has _).2 ⟨j,b,rfl⟩)).1
  have p:zZ m.T.x m.T.n (L.id j)<m.T.n:=p
  unfold Fx.aQ
  rw[if_neg (by omega)]
  exact h.row j b
 show aJ m.own (bA v) (m.own (bA v)+1) a=((mM (Fx.bX L.id k (jd v.o v.seq)) ((a:Int)+1) (L.nn+1):Nat):Int)
 rw[JV _ g,t]
 have B:(1099511627776*v.o+v.seq) / 1099511627776=v.o:=by omega
 rw[B]
 unfold aJ
 by_cases e:a=bA v
 ·rw[if_pos e,<- e,h.own a s,if_pos (by unfold bA at e; omega)]; rfl
 rw[if_neg e,h.own a s,if_neg (by unfold bA at e; omega)]; rfl
attribute [local irreducible] dn cO dF in
theorem fK.rR(h:fK m L)(d:m.T.ok)(g:Inv0 L N)(i:dh v=true):nO m v=iE L v:=by
 unfold nO iE
 by_cases c:mQ m v.o v.req=true
 ·rw[if_pos c,if_pos ((h.asked i _).1 c)]
 rw[if_neg c,if_neg (fun e=>c ((h.asked i _).2 e))]
 obtain⟨j,_⟩:=h.T.path d g v.node
 have f:m.T.has v.node=false<->dn L.t L.tn v.node=0:=by
  rw[<- j]
  constructor
  ·intro b; rw[show m.T.path v.node = []from kH b]; rfl
  ·intro b
   cases e:m.T.has v.node with
   | false=>rfl
   | true=>rw[dN.step d e]at b; simp at b
 by_cases a:m.T.has v.node=false
 ·rw[if_pos a,if_pos (f.1 a)]
 rw[if_neg a,if_neg (fun e=>a (f.2 e))]
 exact(h.along d g _ _).1
theorem TQ{k1 k2:Nat->Int}{n:Nat}{a b o r:Int}:EW (Fx.aQ k1 n a) (Fx.aQ k2 n b) (n+1) o r=true<->(EW k1 k2 n o r=true\/(a=o/\b=r)):=by
 rw[qJ,qJ]
 unfold Fx.aQ
 constructor
 ·rintro ⟨j,f,c,d⟩
  by_cases e:j=n
  ·subst e; rw[if_pos rfl]at c d; exact .inr ⟨c,d⟩
  rw[if_neg e]at c d; exact .inl ⟨j,by omega,c,d⟩
 rintro (⟨j,f,c,d⟩|⟨c,d⟩)
 ·exact⟨j,by omega,by rw[if_neg (by omega)]; exact c,by rw[if_neg (by omega)]; exact d⟩
 exact⟨n,by omega,by rw[if_pos rfl]; exact c,by rw[if_pos rfl]; exact d⟩
theorem fK.Nt(h:fK m L)(w:dh v=true)(d:dY)(f:gV)(i:d.an=m.an+1)(k:d.ao=Fx.aQ m.ao m.an v.o)(l:d.ar=Fx.aQ m.ar m.an v.req)(n:f.rn=aJ L.rn (bA v) (L.rn (bA v)+1))(p:f.rq=aJ L.rq (bA v) (aJ (L.rq (bA v)) (L.rn (bA v)) v.req)) :
 (∀(a:Nat) (r:Int),a<6->(mQ d ((a:Int)+1) r=true <-> ∃ j,j<f.rn a/\f.rq a j=r))/\(∀ o r,mQ m o r=true->mQ d o r=true)/\mQ d v.o v.req=true:=by
 obtain⟨b,x,t⟩:=eY (iy w)
 have u:bA v=b:=by unfold bA; omega
 have g : ∀ o r,mQ d o r=true<->(mQ m o r=true\/(v.o=o/\v.req=r)):=fun o r=>by
  unfold mQ; rw[i,k,l]; exact TQ
 refine⟨fun a r q => ?_,fun o r h=>(g o r).2 (.inl h),(g _ _).2 (.inr ⟨rfl,rfl⟩)⟩
 rw[g,h.ask a r q,n,p,u]
 unfold aJ
 by_cases e:a=b
 ·subst e
  rw[if_pos rfl,if_pos rfl]
  constructor
  ·rintro (⟨j,s,e⟩|⟨_,e⟩)
   ·exact⟨j,by omega,by show(if j=L.rn a then v.req else L.rq a j)=r; rw[if_neg (by omega)]; exact e⟩
   exact⟨L.rn a,by omega,by show(if L.rn a=L.rn a then v.req else _)=r; rw[if_pos rfl]; exact e⟩
  rintro ⟨j,s,e⟩
  have e:(if j=L.rn a then v.req else L.rq a j)=r:=e
  by_cases c:j=L.rn a
  ·rw[if_pos c]at e; exact .inr ⟨t,e⟩
  rw[if_neg c]at e; exact .inl ⟨j,by omega,e⟩
 rw[if_neg e,if_neg e]
 exact⟨fun h=>h.elim id fun h=>by omega,.inl⟩
attribute [local irreducible] dn cO dF in
theorem fK.take(h:fK m L)(F:m.T.ok)(E:Inv0 L N)(D:dh v=true)(t:iE L v=0):fK (xk m v) (kK L v):=by
 unfold iE at t
 split at t
 ·cases t
 rename_i c1
 split at t
 ·cases t
 have I:=(h.along F E (fun x=>bE x v.o v.aX) v.node).2 t
 have G : ¬ mQ m v.o v.req=true:=fun e=>c1 ((h.asked D _).1 e)
 obtain⟨k1,k2,J⟩:=h.Nt D (xk m v) (kK L v) rfl rfl rfl rfl rfl
 have s : ∀ j,(xk m v).g j=if j=m.gn then uF v else m.g j:=fun j=>rfl
 have A:uF v 0=v.o:=rfl
 have B:uF v 1=v.req:=rfl
 have y : ∀ j,j<m.gn -> ¬ (m.g j 0=v.o/\m.g j 1=v.req):=fun j d e=>G (by have:=h.ga j d; rw[e.1,e.2]at this; exact this)
 have u:=Fx.xA (fun i=>D9 v (L.g i)) L.gn
 refine {
  T:=⟨h.T.has,h.T.n,h.T.par⟩
  inn:=h.inn
  left:=h.left
  known:=h.known
  row:=I
  own:=h.own
  gi:=fun i j r d b a => ?_
  gn:=by show m.gn+1=L.gn+1; rw[h.gn]
  g1:=fun q f => ?_
  g2:=fun j d => ?_
  ask:=k1
  ga:=fun i r => ?_
  li:=fun p q z f b a => ?_ }
 ·have r:i<m.gn+1:=r
  have d:j<m.gn+1:=d
  rw[s,s]at b a
  by_cases c:i=m.gn
  ·by_cases l:j=m.gn
   ·omega
   rw[if_pos c,if_neg l,A]at b; rw[if_pos c,if_neg l,B]at a
   exact absurd ⟨b.symm,a.symm⟩ (y j (by omega))
  by_cases l:j=m.gn
  ·rw[if_neg c,if_pos l,A]at b; rw[if_neg c,if_pos l,B]at a
   exact absurd ⟨b,a⟩ (y i (by omega))
  rw[if_neg c,if_neg l]at b a; exact h.gi i j (by omega) (by omega) b a
 ·have f:q<L.gn+1:=f
  show ∃ j,j<m.gn+1/\(xk m v).g j=Fx.bX L.g (Fx.down (fun i=>D9 v (L.g i)) L.gn) (uF v) q
  rcases dO u f with e|⟨j,d,a,_,_⟩
  ·rw[e,dD]; exact⟨m.gn,by omega,by rw[s,if_pos rfl]⟩
  rw[a]
  obtain⟨i,r,w⟩:=h.g1 j d
  exact⟨i,by omega,by rw[s,if_neg (by omega)]; exact w⟩
 ·have d:j<m.gn+1:=d
  show ∃ q,q<L.gn+1/\Fx.bX L.g (Fx.down (fun i=>D9 v (L.g i)) L.gn) (uF v) q=(xk m v).g j
  rw[s]
  by_cases c:j=m.gn
  ·rw[if_pos c]; exact⟨_,by omega,dD⟩
  rw[if_neg c]
  obtain⟨q,f,e⟩:=h.g2 j (by omega)
  obtain⟨K,H,_,a⟩:=zU (k:=Fx.down (fun i=>D9 v (L.g i)) L.gn) f
  exact⟨K,H,by rw[a]; exact e⟩
 ·have r:i<m.gn+1:=r
  rw[s]
  by_cases c:i=m.gn
  ·rw[if_pos c]; exact J
  rw[if_neg c]; exact k2 _ _ (h.ga i (by omega))
 have z:p<L.gn+1:=z
 have f:q<L.gn+1:=f
 have C : ∀ j,j<L.gn -> ¬ (L.g j 0=v.o/\L.g j 1=v.req):=fun j d e=>by
  obtain⟨i,r,w⟩:=h.g1 j d
  rw[<- w]at e
  exact y i r e
 have b:Fx.bX L.g (Fx.down (fun i=>D9 v (L.g i)) L.gn) (uF v) p 0=Fx.bX L.g (Fx.down (fun i=>D9 v (L.g i)) L.gn) (uF v) q 0:=b
 have a:Fx.bX L.g (Fx.down (fun i=>D9 v (L.g i)) L.gn) (uF v) p 1=Fx.bX L.g (Fx.down (fun i=>D9 v (L.g i)) L.gn) (uF v) q 1:=a
 generalize Fx.down (fun i=>D9 v (L.g i)) L.gn=k at b a u
 rcases dO u z with c|⟨j,d,f1,f2,f3⟩
 ·rcases dO u f with l|⟨j',hj',f1',f2',f3'⟩
  ·omega
  rw[c,dD,f1']at b a; exact absurd ⟨b.symm,a.symm⟩ (C j' hj')
 rcases dO u f with l|⟨j',hj',f1',f2',f3'⟩
 ·rw[l,dD,f1]at b a; exact absurd ⟨b,a⟩ (C j d)
 rw[f1,f1']at b a
 have:=h.li j j' d hj' b a
 omega
attribute [local irreducible] dn cO dF in
theorem fK.rT(h:fK m L)(l:m.T.ok)(k:Inv0 L N)(f:dh v=true):lM m v=iq L v:=by
 unfold lM iq
 by_cases c:mQ m v.o v.req=true
 ·rw[if_pos c,if_pos ((h.asked f _).1 c)]
 rw[if_neg c,if_neg (fun e=>c ((h.asked f _).2 e))]
 obtain⟨d,j⟩:=h.grant v.o v.of
 by_cases b:0<=L.grant v.o v.of
 ·obtain⟨p,r,i,s,t⟩:=j b
  have n:=d.2 b
  have e:(Ht m v.o v.of=false\/m.g (qK m v.o v.of) 4≠0)<->(L.grant v.o v.of<0\/L.g (yE L v) 4≠0):=by
   rw[i,n]
   show _<->_\/L.g (L.grant v.o v.of).toNat 4≠0
   constructor
   ·rintro (h|h)
    ·cases h
    ·exact .inr h
   ·rintro (h|h)
    ·omega
    ·exact .inr h
  by_cases a:L.grant v.o v.of<0\/L.g (yE L v) 4≠0
  ·rw[if_pos a,if_pos (e.2 a)]
  rw[if_neg a,if_neg (fun q=>a (e.1 q)),i]
  exact(h.along l k _ _).1
 rw[if_pos (.inl (by
  cases e:Ht m v.o v.of with
  | false=>rfl
  | true=>exact absurd (d.1 e) b)),if_pos (.inl (by omega))]
attribute [local irreducible] dn cO dF in
theorem fK.free(h:fK m L)(G:m.T.ok)(F:Inv0 L N)(I:dh v=true)(k:iq L v=0):fK (vL m v) (jF L v):=by
 unfold iq at k
 split at k
 ·cases k
 split at k
 ·cases k
 rename_i c2
 have E:0<=L.grant v.o v.of:=by rcases X8 (L.grant v.o v.of)with h1|h1; exact absurd (.inl h1) c2; exact h1
 obtain⟨C,D,t,K,M⟩:=(h.grant v.o v.of).2 E
 have H:=(h.along G F (fun x=>bF x v.o (L.g (yE L v) 3)) (L.g (yE L v) 2)).2 k
 obtain⟨k1,k2,J⟩:=h.Nt I (vL m v) (jF L v) rfl rfl rfl rfl rfl
 have A:yE L v=(L.grant v.o v.of).toNat:=rfl
 have w : ∀ j,(vL m v).g j=if j=qK m v.o v.of then upd (m.g (qK m v.o v.of)) 4 v.req else m.g j:=fun j=>rfl
 have u : ∀ q,(jF L v).g q=if q=yE L v then aJ (L.g (yE L v)) 4 v.req else L.g q:=fun q=>rfl
 have B:upd (m.g (qK m v.o v.of)) 4 v.req=aJ (L.g (yE L v)) 4 v.req:=by rw[t]; rfl
 have f : ∀ j p,(p=0\/p=1)->(vL m v).g j p=m.g j p:=fun j p s=>by
  rw[w]
  by_cases c:j=qK m v.o v.of
  ·subst c; rw[if_pos rfl]; rcases s with rfl|rfl <;> rfl
  ·rw[if_neg c]
 have z : ∀ j p,(p=0\/p=1)->(jF L v).g j p=L.g j p:=fun j p s=>by
  rw[u]
  by_cases c:j=yE L v
  ·subst c; rw[if_pos rfl]; rcases s with rfl|rfl <;> rfl
  ·rw[if_neg c]
 refine {
  T:=⟨h.T.has,h.T.n,h.T.par⟩
  inn:=h.inn
  left:=h.left
  known:=h.known
  row:=fun i r => ?_
  own:=h.own
  gi:=fun i j r a l d=>h.gi i j r a (by rw[f i 0 (.inl rfl),f j 0 (.inl rfl)]at l; exact l) (by rw[f i 1 (.inr rfl),f j 1 (.inr rfl)]at d; exact d)
  gn:=h.gn
  g1:=fun q b => ?_
  g2:=fun j a => ?_
  ask:=k1
  ga:=fun i r=>by rw[f i 0 (.inl rfl),f i 1 (.inr rfl)]; exact k2 _ _ (h.ga i r)
  li:=fun p q s b l d=>h.li p q s b (by rw[z p 0 (.inl rfl),z q 0 (.inl rfl)]at l; exact l) (by rw[z p 1 (.inr rfl),z q 1 (.inr rfl)]at d; exact d) }
 ·have:=H i r
  show(qH m (fun x=>bF x v.o (m.g (qK m v.o v.of) 3)) (m.T.path (m.g (qK m v.o v.of) 2))).R (m.idx (L.id i))=_
  rw[t]; exact this
 ·have b:q<L.gn:=b
  rw[u]
  by_cases c:q=yE L v
  ·rw[if_pos c]; exact⟨qK m v.o v.of,D,by rw[w,if_pos rfl,B]⟩
  rw[if_neg c]
  obtain⟨j,a,y⟩:=h.g1 q b
  refine⟨j,a,?_⟩
  rw[w,if_neg]
  ·exact y
  intro e
  rw[e,t]at y
  exact c (h.li q _ b C (congrFun y.symm 0) (congrFun y.symm 1))
 have a:j<m.gn:=a
 rw[w]
 by_cases c:j=qK m v.o v.of
 ·rw[if_pos c]; exact⟨yE L v,C,by rw[u,if_pos rfl,B]⟩
 rw[if_neg c]
 obtain⟨q,b,e⟩:=h.g2 j a
 refine⟨q,b,?_⟩
 rw[u,if_neg]
 ·exact e
 intro d
 rw[d]at e
 exact c (h.gi j _ a D (by rw[t,<- e,A]) (by rw[t,<- e,A]))
theorem fK.move(h:fK m L)(i:m.T.ok)(a:Inv0 L N)(k:dh v=true)(j:v.kind=5):nN m v=nK L v/\(nK L v=0->fK (JC m v) (Ei L v)):=by
 obtain⟨b,l,n⟩:=M8 k j
 unfold nN nK
 by_cases c:L.node v.node<0
 ·rw[if_pos c,if_pos ((h.JW a _).2 c)]
  exact⟨rfl,fun h=>by cases h⟩
 have f:0<=L.node v.node:=by omega
 rw[if_neg c,if_neg (fun e=>c ((h.JW a _).1 e)),h.inn]
 have g:vJ m v=wW L v:=by unfold vJ wW; rw[<- h.rk a f]; rfl
 have e:(v.dst<1\/6<v.dst\/L.inn (v.dst-1).toNat=false)<->L.inn (v.dst-1).toNat=false:=⟨fun h=>by rcases h with h|h|h; omega; omega; exact h,fun h => .inr (.inr h)⟩
 by_cases d:L.inn (v.dst-1).toNat=false
 ·rw[if_pos d,if_pos (e.2 d)]
  exact⟨rfl,fun h=>by cases h⟩
 rw[if_neg d,if_neg (fun q=>d (e.1 q)),g]
 refine⟨rfl,fun _ => ?_⟩
 have:=h.Cr i a ((h.node a _).2 f) (wW L v).1
 unfold JC Ei
 rw[g]; exact this
theorem fK.raise(h:fK m L)(f:m.T.ok)(a:Inv0 L N):mO m v=vF L v/\(vF L v=0->fK (zi m v) (Eh L v)):=by
 unfold mO vF
 by_cases c:L.node v.node<0
 ·rw[if_pos c,if_pos ((h.JW a _).2 c)]
  exact⟨rfl,fun h=>by cases h⟩
 have b:0<=L.node v.node:=by omega
 have d:m.R (m.idx v.node)=L.R (L.node v.node).toNat:=h.rk a b
 rw[if_neg c,if_neg (fun e=>c ((h.JW a _).1 e)),d]
 refine⟨rfl,fun _ => ?_⟩
 unfold zi Eh
 rw[d]
 exact h.Cr f a ((h.node a _).2 b) _
theorem fK.does(h:fK m L)(c:m.T.ok)(b:Inv0 L N)(d:dh v=true):gT m v=dM L v/\(dM L v=0->fK (iZ m v) (iw L v)):=by
 have j:=lV d
 unfold gT dM iZ iw
 by_cases k1:v.kind=1
 ·rw[if_pos k1,if_pos k1,if_pos k1,if_pos k1]; exact⟨h.aeO c b d k1,fun e=>h.make c b d k1 e⟩
 rw[if_neg k1,if_neg k1,if_neg k1,if_neg k1]
 by_cases k2:v.kind=2
 ·rw[if_pos k2,if_pos k2,if_pos k2,if_pos k2]; exact h.raise c b
 rw[if_neg k2,if_neg k2,if_neg k2,if_neg k2]
 by_cases f:v.kind=3
 ·rw[if_pos f,if_pos f,if_pos f,if_pos f]; exact⟨h.rR c b d,fun e=>h.take c b d e⟩
 rw[if_neg f,if_neg f,if_neg f,if_neg f]
 by_cases g:v.kind=4
 ·rw[if_pos g,if_pos g,if_pos g,if_pos g]; exact⟨h.rT c b d,fun e=>h.free c b d e⟩
 rw[if_neg g,if_neg g,if_neg g,if_neg g]
 by_cases a:v.kind=5
 ·rw[if_pos a,if_pos a,if_pos a,if_pos a]; exact h.move c b d a
 rw[if_neg a,if_neg a,if_neg a,if_neg a]
 by_cases i:v.kind=6
 ·rw[if_pos i,if_pos i,if_pos i]
  exact⟨rfl,fun _ => { h with T:=⟨h.T.has,h.T.n,h.T.par⟩,inn:=by show aJ m.inn _ true=aJ L.inn _ true; rw[h.inn] }⟩
 rw[if_neg i,if_neg i,if_neg i]
 exact⟨rfl,fun _ => { h with T:=⟨h.T.has,h.T.n,h.T.par⟩,left:=by show aJ m.left _ true=aJ L.left _ true; rw[h.left] }⟩
theorem fK.apply(h:fK m L)(f:m.T.ok)(d:Inv0 L N)(v:EvM):cZ m v=bL L v/\fK (kP m v) (aW L v):=by
 have e:cZ m v=bL L v:=by
  unfold cZ bL
  rw[h.known,h.inn,h.left]
  cases b:dh v with
  | false=>rfl
  | true =>
    rw[(h.does f d b).1]
 refine⟨e,?_⟩
 unfold kP aW
 rw[e]
 by_cases c:bL L v=0
 ·rw[if_pos c,if_pos c]
  have b:=(rdy (oq c)).1
  have g:dM L v=0:=by
   unfold bL at c
   rw[if_neg (by rw[b]; decide)]at c
   split at c; · cases c
   split at c; · cases c
   split at c; · cases c
   exact c
  have a:=(h.does f d b).2 g
  exact { a with T:=⟨a.T.has,a.T.n,a.T.par⟩,known:=by show aJ (iZ m v).known _ _=aJ (iw L v).known _ _; rw[a.known] }
 rw[if_neg c,if_neg c]; exact h
theorem fK.sound(h:fK m L)(k:m.T.ok)(c:Inv0 L N):QlK m := {
 own:=fun a l=>by
  have b:=Ns (f:=L.id) (o:=(a:Int)+1) L.nn
  have d:=c.nn
  rw[h.own a l]; omega
 row:=fun i g p n=>by
  obtain⟨j,hj,e⟩:=(h.T.has _).1 (dN.Ac g)
  have b:=h.row j hj
  rw[e]at b
  have d:m.idx (m.T.x i)=i:=kY k.inj g rfl
  unfold BQ at b
  rw[d]at b
  rw[b]
  exact ko (c.may j hj) p n
 ga:=h.ga
 kn:=by rw[h.known]; exact c.kn }
end
end Rt
end Go.Proofs.YtahbiajdgealnaaGreatDoor
