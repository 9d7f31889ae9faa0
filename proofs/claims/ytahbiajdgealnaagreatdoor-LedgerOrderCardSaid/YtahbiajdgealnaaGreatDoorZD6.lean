/-
  What the proof of the law rests on, part 6: walks of functions, and plain laws; each says its conditions itself.
-/
import Derived.Shelf.SlSortCmp.NoneTotal
import Derived.Shelf.SlSortCmp.WholeK
import Derived.Lib.SliceRun
import Derived.Ground.SlsfProg
import Derived.Test.YtahbiajdgealnaaGreatDoorProg
import Derived.Test.YtahbiajdgealnaaGreatDoorZD5
set_option maxHeartbeats 1600000
set_option linter.unusedVariables false
set_option linter.unusedSimpArgs false
namespace Go.Proofs.YtahbiajdgealnaaGreatDoor
open Go.RowKit
set_option linter.unusedVariables false
namespace Fx
abbrev Qw:=List (Nat × List Nat)
def Hg(ops:List Oper)(a:List Nat)(b:Bool)(i:Nat)(l:Qw):Bool:=l.all fun x=>match a[x.1]? with|some e => !Nat.beq i e&&(if b then xq ops i x.2 e else xq ops e x.2 i)|none=>false
def Nf(ops:List Oper)(a:List Nat)(c b:List Qw):Bool:=(List.range ops.length).all fun i=>Hg ops a true i (c.getD i [])&&Hg ops a false i (b.getD i [])
def pG(a:List Nat)(b:Array Bool)(j:Nat):Bool:=match a[j]? with|some e=>b.getD e false|none=>false
def U2(m:Nat->Bool)(j:Nat):Nat->Bool:=fun q=>bif Nat.beq q j then true else m q
section
variable {P:Program} {n:Nat} {Q:Post} {f:Nat->Value} {w:World} {ops:List Oper}
theorem Qx{i e:Nat}{p:List Nat}{b:Array Bool}(hr:i∈Region.ready .any ops.toArray b)(j:Jq ops.toArray .any b)(d:i≠e)(h:xq ops i p e=true):b.getD e false=true:=by
 obtain⟨m,n,l,g⟩:=fD hr;obtain⟨f,h⟩:=iV h
 cases f with
 | zero=>unfold reach at h; exact L_ (by simpa using h) d
 | succ f =>
   unfold reach at h;rw[Bool.or_eq_true]at h
   rcases h with h|h
   ·exact L_ (by simpa using h) d
   ·rw[l]at h;simp only at h;rw[Array.any_eq_true']at h;obtain⟨c,k,a⟩:=h;rw[R_]at a;refine j.reach _ _ a.2<|g c.on ?_;unfold dF;rw[Array.any_eq_true'];exact⟨c,k,by rw[a.1,Nat.beq_refl]; rfl⟩
theorem W.masks{id:Nat}(o:List Nat)(X po:List Qw)(y:Gh->Nat->Value)(S:(Nat->Bool)->Gh->World->Prop)(hm:P.follows .mixedOrders=true)(U:lu n ops=true)(hsel:Region.noSelect ops.toArray=true)(U3:Nf ops o X po=true)
 (hes:o.all (fun e=>Nat.blt e ops.length&&(match (opAt ops e).guard with|none=>true|_=>false))=true) (hnd:o.Nodup) (r0:Gh)
 (h0 : ∀ D,Below w.heap.size w D->D.heap.size=w.heap.size->S (fun _=>false) r0 D)
 (J : ∀ i,i<ops.length->o.contains i=false -> ∀ r m w,(∀ x∈X.getD i [],m x.1=true)->(∀ x∈po.getD i [],m x.1=false)->S m r w->if Region.wanted (opAt ops i) (yf ops.toArray (full ops f (y r)))then Oper.quietUpon P (S m r) w (y r i) ((execOp (ev (full ops f (y r))) (opAt ops i)).run P w)else y r i=undef)
 (I : ∀ j i,o[j]? = some i -> ∀ r m w (a:Act) (K:Act->World->Prop),(∀ x∈X.getD i [],m x.1=true)->(∀ x∈po.getD i [],m x.1=false)->m j=false->S m r w->(∀ x∈(opAt ops i).op.operands,a.eval x=ev (full ops f (y r)) x)->(∀ p C,S (U2 m j) (qz r j p) C->K (a.put (opAt ops i).dst (y (qz r j p) i)) C)->(opAt ops i).wp P a w K (lift n Q))
 (hd : ∀ i,i<ops.length -> ∀ j r p,(∀ x∈X.getD i [],x.1≠j)->o[j]? ≠ some i->j<o.length->y (qz r j p) i=y r i)
 (h : ∀ r m C,(∀ j,j<o.length->m j=true)->S m r C->Q .normal (full ops f (y r)) C):W P n (.region id ops.toArray true) Q f w:=fun a M=>by
 refine wp_region_any hm ?_;have Z : ∀ i,i<ops.length->Hg ops o true i (X.getD i [])=true/\Hg ops o false i (po.getD i [])=true:=fun i t=>by
  unfold Nf at U3;rw[List.all_eq_true]at U3;have:=U3 i (by simpa using t)
  rwa [R_]at this
 have hpr : ∀ i,i<ops.length -> ∀ x∈X.getD i [],∃ e,o[x.1]? = some e/\i≠e/\xq ops i x.2 e=true:=fun i t x G=>by
  have c:=(Z i t).1;unfold Hg at c;rw[List.all_eq_true]at c;have c:=c x G
  cases I:o[x.1]? with
  | none=>rw[I]at c; cases c
  | some e =>
    rw[I]at c;simp only[if_true,R_]at c;exact⟨e,rfl,fun q=>by subst q; rw[Nat.beq_refl]at c; exact L_ c.1 (by simp),c.2⟩
 have hpo : ∀ i,i<ops.length -> ∀ x∈po.getD i [],∃ e,o[x.1]? = some e/\xq ops e x.2 i=true:=fun i t x G=>by
  have c:=(Z i t).2;unfold Hg at c;rw[List.all_eq_true]at c;have c:=c x G
  cases I:o[x.1]? with
  | none=>rw[I]at c; cases c
  | some e =>
    rw[I]at c;simp only[R_]at c;exact⟨e,rfl,by simpa using c.2⟩
 have Rl : ∀ k i,o[k]? = some i->i<ops.length/\(opAt ops i).guard=none:=fun k i hk=>by
  rw[List.all_eq_true]at hes;have:=hes i (List.mem_of_getElem? hk);rw[R_]at this;refine⟨by simpa [Nat.blt_eq] using this.1,?_⟩
  cases hg:(opAt ops i).guard with
  | none=>rfl
  | some _=>rw[hg]at this; exact L_ this.2 (by simp)
 have key : ∀(O:Nat) (b:Array Bool) (a:Act) (D:World) (r:Gh),b.size=ops.length->Jq ops.toArray .any b->Fr a n (over ops f (y r) b)->S (pG o b) r D ->
  (∀ N:List Nat,N=(List.range ops.length).filter (fun i => !b.getD i false)->N.length=O)->wpAny P .any ops.toArray (lift n Q) O b a D:=by
  intro O
  induction O with
  | zero =>
    intro b a D r V Dc M R Y;have T : ∀ i,i<ops.length->b.getD i false=true:=fun i t=>by
     have c:=List.eq_nil_of_length_eq_zero (Y _ rfl)
     cases J:b.getD i false
     ·have:i∈(List.range ops.length).filter (fun i => !b.getD i false):=(by simp only[List.mem_filter,N_]; exact⟨t,by rw[J]; rfl⟩);rw[c]at this; cases this
     ·rfl
    have hnone:Region.ready .any ops.toArray b = []:=by
     cases J:Region.ready .any ops.toArray b with
     | nil=>rfl
     | cons i l =>
       have F:i∈Region.ready .any ops.toArray b:=(by rw[J]; exact List.mem_cons_self);obtain⟨c,E,_,_⟩:=fD F;rw[T i E]at c; cases c
    refine⟨hnone,full ops f (y r),?_,h r _ D (fun j A => ?_) R⟩
    ·have:over ops f (y r) b=full ops f (y r):=by
      funext s
      unfold over full
      cases Z:writer ops s with
      | none=>rfl
      | some i=>simp only; rw[d_ (T i (mU Z).2)]
     exact this ▸ M
    ·unfold pG;rw[o_ A];exact T _ (Rl j _ (o_ A)).1
  | succ O ih =>
    intro b a D r V Dc M R Y;have hcount : ∀ i,i∈Region.ready .any ops.toArray b -> ∀ N:List Nat,N=(List.range ops.length).filter (fun j => !(b.setIfInBounds i true).getD j false)->N.length=O:=by
     intro i F N Z9;obtain⟨c,E,_,_⟩:=fD F;subst Z9;have e:(List.range ops.length).filter (fun j => !(b.setIfInBounds i true).getD j false)=((List.range ops.length).filter (fun i => !b.getD i false)).erase i:=by
      rw[List.Nodup.erase_eq_filter (List.Nodup.sublist List.filter_sublist List.nodup_range),List.filter_filter];apply List.filter_congr;intro j A;by_cases e:i=j
      ·subst e; rw[set_self (by rw[V]; exact E)]; simp
      ·rw[jU e];have:(j != i)=true:=(by simp; exact fun q=>e q.symm);rw[this,Bool.true_and]
     rw[e,List.length_erase_of_mem (by simp only[List.mem_filter,N_]; exact⟨E,by rw[c]; rfl⟩),Y _ rfl];rfl
    refine⟨fun hnone => ?_,fun i F => ?_⟩
    ·exfalso;have hlen:=Y _ rfl;exact(by
      have : ∃ i,i∈Region.ready .any ops.toArray b:=by
       obtain⟨q,J⟩ : ∃ q,q∈(List.range ops.length).filter (fun i => !b.getD i false):=by
        cases hfe:(List.range ops.length).filter (fun i => !b.getD i false)with
        | nil=>rw[hfe]at hlen; cases hlen
        | cons q l=>exact⟨q,List.mem_cons_self⟩
       have LX : ∀ m q,q<=m->q<ops.length->b.getD q false=false -> ∃ i,i<ops.length/\b.getD i false=false /\ ∀ j,j<i->b.getD j false=true:=by
        intro m
        induction m with
        | zero=>intro q hm B hq2; exact⟨q,B,hq2,fun j A=>by omega⟩
        | succ m ihm =>
          intro q hm B hq2;by_cases T : ∀ j,j<q->b.getD j false=true
          ·exact⟨q,B,hq2,T⟩
          ·obtain⟨j,A⟩:=Classical.not_forall.1 T;obtain⟨hj1,hj2⟩:=Classical.not_imp.1 A;exact ihm j (by omega) (by omega) (by simpa using hj2)
       simp only[List.mem_filter,N_]at J;obtain⟨i,t,hi1,hi2⟩:=LX q q (z_ _) J.1 (by simpa using J.2);refine⟨i,mem_ready.2 ⟨getD_in (by rw[V]; exact t) hi1,opAt ops i,?_,fun e I hb=>hi2 e.on ((eX U t).2.2.2 e.on ?_)⟩⟩
       ·unfold opAt; rw[List.getElem?_toArray,r_,o_ t]; rfl
       ·unfold dF; rw[Array.any_eq_true']; exact⟨e,I,by rw[hb,Nat.beq_refl]; rfl⟩
      obtain⟨i,t⟩:=this;rw[hnone]at t; cases t)
    ·obtain⟨c,t,hop,T⟩:=fD F;have hsz':(b.setIfInBounds i true).size=ops.length:=(by simpa using V);have JE:=Dc.set F;have hev:=NG (f:=f) U (v:=y r) F;have hae : ∀ x∈(opAt ops i).op.operands,a.eval x=ev (full ops f (y r)) x:=fun x G=>by rw[M.ev]; exact hev x G
     have hex:execOp a.eval (opAt ops i)=execOp (ev (full ops f (y r))) (opAt ops i):=execOp_congr _ (Region.noSelect_spec hsel i _ · · hop) hae;have hwant:Region.wanted (opAt ops i) (yielded ops.toArray a.tmps)=Region.wanted (opAt ops i) (yf ops.toArray (full ops f (y r))):=(by rw[M.yf]; exact Cr U F);have hpre : ∀ x∈X.getD i [],pG o b x.1=true:=fun x G=>by
      obtain⟨e,E,h3,H⟩:=hpr i t x G;unfold pG;rw[E]; exact Qx F Dc h3 H
     have hpost : ∀ x∈po.getD i [],pG o b x.1=false:=fun x G=>by
      obtain⟨e,E,H⟩:=hpo i t x G;unfold pG;rw[E]
      cases hle:b.getD e false with
      | false=>exact hle
      | true =>
        obtain⟨mm,H⟩:=iV H;have:=Dc.reach _ _ H hle;rw[c]at this; cases this
     unfold wpOp;simp only[hop];rw[hwant];by_cases hne:o.contains i=true
     ·have hmem:i∈o:=(by simpa using hne);obtain⟨j,A⟩:=List.getElem?_of_mem hmem;have hg:=(Rl j i A).2;have hjl:j<o.length:=(List.getElem?_eq_some_iff.1 A).1;rw[d_ (by unfold Region.wanted; rw[hg])];refine .inl<|I j i A r _ D a _ hpre hpost (by unfold pG; rw[A]; exact c) R hae fun p C hS' => ?_;have hsame:over ops f (y r) b=over ops f (y (qz r j p)) b:=by
       funext s
       unfold over
       cases Z:writer ops s with
       | none=>rfl
       | some q =>
         simp only
         cases hlq:b.getD q false
         ·rfl
         ·simp only[if_true];have hqi:=(mU Z).2;refine(hd q hqi j r p (fun x G e => ?_) (fun e => ?_) hjl).symm
          ·obtain⟨L,E,h3,H⟩:=hpr q hqi x G;obtain⟨mm,H⟩:=iV H;have h5:=Dc.reach _ _ H hlq;rw[e,A]at E;rw[<- B_ E,c]at h5; cases h5
          ·rw[A]at e;rw[<- B_ e,c]at hlq; cases hlq
      refine ih _ _ _ (qz r j p) hsz' JE ?_ ?_ (hcount i F)
      ·have:=(hsame ▸ M).put (d:=(opAt ops i).dst) (by
        cases hd:(opAt ops i).dst with
        | none=>rfl
        | some d=>simp[inn,Nat.blt_eq,((eX U t).1 d hd).2]) (y (qz r j p) i)
       rwa [Ai U V t]at this
      ·have e:pG o (b.setIfInBounds i true)=U2 (pG o b) j:=by
        funext q
        unfold U2
        cases hb:Nat.beq q j with
        | true =>
          have:=A_ hb;subst this;unfold pG;rw[A]; exact set_self (by rw[V]; exact t)
        | false =>
          have hqj:q≠j:=fun z=>by rw[z,Nat.beq_refl]at hb; cases hb
          unfold pG
          cases hqe:o[q]? with
          | none=>rfl
          | some L =>
            have:i≠L:=fun z=>by
             subst z;have h9:=List.getElem?_eq_some_iff.1 hqe;have h10:=List.getElem?_eq_some_iff.1 A;exact hqj ((List.getElem_inj hnd).1 (h9.2.trans h10.2.symm))
            exact jU this
       rw[e]; exact hS'
     ·have hne':o.contains i=false:=(by simpa using hne);have B:=J i t hne' r _ D hpre hpost R;have hfin : ∀ C,S (pG o b) r C->wpAny P .any ops.toArray (lift n Q) O (b.setIfInBounds i true) (a.put (opAt ops i).dst (y r i)) C:=fun C hS'=>by
       refine ih _ _ _ r hsz' JE ?_ ?_ (hcount i F)
       ·have:=M.put (d:=(opAt ops i).dst) (by
         cases hd:(opAt ops i).dst with
         | none=>rfl
         | some d=>simp[inn,Nat.blt_eq,((eX U t).1 d hd).2]) (y r i)
        rwa [Ai U V t]at this
       ·have e:pG o (b.setIfInBounds i true)=pG o b:=by
         funext q
         unfold pG
         cases hqe:o[q]? with
         | none=>rfl
         | some L =>
           have:i≠L:=fun z=>by subst z; exact L_ (show o.contains i=true by simpa using List.mem_of_getElem? hqe) hne
           exact jU this
        rw[e]; exact hS'
      by_cases hwt:Region.wanted (opAt ops i) (yf ops.toArray (full ops f (y r)))=true
      ·rw[d_ hwt]at B ⊢;refine .inl ?_;unfold Oper.wp;rw[hex];generalize (execOp (ev (full ops f (y r))) (opAt ops i)).run P D=res at B
       cases res with
       | ok nx C =>
         cases nx <;> simp only[Oper.quietUpon]at B <;> simp only[Oper.upon]
         case value u=>obtain⟨e1,L⟩:=B; subst e1 L; exact hfin _ R
         case skip=>obtain⟨e1,L⟩:=B; subst e1; rw[<- L]; exact hfin _ R
         case enter g args =>
          obtain⟨e1,hc⟩:=B;subst e1;exact hc.mono fun e w'' ⟨he',hw''⟩=>by subst he'; exact hfin _ hw''
       | halt x C=>simp only[Oper.quietUpon]at B
      ·rw[b_ hwt]at B ⊢;rw[<- B];exact hfin _ R
 have hrep : ∀ i,(Array.replicate ops.toArray.size false).getD i false=false:=fun i=>by
  rw[Array.getD_eq_getD_getElem?];by_cases t:i<ops.length
  ·simp[t]
  ·simp[t]
 have hstart:over ops f (y r0) (Array.replicate ops.toArray.size false)=f:=by
  funext s
  unfold over
  cases writer ops s with
  | none=>rfl
  | some i=>simp only; rw[hrep]; simp
 have hdn:pG o (Array.replicate ops.toArray.size false)=fun _=>false:=by
  funext j
  unfold pG
  cases o[j]? with
  | none=>rfl
  | some e=>exact hrep e
 have:=key ops.toArray.size (Array.replicate ops.toArray.size false) a { w with drawn:=w.drawn+1 } r0 (by simp) (Jq.start _ _ _) (by rw[hstart]; exact M) (by rw[hdn]; exact h0 _ (Below.refl _ _).drew rfl) (fun N Y=>by
  subst Y;rw[List.filter_eq_self.2 (fun i _=>by rw[hrep]; rfl)];simp)
 simpa using this
theorem dW{r:Gh}{k j:Nat}{p:Nat × Nat}(h:j≠k):qz r k p j=r j:=by
 unfold qz;have:Nat.beq j k=false:=by
  cases hq:Nat.beq j k
  ·rfl
  ·exact L_ (A_ hq) h
 rw[this]; rfl
theorem KT{o:Oper}{ρ:Operand->Value}{T:TypeId}{m:Nat}{z:Nat->Value}(d:o.op = .alloc T)(e:((P.info? T).bind (·.zero)).map (·.cells)=some (aA m z))(a:World) : ∃ b,(execOp ρ o).run P a = .ok (.value (.pointer (some ⟨a.heap.size,0,none⟩))) b/\aQ b a.heap.size m z T/\Stp a.heap.size a b:=by
 obtain⟨i,f,g⟩:=Option.map_eq_some_iff.1 e;obtain⟨j,c,h⟩:=Option.bind_eq_some_iff.1 f;refine⟨a.alloc (.cells i.cells T),?_,?_,Stp.alloc _ _⟩
 ·unfold execOp;simp[d,Instr.alloc,zeroValue,typeInfo,c,h,newVar,newRow]
 show(a.alloc _).heap[a.heap.size]? = _;rw[alloc_at,d_ rfl,g]
theorem KU{o:Oper}{ρ:Operand->Value}{T T':TypeId}{a v:Operand}{m g:Nat}{x y:Nat->Value}{u:Value}(A:o.op = .store T' a v)(l:(P.info? T').map (·.size)=some m)(n:ρ a = .pointer (some ⟨g,0,none⟩))(p:ρ v=u)(D:u.cells=aA m y)(h1 : ∀ j,j<m->(y j).oneCell'=true){b:World}(t:aQ b g m x T) : ∃ d,(execOp ρ o).run P b = .ok .skip d/\aQ d g m y T/\Stp g b d:=by
 have h:b.heap[g]? = some (.cells (aA m x) T (0,0)):=t;have s:(aA m y).all (·.oneCell')=true:=by
  rw[Array.all_eq_true_iff_forall_mem];intro q B;obtain⟨j,i,z⟩:=Array.getElem_of_mem B;have k:j<m:=by simpa [bW] using i
  have e:=fM y k;rw[Array.getElem?_eq_getElem i,z]at e;rw[B_ e]; exact h1 j k
 have C:(storeVar T' ⟨g,0,none⟩ u).run P b = .ok () (b.setRow g (aA m y)):=by
  have f:=run_storeCells_at (P:=P) g 0 T (aA m y).toList 0 (aA m x) b h (by simp[bW]) (fun q c=>(Array.all_eq_true_iff_forall_mem.1 s) q (by simpa using c));have r:((aA m x).toList.take (0+0)++(aA m y).toList++(aA m x).toList.drop (0+0+(aA m y).toList.length)).toArray=aA m y:=by
   rw[List.drop_eq_nil_of_le (by simp[bW])]; simp
  rw[r]at f
  cases c:P.info? T' with
  | none=>simp[c]at l
  | some ti =>
    have E:ti.size=m:=(by simp[c]at l; omega);simp only[storeVar,sizeOf,typeInfo,Sem.run_bind,run_program,c,D,bW,E,ne_eq,not_true_eq_false,if_false,Result.andThen_ok,Sem.run_pure,f]
 obtain⟨F,G,H⟩:=zw (w:=b) (cs:=aA m y) h;refine⟨_,?_,G,F⟩;unfold execOp;simp only[A,n,p,Instr.storeAt,Instr.sureAddr,Sem.run_bind,Sem.run_pure,Result.andThen_ok,C]
def BR(c d:Nat)(vs:Array Value)(a b:Nat):Nat->Value:=fun i=>bif Nat.beq i c then .pointer (some ⟨a,0,none⟩)else bif Nat.beq i d then .pointer (some ⟨b,0,none⟩)else vs.getD i undef
def Je(ops:List Oper)(f:Nat->Value)(c d:Nat)(vs:Array Value)(a b:Nat):Nat->Value:=full ops f (BR c d vs a b)
structure X4(w:World)(m1 m2:Nat)(z1 y1 z2 y2:Nat->Value)(T1 T2:TypeId)(m:Nat->Bool)(r:Gh)(v:World):Prop where
 b:Below w.heap.size w v
 a:m 0=true->w.heap.size<=(r 0).1/\aQ v (r 0).1 m1 (if m 2=true then y1 else z1) T1
 c:m 1=true->w.heap.size<=(r 1).1/\aQ v (r 1).1 m2 (if m 3=true then y2 else z2) T2
 ne:m 0=true->m 1=true->(r 0).1≠(r 1).1
theorem X4.up{m1 m2:Nat}{z1 y1 z2 y2:Nat->Value}{T1 T2:TypeId}{m:Nat->Bool}{r:Gh}{v e:World}(h:X4 w m1 m2 z1 y1 z2 y2 T1 T2 m r v)(d:Below v.heap.size v e):X4 w m1 m2 z1 y1 z2 y2 T1 T2 m r e :=
 ⟨Jp h.b d,fun q=>⟨(h.a q).1,(h.a q).2.cZ (Sb d) (t_ (h.a q).2.lt)⟩,fun q=>⟨(h.c q).1,(h.c q).2.cZ (Sb d) (t_ (h.c q).2.lt)⟩,h.ne⟩
def Ng(P:Program)(a:Nat->Value)(ops:Array Oper)(w:World)(b:List Nat)(vs:Array Value):List Oper->Nat->Prop
 | [],_=>True
 | o::l,i=>(b.contains i=true\/(if Region.wanted o (yf ops a)then QB P (ev a) o w (vs.getD i undef)else vs.getD i undef=undef))/\Ng P a ops w b vs l (i+1)
theorem Hl{a:Nat->Value}{c:Array Oper}{b:List Nat}{vs:Array Value} : ∀ {l:List Oper} {k:Nat},Ng P a c w b vs l k -> ∀ i,i<l.length->(b.contains (k+i)=true\/(if Region.wanted (opAt l i) (yf c a)then QB P (ev a) (opAt l i) w (vs.getD (k+i) undef)else vs.getD (k+i) undef=undef))
 | [],_,_,i,hi=>L_ hi (by simp)
 | o::l,k,h,0,_=>h.1
 | o::l,k,h,i+1,hi=>by
   have:=Hl h.2 i (by simpa using hi)
   rwa [show k+1+i=k+(i+1) by omega]at this
theorem Fj{i j:Nat}(h:i≠j):Nat.beq i j=false:=by
 cases hq:Nat.beq i j
 ·rfl
 exact L_ (A_ hq) h
def BS(l:Qw)(j:Nat):Bool:=l.any fun x=>Nat.beq x.1 j
theorem wu{l:Qw}{j:Nat}(h:BS l j=true) : ∃ x∈l,x.1=j:=by
 unfold BS at h;rw[List.any_eq_true]at h;obtain⟨x,a,b⟩:=h;exact⟨x,a,A_ b⟩
theorem Jf{id:Nat}{T1 T2 T1' T2':TypeId}{a1 v1 a2 v2:Operand}{m1 m2:Nat}{z1 y1 z2 y2:Nat->Value}{u1 u2:Value}(k l y z:Nat)(O N:List Qw)(vs:Array Value)(hm:P.follows .mixedOrders=true)(hok:lu n ops=true)(hsel:Region.noSelect ops.toArray=true)(U3:Nf ops [k,l,y,z] O N=true)
 (hes : [k,l,y,z].all (fun e=>Nat.blt e ops.length&&(match (opAt ops e).guard with|none=>true|_=>false))=true) (hnd:decide [k,l,y,z].Nodup=true)
 (hw1:BS (O.getD y []) 0=true) (hw2:BS (O.getD z []) 1=true) (hw3:BS (N.getD k []) 2=true) (hw4:BS (N.getD l []) 3=true)
 (o1:(opAt ops k).op = .alloc T1) (o2:(opAt ops l).op = .alloc T2) (n1:((P.info? T1).bind (·.zero)).map (·.cells)=some (aA m1 z1)) (n2:((P.info? T2).bind (·.zero)).map (·.cells)=some (aA m2 z2))
 (V:(opAt ops y).op = .store T1' a1 v1) (X:(opAt ops z).op = .store T2' a2 v2) (Y:(opAt ops y).dst=none) (Z:(opAt ops z).dst=none) (e1:(P.info? T1').map (·.size)=some m1) (e2:(P.info? T2').map (·.size)=some m2)
 (ha1 : ∀ o s,ev (Je ops f k l vs o s) a1 = .pointer (some ⟨o,0,none⟩)) (ha2 : ∀ o s,ev (Je ops f k l vs o s) a2 = .pointer (some ⟨s,0,none⟩)) (hv1 : ∀ o s,ev (Je ops f k l vs o s) v1=u1) (hv2 : ∀ o s,ev (Je ops f k l vs o s) v2=u2)
 (hu1:u1.cells=aA m1 y1) (hu2:u2.cells=aA m2 y2) (h11 : ∀ j,j<m1->(y1 j).oneCell'=true) (h12 : ∀ j,j<m2->(y2 j).oneCell'=true)
 (hq : ∀ o s,Ng P (Je ops f k l vs o s) ops.toArray w [k,l,y,z] vs ops 0)
 (h : ∀ o s F f',f'=Je ops f k l vs o s->w.heap.size<=o->w.heap.size<=s->o≠s->aQ F o m1 y1 T1->aQ F s m2 y2 T2->Below w.heap.size w F->Q .normal f' F):W P n (.region id ops.toArray true) Q f w:=by
 have hn:=h_ hnd;simp only[List.nodup_cons,List.mem_cons,List.not_mem_nil,or_false,not_or]at hn;obtain⟨⟨x12,x1s,x1t⟩,⟨x2s,x2t⟩,xst,_⟩:=hn;refine W.masks [k,l,y,z] O N (fun r=>BR k l vs (r 0).1 (r 1).1) (X4 w m1 m2 z1 y1 z2 y2 T1 T2) hm hok hsel U3 hes (h_ hnd) (fun _=>(0,0)) (fun w1 A _=>⟨A,fun h=>(nomatch h),fun h=>(nomatch h),fun h=>(nomatch h)⟩) ?_ ?_ ?_ ?_
 ·intro i hi U r m v _ _ d
  rcases Hl (hq (r 0).1 (r 1).1) i hi with h2|h2
  ·rw[E_]at h2; rw[h2]at U; cases U
  rw[E_]at h2;have hni':i≠k/\i≠l/\i≠y/\i≠z:=by simpa using U
  have I:BR k l vs (r 0).1 (r 1).1 i=vs.getD i undef:=by unfold BR; rw[Fj hni'.1,Fj hni'.2.1]; rfl
  show if Region.wanted (opAt ops i) (yf ops.toArray (Je ops f k l vs (r 0).1 (r 1).1))then Oper.quietUpon P _ v (BR k l vs (r 0).1 (r 1).1 i) ((execOp (ev (Je ops f k l vs (r 0).1 (r 1).1)) (opAt ops i)).run P v)else BR k l vs (r 0).1 (r 1).1 i=undef;rw[I];by_cases hw:Region.wanted (opAt ops i) (yf ops.toArray (Je ops f k l vs (r 0).1 (r 1).1))=true
  ·rw[d_ hw]at h2 ⊢
   rcases h2 v d.b with h3|⟨g,args,h3,h4⟩
   ·rw[h3]; exact⟨rfl,rfl⟩
   rw[h3]; exact⟨rfl,h4.mono fun e w2 ⟨he,hb2⟩=>⟨he,d.up hb2⟩⟩
  rw[b_ hw]at h2 ⊢; exact h2
 ·intro j i t r m v a K hpr hpo hmj d B L
  match j,t with
  | 0,t =>
    obtain rfl:k=i:=(by simpa using t);obtain⟨v2,E,A,u⟩:=KT (ρ:=a.eval) o1 n1 v;unfold Oper.wp;rw[E];obtain⟨x,C,D⟩:=wu hw3;have hm2:m 2=false:=(by rw[<- D]; exact hpo x C);have:=L (v.heap.size,0) v2 ⟨Jp d.b u.old,fun _=>by
     rw[oo];exact⟨d.b.size,by show aQ v2 v.heap.size m1 (if m 2=true then y1 else z1) T1; rw[hm2]; exact A⟩,fun q=>by
     have q:m 1=true:=q;rw[dW (by decide)];exact⟨(d.c q).1,(d.c q).2.cZ u (t_ (d.c q).2.lt)⟩,fun _ q=>by
     have q:m 1=true:=q;rw[oo,dW (by decide)];exact Nat.ne_of_gt (d.c q).2.lt⟩
    have I:BR k l vs (qz r 0 (v.heap.size,0) 0).1 (qz r 0 (v.heap.size,0) 1).1 k = .pointer (some ⟨v.heap.size,0,none⟩):=(by unfold BR; rw[Nat.beq_refl,oo]; rfl);rw[I]at this;exact this
  | 1,t =>
    obtain rfl:l=i:=(by simpa using t);obtain⟨v2,E,A,u⟩:=KT (ρ:=a.eval) o2 n2 v;unfold Oper.wp;rw[E];obtain⟨x,C,D⟩:=wu hw4;have hm3:m 3=false:=(by rw[<- D]; exact hpo x C);have:=L (v.heap.size,0) v2 ⟨Jp d.b u.old,fun q=>by
     have q:m 0=true:=q;rw[dW (by decide)];exact⟨(d.a q).1,(d.a q).2.cZ u (t_ (d.a q).2.lt)⟩,fun _=>by
     rw[oo];exact⟨d.b.size,by show aQ v2 v.heap.size m2 (if m 3=true then y2 else z2) T2; rw[hm3]; exact A⟩,fun q _=>by
     have q:m 0=true:=q;rw[oo,dW (by decide)];exact t_ (d.a q).2.lt⟩
    have I:BR k l vs (qz r 1 (v.heap.size,0) 0).1 (qz r 1 (v.heap.size,0) 1).1 l = .pointer (some ⟨v.heap.size,0,none⟩):=(by unfold BR; rw[Fj (fun e=>x12 e.symm),Nat.beq_refl,oo]; rfl);rw[I]at this;exact this
  | 2,t =>
    obtain rfl:y=i:=(by simpa using t);obtain⟨x,C,D⟩:=wu hw1;have G:m 0=true:=(by rw[<- D]; exact hpr x C);have R:a.eval a1 = .pointer (some ⟨(r 0).1,0,none⟩):=(B a1 (by rw[V]; simp[Op.operands])).trans (ha1 (r 0).1 (r 1).1);have S:a.eval v1=u1:=(B v1 (by rw[V]; simp[Op.operands])).trans (hv1 (r 0).1 (r 1).1);obtain⟨J,E,A,u⟩:=KU V e1 R S hu1 h11 (d.a G).2;unfold Oper.wp;rw[E];show K (a.put (opAt ops y).dst undef) _;rw[Y];have:=L (0,0) J ⟨u.below d.b d.b.size (d.a G).1,fun _=>by
     rw[dW (by decide)];exact⟨(d.a G).1,by show aQ J (r 0).1 m1 (if U2 m 2 2=true then y1 else z1) T1; exact A⟩,fun q=>by
     have q:m 1=true:=q;rw[dW (by decide)];exact⟨(d.c q).1,(d.c q).2.cZ u (fun e=>d.ne G q e.symm)⟩,fun _ q=>by
     have q:m 1=true:=q;rw[dW (by decide),dW (by decide)];exact d.ne G q⟩
    rw[Y]at this;exact this
  | 3,t =>
    obtain rfl:z=i:=(by simpa using t);obtain⟨x,C,D⟩:=wu hw2;have H:m 1=true:=(by rw[<- D]; exact hpr x C);have R:a.eval a2 = .pointer (some ⟨(r 1).1,0,none⟩):=(B a2 (by rw[X]; simp[Op.operands])).trans (ha2 (r 0).1 (r 1).1);have S:a.eval v2=u2:=(B v2 (by rw[X]; simp[Op.operands])).trans (hv2 (r 0).1 (r 1).1);obtain⟨J,E,A,u⟩:=KU X e2 R S hu2 h12 (d.c H).2;unfold Oper.wp;rw[E];show K (a.put (opAt ops z).dst undef) _;rw[Z];have:=L (0,0) J ⟨u.below d.b d.b.size (d.c H).1,fun q=>by
     have q:m 0=true:=q;rw[dW (by decide)];exact⟨(d.a q).1,(d.a q).2.cZ u (d.ne q H)⟩,fun _=>by
     rw[dW (by decide)];exact⟨(d.c H).1,by show aQ J (r 1).1 m2 (if U2 m 3 3=true then y2 else z2) T2; exact A⟩,fun q _=>by
     have q:m 0=true:=q;rw[dW (by decide),dW (by decide)];exact d.ne q H⟩
    rw[Z]at this;exact this
  | j+4,t=>simp at t
 ·intro i hi j r p C hne hjl;have t:j=0\/j=1\/j=2\/j=3:=by simp at hjl; omega
  show BR k l vs (qz r j p 0).1 (qz r j p 1).1 i=BR k l vs (r 0).1 (r 1).1 i;unfold BR
  rcases t with rfl|rfl|rfl|rfl
  ·have:i≠k:=fun e=>hne (by rw[e]; rfl);rw[Fj this]; simp only[cond_false]; rw[dW (by decide)]
  ·have:i≠l:=fun e=>hne (by rw[e]; rfl);rw[Fj this]; simp only[cond_false]; rw[dW (by decide)]
  ·rw[dW (by decide),dW (by decide)]
  rw[dW (by decide),dW (by decide)]
 intro r m F M d;have m0:=M 0 (by simp); have m1':=M 1 (by simp); have m2':=M 2 (by simp); have m3:=M 3 (by simp);have B:=d.a m0; have T:=d.c m1';rw[m2']at B; rw[m3]at T;exact h (r 0).1 (r 1).1 F _ rfl B.1 T.1 (d.ne m0 m1') B.2 T.2 d.b
end
end Fx
end Go.Proofs.YtahbiajdgealnaaGreatDoor
namespace Go.Proofs.YtahbiajdgealnaaGreatDoor
open Go.RowKit Rt
open Fx (fC eO fK bA gU gT dD dS gL jw eG jy gu jA jc Lv sN Ln Ws Qv Wl Rp Wc Qs Wr Sb Lk Wk rC rV sR Rs Rn Rd Rk Wb Wx Wo Cu Wt qR Jf Qn FP Bb yc yK Cq Dz ql iC yL ni rW uh vH wF yJ Cv Aj rv aA aQ bH aM ev cB Stp dH aX flat dB Mp eU aW ig iO bC down iM jL iN lU bK bI cells_one iQ bV vM unseen jJ iD bX dJ bL bO bY bZ gG gH pO gV)
set_option maxRecDepth 20000
namespace Rt
def ng(v:EvM):Int:=1099511627776*v.o+v.seq
def iU(m:dK)(v:EvM):Int:=if 5<=m.own (aL v)\/140737488355328<v.aT then 6 else m.T.err (ng v) v.node
def CV(m:dK)(v:EvM):dK := { m with T:=m.T.put (ng v) v.node,R:=aM m.R m.T.n (upd (fun _=>0) (aL v) v.aT),own:=aH m.own (aL v) (m.own (aL v)+1) }
theorem U4{T:dL}{pa:Int}{id:Int}{w:World}{b n:Nat}{x:Nat->Int}(h:Mp w b n x (aM (Dv T) T.n (aD pa))):Mp w b n x (Dv (T.put id pa)):=h.sZ fun i _=>⟨rfl,by show aM (Dv T) T.n _ i=aD (aM T.p T.n pa i); unfold aM Dv; split <;> rfl⟩
theorem X5{R:Nat->Nat->Int}{j n b:Nat}{r:Nat->Int}{x:Nat->Int}{w:World}(h:Mp w b n x (aM (wo R) j (.agg (aA 54 (rv .i64 r))))):Mp w b n x (wo (aM R j r)):=D5 _ _ _ _ h
end Rt
theorem agD(o q:Int)(w:World)(b:1<=o/\o<=6)(c:1<=q/\q<1099511627776):Calls Tryz.prog 169 #[au o,aD q] w fun e a=>e = .returned (aD (1099511627776*o+q))/\a=w:=by
 have h:=anp o.toNat q.toNat w (by omega) (by omega);rw[show((o.toNat:Nat):Int)=o by omega,show((q.toNat:Nat):Int)=q by omega]at h;exact h
theorem U5(m:dK)(b B:Nat)(w:World)(h:kV w B b m)(v:EvM)(hv:bS v=true)(J:m.T.err (ng v) v.node=0)(a:Nat)(ha:a<6)(hra:aL v=a)(hob:0<=m.own a/\m.own a<=1000)(hid:0<=ng v/\ng v<=18446744073709551615)(I:Nat)(G:Nat)(l:Nat)(H:Nat)(S:aQ w I 1 (fun _=>(pt b)) 37)(hi:aQ w G 1 (fun _=>aD (ng v)) 28)(P:aQ w l 14 (bR v) 32)(Q:aQ w H 1 (fun _=>au (a:Int)) 3) :
 Calls Tryz.prog 171 #[(pt I),(pt G),(pt l),(pt H)] w fun e w'=>e = .returned (.tuple #[])/\kV w' B b (CV m v)/\jL (Bf m b) w w':=by
 have hC:=h.c;have hT:=h.t;have hP:=h.p;have hR:=h.r;have hG:=h.g;have hA:=h.a;have d:=h.ne;have lC:=h.c.lt;have lT:=h.t.lt;have lP:=h.p.lt;have lR:=h.r.lt;have lG:=h.g.lt;have lA:=h.a.lt;have Zc:=S.lt;have lgi:=hi.lt;have ZC:=P.lt;have lgk:=Q.lt;have U : ∀ i,i<m.T.n->m.T.x i≠ng v:=fun i hi e=>by have:=(Et J).2.1; rw[jB hi e]at this; cases this
 refine Kent Tryz.func171 42 ?_;refine Ws ?_;refine jP [5,0,1,2,3,4,6,7] [4,0,0,4,4,0,4,3] [(7,0,[3,2,1,0]),(7,3,[3]),(7,4,[4]),(7,6,[6])] fun oI K gY => ?_;have s1:Stp w.heap.size w oI:=Sb K;have⟨W,m2,m3,m4,m5,m6,m7,m8,m9,m10⟩:=um K hC hT hP hR hG hA S hi P Q;have b1:=(uh (Bf m b) w).then s1 (.inr (uh (Bf m b) w).size);refine aY (pf l 9)<|Rs (pt b) (aN m7.aI 0) ?_;refine aY (pt b)<|aY (pf b 18)<|Rs (pt m.tp) (aN W.aI 18) ?_;refine Rs (aD (ng v)) (aN m8.aI 0) ?_;refine Rs (aD v.node) (aN m9.aI 9) ?_;refine gK<|dP (J9 (ng v) v.node m2 hid) _ rfl ?_;rintro y ⟨m11,s2⟩;have j:=m2.Bl s2;have m12:=W.dQ j;have m13:=m3.dQ j (Ne.symm d.mp);have m14:=m4.dQ j (Ne.symm d.mr);have m15:=m5.dQ j (Ne.symm d.mg);have m16:=m6.dQ j (Ne.symm d.ma);have m17:=m7.dQ j;have m18:=m8.dQ j;have m19:=m9.dQ j;have m20:=m10.dQ j;have C:=b1.then s2 (.inl (.inr (.inl rfl)));have m21:ru y B m.tp m.mb (m.T.put (ng v) v.node):=by rw[<- dL.D6 J]; exact m11
 refine Ln<|bQ<|Ws ?_;refine jP [5,0,1,2,3,4,6,7] [4,0,0,4,4,0,4,3] [(7,0,[0]),(7,3,[3]),(7,4,[4]),(7,6,[6])] fun Cw M nC => ?_;have s3:Stp y.heap.size y Cw:=Sb M;have⟨m22,m23,m24,mY,nQ,oJ,ou,qo,oP,mV⟩:=um M m12 m13 m14 m15 m16 m17 m18 m19 m20 m21;have b3:=C.then s3 (.inr C.size);refine aY (pf l 9)<|Rs (pt b) (aN oJ.aI 0) ?_;refine aY (pt b)<|aY (pf b 19)<|Rs (.map (some m.pb)) (aN m22.aI 19) ?_;refine Rs (aD (ng v)) (aN ou.aI 0) ?_;refine Rs (aD v.node) (aN qo.aI 9) ?_;refine gK<|Fx.L.Pp (by rfl) rfl rfl rfl rfl rfl m23 Tryz.underlying100 Tryz.underlying28 U fun z m32 s4 z1 => ?_;have k:=m23.Bl s4;have oQ:=m22.dQ k;have nT:=m24.dQ k (Ne.symm d.pr);have pY:=mY.dQ k (Ne.symm d.pg);have qD:=nQ.dQ k (Ne.symm d.pa);have rQ:=oJ.dQ k;have rR:=ou.dQ k;have oU:=qo.dQ k;have rT:=oP.dQ k;have mZ:=mV.dQ k (d.mp);have D:=b3.then s4 (.inl (.inr (.inr (.inl rfl))));have mP:Mp z m.pb ((m.T.put (ng v) v.node).n) ((m.T.put (ng v) v.node).x) (Dv (m.T.put (ng v) v.node)):=U4 m32;refine Ln<|bQ<|Ws ?_;refine jP [0,2,3,7,8,1,4,5,6,9,10] [4,4,0,0,0,4,0,0,0,0,3] [(10,0,[0]),(10,1,[1]),(10,5,[5])] fun QV N Ao => ?_;have s5:Stp z.heap.size z QV:=Sb N;have⟨s,qY,qE,nE,qF,wJ,rY,sJ,uV,uy⟩:=um N oQ nT pY qD rQ rR oU rT mZ mP;have b5:=D.then s5 (.inr D.size);refine Rs (pt b) (aN qF.aI 0) ?_;refine aY (pt b)<|aY (pf b 21)<|aY (pt b)<|aY (pf b 21)<|Rs (au a) (aN sJ.aI 0) ?_;refine Rp (pf b (a+21)) (fun _=>jD 6 1)<|Rs (au (m.own a)) (aN s.aI (a+21) (Ja (p:=a) (by omega) (by omega))) ?_;refine Rp (au ((m.own a)+1)) (fun _=>eT)<|Rp (pf b (a+21)) (fun _=>jD 6 1)<|gK<|jh s (a+21) (au ((m.own a)+1)) fun w3 tY s6 z2 => ?_;have uz:aQ w3 b 29 (uP { m with own:=aH m.own a (m.own a+1) }) 106:=tY.to (XP ha (by omega) _);have gN:=iC s6 s.ty;have⟨xH,tZ,sK,uf,xI,qb,wK,nY,tJ⟩:=aaq gN qY qE nE qF wJ rY sJ uV uy;have q:=b5.then s6 (.inl (.inl rfl));refine Ln<|bQ<|ay<|av (.agg (aA 54 (rv .i64 (fun _=>0))))<|wX 54 (rv .i64 (fun _=>0)) fun o w4 F u s7 z3 => ?_;have⟨wS,wL,wT,wU,rZ,uW,vN,wM,uX,zk⟩:=um s7.old xH tZ sK uf xI qb wK nY tJ uz;have b7:=q.then s7 (.inr q.size);have V:=jE F q.size;have⟨anF,anG,anH,anI,anJ,anK,anL,anM,anN⟩:=WJ F xH.lt tZ.lt sK.lt uf.lt xI.lt qb.lt wK.lt tJ.lt uz.lt;have uU:=u.lt;refine fH u 0 fun w5 wN s8 z4 => ?_;have yP:aQ w5 o 54 (rv .i64 (fun _=>0)) 59:=aX wN;have jX:=iC s8 u.ty;have⟨yQ,yR,wZ,wV,vO,xJ,zF,xK,Aq,Ar⟩:=NP jX wS wL wT wU rZ uW vN wM uX zk;have b8:=b7.then s8 (.inr V);refine aC<|ay<|Lv (au a) (aN zF.aI 0)<|av (pf l 11)<|Lv (au v.aT) (aN xJ.aI 11)<|av (pt o)<|Lv (pf o a) (jD 6 1)<|jh yP a (au v.aT) fun A Ac s9 z5 => ?_;have zG:aQ A o 54 (rv .i64 (upd (fun _=>0) a v.aT)) 59:=Ac.to (Fx.vg _ _ _ _);have tF:=iC s9 yP.ty;have⟨zH,Au,Ey,Dr,Bv,CJ,zM,FU,DT,FV⟩:=NP tF yQ yR wZ wV vO xJ zF xK Aq Ar;have E:=b8.then s9 (.inr V);refine aC ?_;refine jP [0,1,2,3,4,5,6] [4,0,0,4,4,4,3] [(6,0,[0]),(6,3,[3]),(6,4,[4]),(6,5,[5])] fun wt4 O Gy => ?_;have s10:Stp A.heap.size A wt4:=Sb O;have⟨F5,vX,xM,X,Y,oZ,oz,qg,pz,Z,aa⟩:=Em O zH Au Ey Dr Bv CJ zM FU DT FV zG;have b10:=E.then s10 (.inr E.size);refine Rs (pt b) (aN X.aI 0) ?_;refine aY (pt b)<|aY (pf b 20)<|Rs (.map (some m.rb)) (aN Z.aI 20) ?_;refine Rs (aD (ng v)) (aN Y.aI 0) ?_;refine Rs (.agg (aA 54 (rv .i64 (upd (fun _=>0) a v.aT)))) (fG aa.aI 0) ?_;refine gK<|Fx.L.Pp (by rfl) rfl rfl rfl rfl rfl F5 Tryz.underlying101 Tryz.underlying28 U fun w7 uI s11 z6 => ?_;have f:=F5.Bl s11;have qH:=vX.dQ f (Ne.symm d.rg);have tL:=xM.dQ f (Ne.symm d.ra);have yS:=X.dQ f;have uJ:=Y.dQ f;have yT:=oZ.dQ f;have Bz:=oz.dQ f;have wW:=qg.dQ f (d.mr);have tN:=pz.dQ f (d.pr);have qh:=Z.dQ f;have xO:=aa.dQ f;have b11:=b10.then s11 (.inl (.inr (.inr (.inr (.inl rfl)))));have xP:Mp w7 m.rb ((m.T.put (ng v) v.node).n) ((m.T.put (ng v) v.node).x) (wo (aM m.R m.T.n (upd (fun _=>0) a v.aT))):=X5 uI;refine Ln (Rn (⟨.tuple #[],iM Tryz.results171,?_⟩));unfold CV; rw[hra];exact⟨rfl,{ c:=qh,t:=wW,p:=tN,r:=xP,g:=qH,a:=tL,ne:=⟨d.mp,d.mr,d.mg,d.ma,d.pr,d.pg,d.pa,d.rg,d.ra,d.ga⟩,lB:=h.lB,pB:=h.pB,rB:=h.rB,gB:=h.gB,aB:=h.aB },b11⟩
theorem X6(m:dK)(j B:Nat)(w:World)(h:kV w B j m)(v:EvM)(L:bS v=true)(ab : ∀ a,a<6->0<=m.own a/\m.own a<=1000) :
 Calls Tryz.prog 162 #[(pt j),.agg (aA 14 (bR v))] w fun e w'=>QX w B j m (CV m v) (iU m v) e w':=by
 have Z:=h.c;have hT:=h.t;have hP:=h.p;have hR:=h.r;have hG:=h.g;have hA:=h.a;have hN:=h.ne;have lC:=h.c.lt;have lT:=h.t.lt;have lP:=h.p.lt;have lR:=h.r.lt;have lG:=h.g.lt;have lA:=h.a.lt;obtain⟨a,J,ho⟩ : ∃ a:Nat,a<6/\v.o=(a:Int)+1:=fq (iK L);have A:aL v=a:=by unfold aL; omega
 have hbd:=nN L;have aa:0<=ng v/\ng v<=18446744073709551615:=by unfold ng; omega
 have hoa:=ab a J;refine Kent Tryz.func162 38 ?_;refine ay<|zA (pt j) fun n w1 X M s1 z1 => ?_;have⟨m2,U⟩:=eZ s1.old Z (Below.refl w.heap.size w);have tC:=iq X;have nD:=cK X Z.lt;have uU:=M.lt;refine qM fun b w2 Y l s2 z2 => ?_;have⟨P,Q,H⟩:=jG s2.old m2 M U;have rU:=jE Y U.size;have⟨agk,Zx⟩:=xD Y m2.lt M.lt;have Av:=l.lt;refine av (.nilFunc)<|av (au 0)<|aC<|Ws ?_;refine Jf (T1:=28) (T2:=3) (T1':=28) (T2':=3) (a1 := .tmp 6) (v1 := .tmp 13) (a2 := .tmp 7) (v2 := .tmp 16) (m1:=1) (m2:=1) (z1:=rv .u64 (fun _=>0)) (y1:=fun _=>aD (ng v)) (z2:=rv .i64 (fun _=>0)) (y2:=fun _=>au (a:Int)) (u1:=aD (ng v)) (u2:=au (a:Int)) 8 9 10 11 [[],[],[],[],[],[],[],[],[],[],[(0,[8]),(1,[9])],[(0,[8]),(1,[9]),(2,[10])]] [[(2,[0]),(3,[0])],[(2,[1]),(3,[1])],[(2,[2]),(3,[2])],[(2,[3]),(3,[3])],[(2,[4]),(3,[4])],[(3,[5])],[(3,[6])],[(3,[7])],[(2,[8]),(3,[8])],[(2,[9]),(3,[9])],[(3,[10])],[]] #[(pt b),au v.o,(pf b 1),aD v.seq,aD (ng v),(pt b),au v.o,au (a:Int),undef,undef,undef,undef] (by kernel_rfl) (by kernel_rfl) (by kernel_rfl) (by kernel_rfl) (by kernel_rfl) (by kernel_rfl) (by kernel_rfl) (by kernel_rfl) (by kernel_rfl) (by kernel_rfl) rfl rfl (by kernel_rfl) (by kernel_rfl) rfl rfl rfl rfl (by kernel_rfl) (by kernel_rfl) (fun d f=>(show ev _ (.tmp 6)=(pt d)from by kernel_rfl)) (fun d f=>(show ev _ (.tmp 7)=(pt f)from by kernel_rfl)) (fun d f=>(show ev _ (.tmp 13)=aD (ng v)from by kernel_rfl)) (fun d f=>(show ev _ (.tmp 16)=au (a:Int)from by kernel_rfl)) (cells_one (by rfl)) (cells_one (by rfl)) (fun _ _=>rfl) (fun _ _=>rfl) (fun d f => ?_) ?_
 ·refine⟨?_,?_,?_,?_,?_,?_,?_,?_,?_,?_,?_,?_,trivial⟩
  ·exact .inr pU
  ·exact .inr (rX (au v.o) fun E q=>bA (x:=bR v) rfl (show ev _ (.tmp 9)=(pt b)from by kernel_rfl) (by kernel_rfl) (l.aI.below q (by have:=l.lt; omega)) (i:=0) (by omega) (by omega) rfl)
  ·exact .inr pU
  ·exact .inr (rX (aD v.seq) fun E q=>bA (x:=bR v) rfl (show ev _ (.tmp 11)=(pf b 1)from by kernel_rfl) (by kernel_rfl) (l.aI.below q (by have:=l.lt; omega)) (i:=1) (by omega) (by omega) rfl)
  ·exact .inr (Fx.Ik (v:=aD (ng v)) (by kernel_rfl) (by kernel_rfl) (Fx.qbC (fun E q=>rC (args := [au v.o,aD v.seq]) rfl (Fx.args2 (show ev _ (.tmp 10)=au v.o from by kernel_rfl) (show ev _ (.tmp 12)=aD v.seq from by kernel_rfl)) Tryz.func169 rfl rfl) (fun E q=>(agD v.o v.seq _ (by omega) (by omega)).mono fun e v2 h=>⟨h.1,(by rw[h.2]; exact Below.refl _ _)⟩)))
  ·exact .inr pU
  ·exact .inr (rX (au v.o) fun E q=>bA (x:=bR v) rfl (show ev _ (.tmp 14)=(pt b)from by kernel_rfl) (by kernel_rfl) (l.aI.below q (by have:=l.lt; omega)) (i:=0) (by omega) (by omega) rfl)
  ·exact .inr (rX (au a) fun E q=>Fx.YW rfl (show ev _ (.tmp 15)=au v.o from by kernel_rfl) (show ev _ (.const (au 1))=au 1 from by kernel_rfl) Fx.io)
  ·exact .inl rfl
  ·exact .inl rfl
  ·exact .inl rfl
  exact .inl rfl
 rintro d f w3 y u C D ne1 m6 m7 hb1;have arP:j≠d:=t_ (n_ (P.lt) C);have afl:n≠d:=t_ (n_ (Q.lt) C);have arQ:b≠d:=t_ (n_ (l.lt) C);have arR:j≠f:=t_ (n_ (P.lt) D);have arS:n≠f:=t_ (n_ (Q.lt) D);have arT:b≠f:=t_ (n_ (l.lt) D);have⟨m8,m9,m10,b3⟩:=mK hb1 P Q l H;have C:w.heap.size<=d:=m_ H.size C;have Mr:=m6.lt;have D:w.heap.size<=f:=m_ H.size D;have Ub:=m7.lt;have R:y 2=(pt n):=by rw[u]; kernel_rfl
 have S:y 3=(pt b):=by rw[u]; kernel_rfl
 have q3:y 4 = .nilFunc:=by rw[u]; kernel_rfl
 have q4:y 5=au 0:=by rw[u]; kernel_rfl
 have q5:y 6=(pt d):=by rw[u]; kernel_rfl
 have q6:y 7=(pt f):=by rw[u]; kernel_rfl
 clear u;refine sN<|Ws<|Ws ?_;refine jP [0,2,3,1,4,5,6,7,8,9,10,11] [4,4,0,0,0,4,0,0,0,4,0,0] [] fun oI dM gY => ?_;have⟨m11,N,O,ac,ad,F⟩:=sV dM m8 m9 m10 m6 m7 b3;refine Rs (pt j) (aN N.aI 0 (ha:=R)) ?_;refine aY (pt j)<|aY (pf j 21)<|Rs (au a) (aN ad.aI 0 (ha:=q6)) ?_;refine Rp (pf j (a+21)) (fun _=>jD 6 1)<|Rs (au (m.own a)) (aN m11.aI (a+21) (Ja (p:=a) (by omega) (by omega))) ?_;by_cases V:5<=(m.own a)
 ·refine Rp aG (fun _=>jW V)<|aY aG<|Rk (by rfl)<|Rk (by rfl)<|Rk (by rfl)<|aY aG<|bQ<|aO<|ay<|av (.nilFunc)<|av (au 6)<|aC<|Wr<|sR<|aJ (.tuple #[.nilFunc,au 6]) ?_;have k:iU m v=6:=by unfold iU; rw[A]; exact d_ (.inl (by omega))
  exact⟨⟨.nilFunc,0,#[],by rw[k],rfl,fun z=>L_ (k.symm.trans z) (by first|decide|omega|assumption)⟩,F⟩
 refine Rp aF (fun _=>jQ V)<|aY aF<|Rp (pf b 11) (fun _=>ji S 11)<|Rs (au v.aT) (aN O.aI 11) ?_;by_cases W:140737488355328<v.aT
 ·refine Rp aG (fun _=>lH W)<|aY aG<|bQ<|aO<|ay<|av (.nilFunc)<|av (au 6)<|aC<|Wr<|sR<|aJ (.tuple #[.nilFunc,au 6]) ?_;have k:iU m v=6:=by unfold iU; rw[A]; exact d_ (.inr (by omega))
  exact⟨⟨.nilFunc,0,#[],by rw[k],rfl,fun z=>L_ (k.symm.trans z) (by first|decide|omega|assumption)⟩,F⟩
 refine Rp aF (fun _=>lI W)<|aY aF<|bQ<|aK<|Wk<|sN<|Ws<|ay<|Lv (pt j) (aN N.aI 0 (ha:=R))<|Lv (aD (ng v)) (aN ac.aI 0 (ha:=q5))<|Lv (pf b 9) (ji S 9)<|Lv (aD v.node) (aN O.aI 9)<|dP (acU m j B _ (h.up F) (ng v) v.node aa) _ rfl ?_;intro w4 s;have⟨ae,af,ag,m20,I⟩:=wR s N O ac ad F;refine av (au (m.T.err (ng v) v.node))<|aC<|ay<|av (au (m.T.err (ng v) v.node)) ?_;by_cases G:(m.T.err (ng v) v.node)=0
 ·refine Lv aF (jd G)<|aC<|aK<|Wk<|sN<|ay<|Lv (.func (.func 171) #[] #[(pt n),(pt d),(pt b),(pt f)]) (Fx.nk (us := []) (vs := [(pt n),(pt d),(pt b),(pt f)]) rfl rfl (Fx.Q6 R q5 S q6))<|av (.func (.func 171) #[] #[(pt n),(pt d),(pt b),(pt f)])<|av (au 0)<|aC<|Wr<|aJ (.tuple #[.func (.func 171) #[] #[(pt n),(pt d),(pt b),(pt f)],au 0]) ?_;have k:iU m v=0:=by unfold iU; rw[A,b_ (by omega)]; exact G
  exact⟨⟨_,171,#[(pt n),(pt d),(pt b),(pt f)],by rw[k],rfl,fun _=>⟨rfl,⟨_,_,Tryz.func171,rfl,rfl⟩,fun w2 s=>(U5 m j B w2 ((h.up I).up s) v L G a J A (ab a J) aa _ _ _ _ (ae.cZ (Sb s) (t_ ae.lt)) (ag.cZ (Sb s) (t_ ag.lt)) (af.cZ (Sb s) (t_ af.lt)) (m20.cZ (Sb s) (t_ m20.lt))).mono fun _ _ K=>⟨K.1,K.2.1,K.2.2.mono fun _ hk => .inl hk⟩⟩⟩,I⟩
 refine Lv aG (lJ G)<|aC<|aO<|ay<|av (au (m.T.err (ng v) v.node))<|av (.nilFunc)<|av (au (m.T.err (ng v) v.node))<|aC<|Wr<|sR<|aJ (.tuple #[.nilFunc,au (m.T.err (ng v) v.node)]) ?_;have k:iU m v=m.T.err (ng v) v.node:=by unfold iU; rw[A,b_ (by omega)]
 exact⟨⟨.nilFunc,0,#[],by rw[k],rfl,fun z=>L_ (k.symm.trans z) (by first|decide|omega|assumption)⟩,I⟩
end Go.Proofs.YtahbiajdgealnaaGreatDoor
namespace Go.Proofs.YtahbiajdgealnaaGreatDoor
open Go.RowKit Go
set_option linter.unusedVariables false
namespace Rt
section
variable {x p:Nat->Int} {n d e:Nat} {k v:Int}
theorem Jg : ∀ {d:Nat} {v:Int},jk x p n d v -> ∀ k,k∈jm x p n d v->(jm x p n d k).length<=(jm x p n d v).length
 | 0,v,h,k,hk=>by cases hk
 | d+1,v,h,k,hk=>by
   cases hv:dO x n v with
   | false=>rw[kI hv]at hk; cases hk
   | true =>
     have e:jm x p n (d+1) v=v::jm x p n d (iy x p n v):=(by show(if _ then _ else _)=_; rw[d_ hv]);have a:jk x p n d (iy x p n v):=h hv;rw[e]at hk
     rcases List.mem_cons.1 hk with rfl|hk
     ·exact z_ _
     ·have b:=Jg a k hk;have c:jk x p n d k:=by
       refine Am (d:=d) ?_ (m_ b yt);exact Fp a k hk
      have f:=(Iz c (Nat.le_succ d)).1;rw[f,e,List.length_cons]; omega
where Fp : ∀ {d:Nat} {v:Int},jk x p n d v -> ∀ k,k∈jm x p n d v->jk x p n d k
 | 0,v,h,k,hk=>by cases hk
 | d+1,v,h,k,hk=>by
   cases hv:dO x n v with
   | false=>rw[kI hv]at hk; cases hk
   | true =>
     have e:jm x p n (d+1) v=v::jm x p n d (iy x p n v):=(by show(if _ then _ else _)=_; rw[d_ hv]);have hs:jk x p n d (iy x p n v):=h hv;rw[e]at hk
     rcases List.mem_cons.1 hk with rfl|hk
     ·exact h
     ·exact(Iz (Fp hs k hk) (Nat.le_succ d)).2
theorem Ho : ∀ {d:Nat} {v:Int},jk x p n d v->(jm x p n d v).Nodup
 | 0,v,h=>List.nodup_nil
 | d+1,v,h=>by
   cases hv:dO x n v with
   | false=>rw[kI hv]; exact List.nodup_nil
   | true =>
     have e:jm x p n (d+1) v=v::jm x p n d (iy x p n v):=(by show(if _ then _ else _)=_; rw[d_ hv]);have a:jk x p n d (iy x p n v):=h hv;rw[e,List.nodup_cons];refine⟨fun c => ?_,Ho a⟩;have f:=Jg a v c;have b:=(Iz (Jg.Fp a v c) (Nat.le_succ d)).1;rw[e]at b;rw[<- b,List.length_cons]at f;omega
end
section
variable {T:dL} {l:List Int} {k:Int}
theorem dL.zV(h:T.ok)(k:Int):(T.path k).Nodup:=Ho (h.stop k)
theorem dL.nO(h:T.ok)(e:l=T.path k) : ∀ v,v∈l->T.has v=true:=fun v c=>by
 obtain⟨i,a,b⟩:=List.getElem_of_mem c;have:=dL.Na h e a;rw[r_,o_ a]at this;rw[<- b]; exact this
theorem BU(h:l.Nodup){i j:Nat}(hi:i<l.length)(a:j<l.length)(e:l.getD i 0=l.getD j 0):i=j:=by
 rw[r_,r_,o_ hi,o_ a]at e;exact(List.getElem_inj h).1 e
end
def jC(f:(Nat->Int)->(Nat->Int) × Int)(r:Nat->Nat->Int):Nat->Int
 | 0=>0
 | i+1=>if jC f r i=0 then(f (r i)).2 else jC f r i
section
variable {f:(Nat->Int)->(Nat->Int) × Int} {r:Nat->Nat->Int} {i n:Nat}
theorem BX(h:jC f r i=0)(a:(f (r i)).2=0):jC f r (i+1)=0:=by unfold jC; rw[d_ h,a]
theorem zW(h:jC f r i=0)(a : ¬ (f (r i)).2=0) : ∀ n,i<n->jC f r n=(f (r i)).2
 | 0,hn=>L_ hn (u_ _)
 | n+1,hn=>by
   unfold jC;by_cases e:i=n
   ·subst e; rw[d_ h]
   ·rw[zW h a n (by omega),b_ a]
theorem Fq : ∀ {n:Nat},jC f r n=0 -> ∀ i,i<n->(f (r i)).2=0
 | 0,_,i,hi=>L_ hi (u_ _)
 | n+1,h,i,hi=>by
   unfold jC at h;by_cases a:jC f r n=0
   ·rw[d_ a]at h;by_cases e:i=n
    ·rw[e]; exact h
    ·exact Fq a i (by omega)
   ·rw[b_ a]at h; exact L_ h a
end
def CW(m:dK)(k:Int):Nat->Int:=m.R (m.idx k)
def dA(m:dK)(f:(Nat->Int)->(Nat->Int) × Int)(l:List Int):Int:=jC f (fun i=>CW m (l.getD i 0)) l.length
open Classical in
noncomputable def oF(m:dK)(f:(Nat->Int)->(Nat->Int) × Int)(l:List Int):dK := { m with R:=fun i=>if m.T.x i∈l then(f (m.R i)).1 else m.R i }
def CX(l:List Int)(S:Nat->Bool)(v:Int):Nat->Bool
 | 0=>false
 | n+1=>CX l S v n || (S n&&decide (l.getD n 0=v))
theorem qO{l:List Int}{S:Nat->Bool}{v:Int} : ∀ {n:Nat},CX l S v n=true <-> ∃ q,q<n/\S q=true/\l.getD q 0=v
 | 0=>⟨fun h=>(nomatch h),fun⟨q,h,_⟩=>L_ h (u_ _)⟩
 | n+1=>by
   unfold CX;rw[Bool.or_eq_true,qO,R_,O_];constructor
   ·rintro (⟨q,c,a,b⟩|⟨c,a⟩)
    ·exact⟨q,by omega,a,b⟩
    ·exact⟨n,by omega,c,a⟩
   ·rintro ⟨q,c,a,b⟩;by_cases e:q=n
    ·subst e; exact .inr ⟨a,b⟩
    ·exact .inl ⟨q,by omega,a,b⟩
def xV(m:dK)(f:(Nat->Int)->(Nat->Int) × Int)(l:List Int)(S:Nat->Bool):Nat->Nat->Int:=fun i=>if CX l S (m.T.x i) l.length=true then(f (m.R i)).1 else m.R i
theorem Nh(m:dK)(f:(Nat->Int)->(Nat->Int) × Int)(l:List Int):xV m f l (fun _=>false)=m.R:=by
 funext i
 unfold xV;rw[b_];rw[qO];rintro ⟨q,_,h,_⟩; cases h
theorem Qy{m:dK}(o:m.T.ok){f:(Nat->Int)->(Nat->Int) × Int}{l:List Int}{S:Nat->Bool}{q j:Nat}(t:q<l.length)(s:j<m.T.n)(g:m.T.x j=l.getD q 0) : ∀ i,i<m.T.n->Fx.aM (xV m f l S) j (f (m.R j)).1 i=xV m f l (Fx.aM S q true) i:=fun i p=>by
 unfold Fx.aM;by_cases e:i=j
 ·subst e;rw[d_ rfl];unfold xV;rw[d_];rw[qO];exact⟨q,t,by show(if q=q then true else S q)=true; rw[d_ rfl],g.symm⟩
 ·rw[b_ e];unfold xV;have:CX l S (m.T.x i) l.length=true<->CX l (fun i=>if i=q then true else S i) (m.T.x i) l.length=true:=by
   rw[qO,qO];constructor
   ·rintro ⟨r,d,a,b⟩;exact⟨r,d,by show(if r=q then true else S r)=true; split <;> first|rfl|exact a,b⟩
   ·rintro ⟨r,d,a,b⟩;by_cases k:r=q
    ·subst k;exact L_ (o.inj i j p s (by rw[g,<- b])) e
    ·exact⟨r,d,by have a:(if r=q then true else S r)=true:=a; rw[b_ k]at a; exact a,b⟩
  by_cases c:CX l S (m.T.x i) l.length=true
  ·rw[d_ c,d_ (this.1 c)]
  ·rw[b_ c,b_ (fun h=>c (this.2 h))]
theorem U6{m:dK}{f:(Nat->Int)->(Nat->Int) × Int}{l:List Int}{S:Nat->Bool}(h : ∀ q,q<l.length->S q=true):xV m f l S=(oF m f l).R:=by
 funext i
 show _=if m.T.x i∈l then(f (m.R i)).1 else m.R i;unfold xV;have:CX l S (m.T.x i) l.length=true<->m.T.x i∈l:=by
  rw[qO];constructor
  ·rintro ⟨q,b,_,d⟩;rw[<- d,r_,o_ b]; exact P_ b
  ·intro g;obtain⟨q,a,e⟩:=List.getElem_of_mem g;exact⟨q,a,h q a,by rw[r_,o_ a]; exact e⟩
 by_cases c:m.T.x i∈l
 ·rw[d_ (this.2 c),d_ c]
 rw[b_ (fun h=>c (this.1 h)),b_ c]
def rM(m:dK)(f:(Nat->Int)->(Nat->Int) × Int)(l:List Int):Nat->Value:=fun q => .agg (Fx.aA 54 (Fx.rv .i64 (f (CW m (l.getD q 0))).1))
theorem Hq{m:dK}{f:(Nat->Int)->(Nat->Int) × Int}{l:List Int}{w:World}{b i:Nat}{r:Nat->Int}(h:Fx.Mp w b (i+1) (Fx.aM (fun q=>l.getD q 0) i (l.getD i 0)) (Fx.aM (rM m f l) i (.agg (Fx.aA 54 (Fx.rv .i64 r)))))(e:r=(f (CW m (l.getD i 0))).1):Fx.Mp w b (i+1) (fun q=>l.getD q 0) (rM m f l):=h.sZ fun q a=>by
 unfold Fx.aM;by_cases c:q=i
 ·subst c; rw[d_ rfl,d_ rfl,e]; exact⟨rfl,rfl⟩
 ·rw[b_ c,b_ c]; exact⟨rfl,rfl⟩
end Rt
end Go.Proofs.YtahbiajdgealnaaGreatDoor
namespace Go.Proofs.YtahbiajdgealnaaGreatDoor
open Go.RowKit Rt
open Fx (fC eO fK bA gU gT dD dS gL jw eG jy gu jA jc Lv sN Ln Ws Qv Wl Rp Wc Qs Wr Sb Lk Wk rC rV sR Rs Rn Rd Rk Wb Wx Wo Cu Wt qR Jf Qn FP Bb yc yK Cq Dz ql iC yL ni rW uh vH wF yJ Cv Aj rv aA aQ bH aM ev cB Stp dH aX flat dB Mp eU aW ig iO bC down iM jL iN lU bK bI cells_one iQ bV vM unseen jJ iD bX dJ bL bO bY bZ gG gH pO gV)
set_option maxRecDepth 20000
set_option linter.unusedVariables false
theorem U7(x:Nat->Int)(v:EvM)(a:Nat)(w:World)(F:1<=v.o/\v.o<=6)(b:aQ w a 14 (bR v) 32) :
 Calls Tryz.prog 175 #[.agg (aA 54 (rv .i64 x)),(pt a)] w fun e C=>e = .returned (.tuple #[.agg (aA 54 (rv .i64 (bB x v.o v.aT).1)),au (bB x v.o v.aT).2])/\Below w.heap.size w C:=by
 have I:=b.lt;refine Kent Tryz.func175 13 ?_;refine ay<|qM fun E Q i c A T => ?_;have⟨k,g⟩:=eZ A.old b (Below.refl w.heap.size w);have G:=iq i;have L:=cK i b.lt;have O:=c.lt;refine wX 54 (rv .i64 (fun _=>0)) fun q R j l B U => ?_;have⟨d,m,n⟩:=jG B.old k c g;have H:=jE j g.size;have⟨M,N⟩:=xD j k.lt c.lt;have P:=l.lt;refine av (au 0)<|aC<|ay<|Lv (.agg (aA 54 (rv .i64 x))) (fG m.aI 0)<|av (pt a)<|Lv (au v.o) (aN d.aI 0)<|av (pf a 11)<|Lv (au v.aT) (aN d.aI 11)<|dP (acu (x) v.o v.aT _ (by omega)) _ rfl ?_;intro S r;have⟨t,u,y,h⟩:=mK r d m l n;refine av (.agg (aA 54 (rv .i64 ((bB (x) v.o v.aT).1))))<|av (au ((bB (x) v.o v.aT).2))<|fH y 0 fun D z f V => ?_;have s:aQ D q 54 (rv .i64 ((bB (x) v.o v.aT).1)) 59:=aX z;have J:=t.cZ f (by omega);have K:=u.cZ f (by omega);have p:=f.below h h.size (by omega);refine av (au ((bB (x) v.o v.aT).2)) (aC (Wr (⟨.tuple #[.agg (aA 54 (rv .i64 ((bB (x) v.o v.aT).1))),au ((bB (x) v.o v.aT).2)],gV Tryz.results175 ⟨_,rfl,aW s.aI (by kernel_rfl) (by kernel_rfl)⟩ (by exact rfl),?_⟩)));exact⟨rfl,p⟩
theorem U8(x:Nat->Int)(v:EvM)(g:Nat->Int)(b c:Nat)(w:World)(L:1<=v.o/\v.o<=6)(d:aQ w b 14 (bR v) 32)(f:aQ w c 5 (iX g) 66) :
 Calls Tryz.prog 178 #[.agg (aA 54 (rv .i64 x)),(pt b),(pt c)] w fun e I=>e = .returned (.tuple #[.agg (aA 54 (rv .i64 (bE x v.o (g 3)).1)),au (bE x v.o (g 3)).2])/\Below w.heap.size w I:=by
 have O:=d.lt;have P:=f.lt;refine Kent Tryz.func178 14 ?_;refine ay<|qM fun K w1 k h G z1 => ?_;have⟨m,n,i⟩:=jG G.old d f (Below.refl w.heap.size w);have M:=iq k;have⟨T,U⟩:=xD k d.lt f.lt;have Y:=h.lt;refine wX 54 (rv .i64 (fun _=>0)) fun y w2 l p H z2 => ?_;have⟨q,r,s,t⟩:=mK H.old m n h i;have N:=jE l i.size;have⟨V,W,X⟩:=JL l m.lt n.lt h.lt;have Z:=p.lt;refine av (au 0)<|aC<|ay<|Lv (.agg (aA 54 (rv .i64 x))) (fG s.aI 0)<|av (pt b)<|Lv (au v.o) (aN q.aI 0)<|av (pf c 3)<|Lv (au (g 3)) (aN r.aI 3)<|dP (acv (x) v.o (g 3) _ (by omega)) _ rfl ?_;intro w3 z;have⟨E,F,A,B,j⟩:=wR z q r s p t;refine av (.agg (aA 54 (rv .i64 ((bE (x) v.o (g 3)).1))))<|av (au ((bE (x) v.o (g 3)).2))<|fH B 0 fun J C a z3 => ?_;have D:aQ J y 54 (rv .i64 ((bE (x) v.o (g 3)).1)) 59:=aX C;have Q:=E.cZ a (by omega);have R:=F.cZ a (by omega);have S:=A.cZ a (by omega);have u:=a.below j j.size (by omega);refine av (au ((bE (x) v.o (g 3)).2)) (aC (Wr (⟨.tuple #[.agg (aA 54 (rv .i64 ((bE (x) v.o (g 3)).1))),au ((bE (x) v.o (g 3)).2)],gV Tryz.results178 ⟨_,rfl,aW D.aI (by kernel_rfl) (by kernel_rfl)⟩ (by exact rfl),?_⟩)));exact⟨rfl,u⟩
theorem KV(m:dK)(j B:Nat)(w:World)(h:kV w B j m)(o:(Nat->Int)->(Nat->Int) × Int)(l:List Int)(s:Nat)(hgM:m.rb≠s/\m.mb≠s/\m.pb≠s/\m.gb≠s/\m.ab≠s)(hlh : ∀ k,k∈l->m.T.has k=true)(I:Mp w s l.length (fun q=>l.getD q 0) (rM m o l))(z:Nat)(A:Nat)(H:aQ w z 1 (fun _ => .map (some s)) 101)(Z:aQ w A 1 (fun _=>(pt j)) 37) :
 Calls Tryz.prog 187 #[(pt z),(pt A)] w fun e w'=>e = .returned (.tuple #[])/\kV w' B j (oF m o l)/\jL (Bf m j) w w':=by
 have hC:=h.c;have hT:=h.t;have hP:=h.p;have hR:=h.r;have hG:=h.g;have hA:=h.a;have b:=h.ne;have lC:=h.c.lt;have lT:=h.t.lt;have lP:=h.p.lt;have lR:=h.r.lt;have lG:=h.g.lt;have lA:=h.a.lt;have lg8:=H.lt;have Zc:=Z.lt;have lF:=I.lt;obtain⟨hg1,hg2,hg3,hg4,hg5⟩:=hgM;refine Kent Tryz.func187 17 ?_;refine ay<|Lv (.map (some s)) (aN H.aI 0)<|Fx.L.range (by rfl) rfl rfl rfl I Tryz.underlying101 fun F w1 kU m1 s1 z1 => ?_;have⟨m2,m3,m4,m5,m6,m7,m8,m9,m10⟩:=Bj s1.old hC hT hP hR hG hA I H Z;have b1:=(uh (Bf m j) w).then s1 (.inr (uh (Bf m j) w).size);have tC:w.heap.size<=F:=by rw[kU]; exact(uh (Bf m j) w).size
 have uU:=m1.lt;refine aC<|Wb ?_;have m11:Mp w1 m.rb m.T.n m.T.x (wo (xV m o l (fun _=>false))):=by rw[Nh]; exact m5
 refine Cu (fun kE f v => ∃ S:Nat->Bool,∃ K:Nat,K=unseen S l.length/\K=kE/\f 0=(pt z)/\f 1=(pt A)/\f 5=(pt F)/\aQ v j 29 (uP m) 106/\ru v B m.tp m.mb m.T/\Mp v m.pb m.T.n m.T.x (Dv m.T)/\ig v m.gb m.gn (fun i=>m.g i 0) (fun i=>m.g i 1) (tT m.g)/\ig v m.ab m.an m.ao m.ar Dw/\Mp v s l.length (fun q=>l.getD q 0) (rM m o l)/\aQ v z 1 (fun _ => .map (some s)) 101/\aQ v A 1 (fun _=>(pt j)) 37/\Mp v m.rb m.T.n m.T.x (wo (xV m o l S))/\Fx.It v F s l.length S/\jL (Bf m j) w v) (unseen (fun _=>false) l.length) ⟨(fun _=>false),(unseen (fun _=>false) l.length),rfl,rfl,(by rfl),(by rfl),(by rfl),m2,m3,m4,m6,m7,m8,m9,m10,m11,m1,b1⟩ ?_;rintro kE f1 w2 ⟨S,K,hkk,hkE,W,X,G,m12,m13,m14,m15,m16,m17,m18,m19,m20,M,Q⟩;refine ay<|Fx.L.next (by rfl) rfl rfl G m17 M (fun qZ => ?_)<|fun d w3 C hS1 m22 mc1 s2 z2 => ?_
 ·skip
  refine av aF (aC (Ws (aK (Wx (bY (gG (bZ (⟨.tuple #[],iM Tryz.results187,?_⟩))))))));have m23:Mp w2 m.rb m.T.n m.T.x (wo (oF m o l).R):=by rw[<- U6 qZ]; exact m20
  exact⟨rfl,{ c:=m12,t:=m13,p:=m14,r:=m23,g:=m15,a:=m16,ne:=⟨b.mp,b.mr,b.mg,b.ma,b.pr,b.pg,b.pa,b.rg,b.ra,b.ga⟩,lB:=h.lB,pB:=h.pB,rB:=h.rB,gB:=h.gB,aB:=h.aB },Q⟩
 skip
 have y:=M.Bl s2;have m24:=m12.dQ y;have mY:=m13.dQ y (by omega);have nQ:=m14.dQ y (by omega);have oJ:=m15.dQ y (by omega);have ou:=m16.dQ y (by omega);have N:=m17.dQ y (M.rb.symm);have oP:=m18.dQ y;have mV:=m19.dQ y;have m32:=m20.dQ y (by omega);have D:=Q.then s2 (.inr tC);refine av aG<|aC<|Ws<|aO<|Wk<|sN<|Wb<|ay<|Lv (.tuple #[aD (l.getD d 0),.agg (aA 54 (rv .i64 ((o (CW m (l.getD d 0))).1)))]) (Fx.NR (key:=fun q=>l.getD q 0) (val:=rM m o l) (i:=d) rfl G N mc1 C)<|av (aD (l.getD d 0))<|av (.agg (aA 54 (rv .i64 ((o (CW m (l.getD d 0))).1))))<|wX 54 (rv .i64 (fun _=>0)) fun g2 w4 V O s3 z3 => ?_;have⟨nT,pY,qD,rQ,rR,oU,rT,mZ,mP,nR,qY⟩:=Em s3.old m24 mY nQ oJ ou N oP mV m32 mc1 m22;have b4:=D.then s3 (.inr D.size);have rU:=jE V D.size;have⟨anO,anP,anQ,anR,anS,anT,anU,anV⟩:=WI V m24.lt nQ.lt oJ.lt ou.lt N.lt oP.lt mV.lt m32.lt;have Av:=O.lt;refine av (aD (l.getD d 0))<|fH O 0 fun P qE s4 z4 => ?_;have nE:aQ P g2 54 (rv .i64 ((o (CW m (l.getD d 0))).1)) 59:=aX qE;have gN:=iC s4 O.ty;have⟨qF,wJ,rY,sJ,uV,uy,tY,uz,xH,tZ,sK⟩:=Y9 gN nT pY qD rQ rR oU rT mZ mP nR qY;have U:=b4.then s4 (.inr rU);refine aC ?_;obtain⟨jz,J,E⟩:=gM (hlh _ (uw C rfl));have ejx:CW m (l.getD d 0)=m.R jz:=by unfold CW dK.idx; rw[mG h.t.inv.inj J E]
 refine jP [4,0,1,2,3,5,6] [4,0,0,4,0,4,3] [(6,0,[0]),(6,3,[3]),(6,5,[5])] fun oI Y gY => ?_;have s5:Stp P.heap.size P oI:=Sb Y;have⟨uf,xI,qb,wK,nY,tJ,m64,wS,wL,wT,wU,rZ⟩:=NM Y qF wJ rY sJ uV uy tY uz xH tZ sK nE;have b6:=U.then s5 (.inr U.size);refine aY (aD (l.getD d 0))<|Rs (pt j) (aN wS.aI 0 (ha:=X)) ?_;refine aY (pt j)<|aY (pf j 20)<|Rs (.map (some m.rb)) (aN uf.aI 20) ?_;refine Rs (.agg (aA 54 (rv .i64 ((o (CW m (l.getD d 0))).1)))) (fG rZ.aI 0) ?_;refine gK<|Fx.L.aas (by rfl) rfl rfl rfl rfl rfl wL Tryz.underlying101 Tryz.underlying28 J E fun w6 uW s6 z5 => ?_;have u:=wL.Bl s6;have vN:=uf.dQ u;have wM:=xI.dQ u (b.mr);have uX:=qb.dQ u (b.pr);have zk:=wK.dQ u (Ne.symm b.rg);have wN:=nY.dQ u (Ne.symm b.ra);have yP:=tJ.dQ u (by omega);have yQ:=m64.dQ u;have yR:=wS.dQ u;have wZ:=wT.dQ u (by omega) (by omega);have wV:=wU.dQ u (by omega) (by omega);have vO:=rZ.dQ u;have b7:=b6.then s6 (.inl (.inr (.inr (.inr (.inl rfl)))));have xJ:Mp w6 m.rb m.T.n m.T.x (wo (xV m o l (aM S d true))):=by have q9:=D5 _ _ _ _ uW; rw[ejx]at q9; exact q9.sZ fun i hi=>⟨rfl,by unfold wo; rw[Qy h.t.inv C J E i hi]⟩
 refine Ln (Rn (bO (gH ⟨unseen (aM S d true) l.length,(by have W:=Fx.oq hS1 l.length C; omega),(aM S d true),(unseen (aM S d true) l.length),rfl,rfl,W,X,G,vN,wM,uX,zk,wN,yP,yQ,yR,xJ,wV,b7⟩ (by decide))))
theorem U9(m:dK)(j B:Nat)(w:World)(h:kV w B j m)(C:Int)(v:EvM)(ho:1<=v.o/\v.o<=6)(E:Nat)(u:aQ w E 14 (bR v) 32) :
 Calls Tryz.prog 174 #[(pt j),aD C,.func (.func 175) #[] #[(pt E)]] w fun e w'=>QX w B j m (oF m (fun x=>bB x v.o v.aT) (m.T.path C)) (dA m (fun x=>bB x v.o v.aT) (m.T.path C)) e w':=by
 have hC:=h.c;have hT:=h.t;have hP:=h.p;have hR:=h.r;have hG:=h.g;have hA:=h.a;have hN:=h.ne;have lC:=h.c.lt;have lT:=h.t.lt;have lP:=h.p.lt;have lR:=h.r.lt;have lG:=h.g.lt;have lA:=h.a.lt;have ZC:=u.lt;refine Kent Tryz.func174 44 ?_;refine ay<|zA (pt j) fun A w1 kU Y s1 z1 => ?_;have⟨m2,m3,m4,m5,m6,m7,m8,b1⟩:=mM s1.old hC hT hP hR hG hA u (Below.refl w.heap.size w);have tC:=iq kU;have⟨nD,zo,wP,AY,zl,Kl⟩:=Iw kU hC.lt hP.lt hR.lt hG.lt hA.lt u.lt;have uU:=Y.lt;refine av (.nilFunc)<|av (au 0)<|aC<|ay<|Fx.L.JM (by rfl) rfl rfl fun d w2 Ad m9 s2 z2 => ?_;have⟨m10,m11,m12,m13,m14,m15,m16,m17,b2⟩:=Bj s2.old m2 m3 m4 m5 m6 m7 m8 Y b1;have rU:=jE Ad b1.size;have⟨Fu,Fe,zU,Fg,Bq,SV,Ml⟩:=Mc Ad m2.lt m4.lt m5.lt m6.lt m7.lt m8.lt Y.lt;have Av:=m9.lt;refine wX 1 (fun _ => .map none) fun y w3 zI Z s3 z3 => ?_;have⟨m19,m20,m21,m22,m23,m24,mY,nQ,oJ,b3⟩:=um s3.old m10 m11 m12 m13 m14 m15 m16 m17 m9 b2;have Es:=jE zI b2.size;have⟨acX,Va,acY,Vb,Vd,M8,acZ,M9⟩:=WI zI m10.lt m12.lt m13.lt m14.lt m15.lt m16.lt m17.lt m9.lt;have Mr:=Z.lt;refine jh Z 0 (.map (some d)) fun O ou s4 z4 => ?_;have qo:aQ O y 1 (fun _ => .map (some d)) 101:=dJ ou;have gN:=iC s4 Z.ty;have⟨oP,mV,m32,oQ,nT,pY,qD,rQ,rR⟩:=aaq gN m19 m20 m21 m22 m23 m24 mY nQ oJ;have b4:=s4.below b3 b3.size (by omega);refine aC<|Ws<|ay<|Lv (pt j) (aN rQ.aI 0)<|av (pt j)<|av (pf j 18)<|Lv (pt m.tp) (aN oP.aI 18)<|av (aD C)<|lK (Mq C mV) ?_;rintro e9 w5 ⟨Zd,D,u,oU,hb1⟩;refine⟨_,u,?_⟩;clear u;have⟨rT,mZ,mP,nR,qY,qE,nE,qF,wJ,rY,b5⟩:=Em hb1 oP mV m32 oQ nT pY qD rQ rR qo b4;obtain⟨l,H⟩ : ∃ q,q=dL.path m.T C:=⟨_,rfl⟩;rw[<- H]at oU ⊢;have hl4:l.length<=4:=by rw[H]; exact dL.yD
 refine av (au l.length)<|av (au 0)<|aC<|Wb ?_;have sJ:Mp w5 d 0 (fun q=>l.getD q 0) (rM m (fun x=>bB x v.o v.aT) l):=wJ.sZ fun i hi=>L_ hi (u_ _);refine Wo (fun f k => ∃ i:Nat,i<=l.length/\jC (fun x=>bB x v.o v.aT) (fun i=>CW m (l.getD i 0)) i=0/\f 2 = .func (.func 175) #[] #[(pt E)]/\f 3=(pt A)/\f 8=(pt y)/\f 19 = .slice Zd (l.length) (D)/\f 20=au (l.length:Int)/\f 21=au (i:Int)/\aQ k j 29 (uP m) 106/\ru k B m.tp m.mb m.T/\Mp k m.pb m.T.n m.T.x (Dv m.T)/\Mp k m.rb m.T.n m.T.x (wo m.R)/\ig k m.gb m.gn (fun i=>m.g i 0) (fun i=>m.g i 1) (tT m.g)/\ig k m.ab m.an m.ao m.ar Dw/\aQ k E 14 (bR v) 32/\aQ k A 1 (fun _=>(pt j)) 37/\aQ k y 1 (fun _ => .map (some d)) 101/\Fx.Own k O.heap.size 28 1 (.slice Zd (l.length) (D)) l.length (wY l)/\Mp k d i (fun q=>l.getD q 0) (rM m (fun x=>bB x v.o v.aT) l)/\Below w.heap.size w k) (fun f _=>((l.length:Int)-intOf (f 21)).toNat) ⟨0,(by omega),rfl,(by rfl),(by rfl),(by rfl),(by rfl),Fx.ic,Fx.ic,rT,mZ,mP,nR,qY,qE,nE,qF,rY,oU,sJ,b5⟩ ?_;rintro f1 w6 ⟨i,hi,K,h1,U,V,h4,W,G,uV,uy,tY,uz,xH,tZ,sK,N,aa,qb,ac,P⟩;refine ay ?_;by_cases c22:(i:Int)<(l.length:Int)
 ·refine Lv aG (gI c22 (hx:=G) (hy:=W))<|aC<|Ws<|aO<|Wk<|sN<|Ws<|Wb<|ay ?_;obtain⟨ED,S⟩:=qb.addr (by omega);have nY:Fx.Own w6 O.heap.size 28 1 (bM ED l.length D) l.length (wY l):=qb.fF (K_ (fun q=>Value.slice q l.length D) S);refine Lv (pf ED i) (dh 1 (hx:=(h4.trans (K_ (fun q=>Value.slice q (l.length) (D)) S))) (hi:=G))<|Lv (aD (l.getD i 0)) (aN nY.aI i)<|av (aD (l.getD i 0))<|aC<|Ws ?_;obtain⟨b,hjz,ejz⟩:=gM (dL.nO h.t.inv H _ (uw (show i<l.length by omega) rfl));have J:CW m (l.getD i 0)=m.R b:=by unfold CW dK.idx; rw[mG h.t.inv.inj hjz ejz]
  refine Wl<|aS h1<|Lv (pt j) (aN N.aI 0 (ha:=U))<|av (pt j)<|av (pf j 20)<|Lv (.map (some m.rb)) (aN uV.aI 20)<|av (aD (l.getD i 0))<|Lv (.agg (aA 54 (rv .i64 (m.R b)))) (Fx.vI (z := .agg (aA 54 (rv .i64 (fun _=>0)))) rfl rfl rfl uz Tryz.underlying101 Tryz.underlying28 (by kernel_rfl) hjz ejz rfl)<|Bb (by rfl) (Fx.Gl (args := [.agg (aA 54 (rv .i64 (m.R b)))]) rfl rfl rfl (all := #[.agg (aA 54 (rv .i64 (m.R b))),(pt E)]) rfl Tryz.func175 rfl rfl) rfl<|(U7 (m.R b) v E _ ho sK).mono ?_;rintro e w7 ⟨u,F⟩;refine⟨.tuple #[.agg (aA 54 (rv .i64 ((bB (m.R b) v.o v.aT).1))),au ((bB (m.R b) v.o v.aT).2)],by rw[u],?_⟩;clear u;have⟨tJ,m64,wS,wL,wT,wU,rZ,uW,vN,wM,uX,b7⟩:=NM F uV uy tY uz xH tZ sK N aa ac nY P;refine av (.tuple #[.agg (aA 54 (rv .i64 ((bB (m.R b) v.o v.aT).1))),au ((bB (m.R b) v.o v.aT).2)])<|av (.agg (aA 54 (rv .i64 ((bB (m.R b) v.o v.aT).1))))<|av (au ((bB (m.R b) v.o v.aT).2))<|wX 54 (rv .i64 (fun _=>0)) fun g4 w8 Mg ad s7 z5 => ?_;have⟨wN,yP,yQ,yR,wZ,wV,vO,xJ,zF,xK,Aq,b8⟩:=NM s7.old tJ m64 wS wL wT wU rZ uW vN wM uX b7;have Wn:=jE Mg b7.size;have⟨acF,acG,acH,acI,anX,anY,ada,anZ,adb,ade⟩:=Za Mg tJ.lt wS.lt wL.lt wT.lt wU.lt rZ.lt uW.lt vN.lt wM.lt uX.lt;have Ub:=ad.lt;refine fH ad 0 fun w9 Ar s8 z6 => ?_;have Ac:aQ w9 g4 54 (rv .i64 ((bB (m.R b) v.o v.aT).1)) 59:=aX Ar;have jX:=iC s8 ad.ty;have⟨zG,zH,Au,Ey,Dr,Bv,CJ,zM,FU,DT,FV⟩:=Y9 jX wN yP yQ yR wZ wV vO xJ zF xK Aq;have Q:=s8.below b8 b8.size (by omega);refine av (au ((bB (m.R b) v.o v.aT).2))<|aC<|Ws<|ay<|av (au ((bB (m.R b) v.o v.aT).2)) ?_;by_cases I:((bB (m.R b) v.o v.aT).2)=0
  ·refine Lv aF (jd I)<|aC<|aK<|Wk<|sN ?_;have hnd:l.Nodup:=(by rw[H]; exact dL.zV h.t.inv C);have hny : ∀ q,q<i->(fun q=>l.getD q 0) q≠l.getD i 0:=fun q hq e=>by have:=BU hnd (show q<l.length by omega) (show i<l.length by omega) e; omega
   refine Wl<|Lv (.map (some d)) (aN FU.aI 0 (ha:=V))<|av (aD (l.getD i 0))<|Lv (.agg (aA 54 (rv .i64 ((bB (m.R b) v.o v.aT).1)))) (fG Ac.aI 0)<|Fx.L.Pp (by rfl) rfl rfl rfl rfl rfl DT Tryz.underlying101 Tryz.underlying28 hny fun tH F5 s9 z7 => ?_;have s:=DT.Bl s9;have vX:=zG.dQ s;have xM:=zH.dQ s (by omega);have vY:=Au.dQ s (by omega);have tK:=Ey.dQ s (by omega);have oZ:=Dr.dQ s (by omega);have oz:=Bv.dQ s (by omega);have qg:=CJ.dQ s;have pz:=zM.dQ s;have qG:=FU.dQ s;have rH:=FV.dQ s;have uI:=Ac.dQ s;have b10:=s9.below Q Q.size (by omega);have qH:Mp tH d (i+1) (fun q=>l.getD q 0) (rM m (fun x=>bB x v.o v.aT) l):=Hq F5 (by rw[J]);refine Ln<|bO<|sN<|Wl<|Lv (au ((i:Int)+1)) (eT (hx:=G))<|av (au ((i:Int)+1))<|Ln ?_;have tL:Fx.Own tH O.heap.size 28 1 (.slice Zd (l.length) (D)) l.length (wY l):=rH.fF (K_ (fun q=>Value.slice q l.length D) S.symm);refine gH ⟨i+1,(by omega),(BX K (by rw[J]; exact I)),h1,U,V,h4,(W.trans Fx.ic),Fx.ic,vX,xM,vY,tK,oZ,oz,qg,pz,qG,tL,qH,b10⟩ ?_;show((l.length:Int)-intOf (au ((i:Int)+1))).toNat<_;simp only[G,intOf]; omega
  refine Lv aG (lJ I)<|aC<|aO<|ay<|av (au ((bB (m.R b) v.o v.aT).2))<|av (.nilFunc)<|av (au ((bB (m.R b) v.o v.aT).2))<|aC<|Wr<|sR<|bL<|sR<|pO<|bL<|sR<|aJ (.tuple #[.nilFunc,au ((bB (m.R b) v.o v.aT).2)]) ?_;have M:dA m (fun x=>bB x v.o v.aT) l=(bB (m.R b) v.o v.aT).2:=by unfold dA; rw[zW K (by rw[J]; exact I) _ (by omega),J]
  exact⟨⟨.nilFunc,0,#[],by rw[M],rfl,fun e0=>L_ (M.symm.trans e0) (by first|decide|omega|assumption)⟩,Q⟩
 refine Lv aF (gJ c22 (hx:=G) (hy:=W))<|aC<|Ws<|aK<|Wx<|bY<|gG<|bZ<|sN<|ay<|Lv (.func (.func 187) #[] #[(pt y),(pt A)]) (Fx.nk (us := []) (vs := [(pt y),(pt A)]) rfl rfl (Fx.args2 V U))<|av (.func (.func 187) #[] #[(pt y),(pt A)])<|av (au 0)<|aC<|Wr<|aJ (.tuple #[.func (.func 187) #[] #[(pt y),(pt A)],au 0]) ?_;have hil:i=l.length:=by omega
 rw[hil]at ac K;have hgm:m.rb≠d/\m.mb≠d/\m.pb≠d/\m.gb≠d/\m.ab≠d:=⟨by omega,by omega,by omega,by omega,by omega⟩;have M:dA m (fun x=>bB x v.o v.aT) l=0:=K;exact⟨⟨_,187,#[(pt y),(pt A)],by rw[M],rfl,fun _=>⟨rfl,⟨_,_,Tryz.func187,rfl,rfl⟩,fun w2 F=>(KV m j B w2 ((h.up P).up F) (fun x=>bB x v.o v.aT) l d hgm (dL.nO h.t.inv H) (ac.up F) _ _ (aa.cZ (Sb F) (t_ aa.lt)) (N.cZ (Sb F) (t_ N.lt))).mono fun _ _ X=>⟨X.1,X.2.1,X.2.2.mono fun _ hk => .inl hk⟩⟩⟩,P⟩
theorem Ve(m:dK)(j B:Nat)(w:World)(h:kV w B j m)(C:Int)(v:EvM)(g:Nat->Int)(ho:1<=v.o/\v.o<=6)(E F:Nat)(u:aQ w E 14 (bR v) 32)(Z:aQ w F 5 (iX g) 66) :
 Calls Tryz.prog 174 #[(pt j),aD C,.func (.func 178) #[] #[(pt E),(pt F)]] w fun e w'=>QX w B j m (oF m (fun x=>bE x v.o (g 3)) (m.T.path C)) (dA m (fun x=>bE x v.o (g 3)) (m.T.path C)) e w':=by
 have hC:=h.c;have hT:=h.t;have hP:=h.p;have hR:=h.r;have hG:=h.g;have hA:=h.a;have hN:=h.ne;have lC:=h.c.lt;have lT:=h.t.lt;have lP:=h.p.lt;have lR:=h.r.lt;have lG:=h.g.lt;have lA:=h.a.lt;have ZC:=u.lt;have lgg:=Z.lt;refine Kent Tryz.func174 44 ?_;refine ay<|zA (pt j) fun A w1 kU m1 s1 z1 => ?_;have⟨m2,m3,m4,m5,m6,m7,m8,m9,b1⟩:=Bj s1.old hC hT hP hR hG hA u Z (Below.refl w.heap.size w);have tC:=iq kU;have⟨nD,zo,wP,AY,zl,Kl,afu⟩:=Mc kU hC.lt hP.lt hR.lt hG.lt hA.lt u.lt Z.lt;have uU:=m1.lt;refine av (.nilFunc)<|av (au 0)<|aC<|ay<|Fx.L.JM (by rfl) rfl rfl fun d w2 Ad m10 s2 z2 => ?_;have⟨m11,m12,m13,m14,m15,m16,m17,m18,m19,b2⟩:=um s2.old m2 m3 m4 m5 m6 m7 m8 m9 m1 b1;have rU:=jE Ad b1.size;have⟨Fb,zU,Fg,Bq,SV,Ml,U0,adf⟩:=WI Ad m2.lt m4.lt m5.lt m6.lt m7.lt m8.lt m9.lt m1.lt;have Av:=m10.lt;refine wX 1 (fun _ => .map none) fun y w3 zI m20 s3 z3 => ?_;have⟨m21,m22,m23,m24,mY,nQ,oJ,ou,qo,oP,b3⟩:=Em s3.old m11 m12 m13 m14 m15 m16 m17 m18 m19 m10 b2;have Es:=jE zI b2.size;have⟨Va,Vb,Vd,M8,acZ,M9,UK,UL,UM⟩:=WJ zI m11.lt m13.lt m14.lt m15.lt m16.lt m17.lt m18.lt m19.lt m10.lt;have Mr:=m20.lt;refine jh m20 0 (.map (some d)) fun P mV s4 z4 => ?_;have m32:aQ P y 1 (fun _ => .map (some d)) 101:=dJ mV;have gN:=iC s4 m20.ty;have⟨oQ,nT,pY,qD,rQ,rR,oU,rT,mZ,mP⟩:=NP gN m21 m22 m23 m24 mY nQ oJ ou qo oP;have b4:=s4.below b3 b3.size (by omega);refine aC<|Ws<|ay<|Lv (pt j) (aN mZ.aI 0)<|av (pt j)<|av (pf j 18)<|Lv (pt m.tp) (aN oQ.aI 18)<|av (aD C)<|lK (Mq C nT) ?_;rintro e9 w5 ⟨Zd,D,u,nR,hb1⟩;refine⟨_,u,?_⟩;clear u;have⟨qY,qE,nE,qF,wJ,rY,sJ,uV,uy,tY,uz,b5⟩:=NM hb1 oQ nT pY qD rQ rR oU rT mZ mP m32 b4;obtain⟨l,I⟩ : ∃ q,q=dL.path m.T C:=⟨_,rfl⟩;rw[<- I]at nR ⊢;have hl4:l.length<=4:=by rw[I]; exact dL.yD
 refine av (au l.length)<|av (au 0)<|aC<|Wb ?_;have xH:Mp w5 d 0 (fun q=>l.getD q 0) (rM m (fun x=>bE x v.o (g 3)) l):=tY.sZ fun i hi=>L_ hi (u_ _);refine Wo (fun f k => ∃ i:Nat,i<=l.length/\jC (fun x=>bE x v.o (g 3)) (fun i=>CW m (l.getD i 0)) i=0/\f 2 = .func (.func 178) #[] #[(pt E),(pt F)]/\f 3=(pt A)/\f 8=(pt y)/\f 19 = .slice Zd (l.length) (D)/\f 20=au (l.length:Int)/\f 21=au (i:Int)/\aQ k j 29 (uP m) 106/\ru k B m.tp m.mb m.T/\Mp k m.pb m.T.n m.T.x (Dv m.T)/\Mp k m.rb m.T.n m.T.x (wo m.R)/\ig k m.gb m.gn (fun i=>m.g i 0) (fun i=>m.g i 1) (tT m.g)/\ig k m.ab m.an m.ao m.ar Dw/\aQ k E 14 (bR v) 32/\aQ k F 5 (iX g) 66/\aQ k A 1 (fun _=>(pt j)) 37/\aQ k y 1 (fun _ => .map (some d)) 101/\Fx.Own k P.heap.size 28 1 (.slice Zd (l.length) (D)) l.length (wY l)/\Mp k d i (fun q=>l.getD q 0) (rM m (fun x=>bE x v.o (g 3)) l)/\Below w.heap.size w k) (fun f _=>((l.length:Int)-intOf (f 21)).toNat) ⟨0,(by omega),rfl,(by rfl),(by rfl),(by rfl),(by rfl),Fx.ic,Fx.ic,qY,qE,nE,qF,wJ,rY,sJ,uV,uy,uz,nR,xH,b5⟩ ?_;rintro f1 w6 ⟨i,hi,M,h1,V,W,h4,X,H,tZ,sK,uf,xI,qb,wK,nY,tJ,O,wS,wL,wT,Q⟩;refine ay ?_;by_cases c22:(i:Int)<(l.length:Int)
 ·refine Lv aG (gI c22 (hx:=H) (hy:=X))<|aC<|Ws<|aO<|Wk<|sN<|Ws<|Wb<|ay ?_;obtain⟨ED,U⟩:=wL.addr (by omega);have wU:Fx.Own w6 P.heap.size 28 1 (bM ED l.length D) l.length (wY l):=wL.fF (K_ (fun q=>Value.slice q l.length D) U);refine Lv (pf ED i) (dh 1 (hx:=(h4.trans (K_ (fun q=>Value.slice q (l.length) (D)) U))) (hi:=H))<|Lv (aD (l.getD i 0)) (aN wU.aI i)<|av (aD (l.getD i 0))<|aC<|Ws ?_;obtain⟨b,hjz,ejz⟩:=gM (dL.nO h.t.inv I _ (uw (show i<l.length by omega) rfl));have K:CW m (l.getD i 0)=m.R b:=by unfold CW dK.idx; rw[mG h.t.inv.inj hjz ejz]
  refine Wl<|aS h1<|Lv (pt j) (aN O.aI 0 (ha:=V))<|av (pt j)<|av (pf j 20)<|Lv (.map (some m.rb)) (aN tZ.aI 20)<|av (aD (l.getD i 0))<|Lv (.agg (aA 54 (rv .i64 (m.R b)))) (Fx.vI (z := .agg (aA 54 (rv .i64 (fun _=>0)))) rfl rfl rfl xI Tryz.underlying101 Tryz.underlying28 (by kernel_rfl) hjz ejz rfl)<|Bb (by rfl) (Fx.Gl (args := [.agg (aA 54 (rv .i64 (m.R b)))]) rfl rfl rfl (all := #[.agg (aA 54 (rv .i64 (m.R b))),(pt E),(pt F)]) rfl Tryz.func178 rfl rfl) rfl<|(U8 (m.R b) v g E F _ ho nY tJ).mono ?_;rintro e w7 ⟨u,G⟩;refine⟨.tuple #[.agg (aA 54 (rv .i64 ((bE (m.R b) v.o (g 3)).1))),au ((bE (m.R b) v.o (g 3)).2)],by rw[u],?_⟩;clear u;have⟨rZ,uW,vN,wM,uX,zk,wN,yP,yQ,yR,wZ,wV,b7⟩:=Y8 G tZ sK uf xI qb wK nY tJ O wS wT wU Q;refine av (.tuple #[.agg (aA 54 (rv .i64 ((bE (m.R b) v.o (g 3)).1))),au ((bE (m.R b) v.o (g 3)).2)])<|av (.agg (aA 54 (rv .i64 ((bE (m.R b) v.o (g 3)).1))))<|av (au ((bE (m.R b) v.o (g 3)).2))<|wX 54 (rv .i64 (fun _=>0)) fun g4 w8 Mg vO s7 z5 => ?_;have⟨xJ,zF,xK,Aq,Ar,Ac,zG,zH,Au,Ey,Dr,Bv,b8⟩:=Y8 s7.old rZ uW vN wM uX zk wN yP yQ yR wZ wV b7;have Wn:=jE Mg b7.size;have⟨ada,adb,ade,aoa,aob,aoc,aod,aoe,aof,aog,aoh⟩:=aez Mg rZ.lt vN.lt wM.lt uX.lt zk.lt wN.lt yP.lt yQ.lt yR.lt wZ.lt wV.lt;have Ub:=vO.lt;refine fH vO 0 fun w9 CJ s8 z6 => ?_;have zM:aQ w9 g4 54 (rv .i64 ((bE (m.R b) v.o (g 3)).1)) 59:=aX CJ;have jX:=iC s8 vO.ty;have⟨FU,DT,FV,F5,vX,xM,vY,tK,oZ,oz,qg,pz⟩:=aey jX xJ zF xK Aq Ar Ac zG zH Au Ey Dr Bv;have S:=s8.below b8 b8.size (by omega);refine av (au ((bE (m.R b) v.o (g 3)).2))<|aC<|Ws<|ay<|av (au ((bE (m.R b) v.o (g 3)).2)) ?_;by_cases J:((bE (m.R b) v.o (g 3)).2)=0
  ·refine Lv aF (jd J)<|aC<|aK<|Wk<|sN ?_;have hnd:l.Nodup:=(by rw[I]; exact dL.zV h.t.inv C);have hny : ∀ q,q<i->(fun q=>l.getD q 0) q≠l.getD i 0:=fun q hq e=>by have:=BU hnd (show q<l.length by omega) (show i<l.length by omega) e; omega
   refine Wl<|Lv (.map (some d)) (aN oz.aI 0 (ha:=W))<|av (aD (l.getD i 0))<|Lv (.agg (aA 54 (rv .i64 ((bE (m.R b) v.o (g 3)).1)))) (fG zM.aI 0)<|Fx.L.Pp (by rfl) rfl rfl rfl rfl rfl qg Tryz.underlying101 Tryz.underlying28 hny fun tH qG s9 z7 => ?_;have s:=qg.Bl s9;have rH:=FU.dQ s;have uI:=DT.dQ s (by omega);have qH:=FV.dQ s (by omega);have tL:=F5.dQ s (by omega);have yS:=vX.dQ s (by omega);have uJ:=xM.dQ s (by omega);have yT:=vY.dQ s;have Bz:=tK.dQ s;have wW:=oZ.dQ s;have tN:=oz.dQ s;have qh:=pz.dQ s;have xO:=zM.dQ s;have b10:=s9.below S S.size (by omega);have xP:Mp tH d (i+1) (fun q=>l.getD q 0) (rM m (fun x=>bE x v.o (g 3)) l):=Hq qG (by rw[K]);refine Ln<|bO<|sN<|Wl<|Lv (au ((i:Int)+1)) (eT (hx:=H))<|av (au ((i:Int)+1))<|Ln ?_;have tO:Fx.Own tH P.heap.size 28 1 (.slice Zd (l.length) (D)) l.length (wY l):=qh.fF (K_ (fun q=>Value.slice q l.length D) U.symm);refine gH ⟨i+1,(by omega),(BX M (by rw[K]; exact J)),h1,V,W,h4,(X.trans Fx.ic),Fx.ic,rH,uI,qH,tL,yS,uJ,yT,Bz,wW,tN,tO,xP,b10⟩ ?_;show((l.length:Int)-intOf (au ((i:Int)+1))).toNat<_;simp only[H,intOf]; omega
  refine Lv aG (lJ J)<|aC<|aO<|ay<|av (au ((bE (m.R b) v.o (g 3)).2))<|av (.nilFunc)<|av (au ((bE (m.R b) v.o (g 3)).2))<|aC<|Wr<|sR<|bL<|sR<|pO<|bL<|sR<|aJ (.tuple #[.nilFunc,au ((bE (m.R b) v.o (g 3)).2)]) ?_;have N:dA m (fun x=>bE x v.o (g 3)) l=(bE (m.R b) v.o (g 3)).2:=by unfold dA; rw[zW M (by rw[K]; exact J) _ (by omega),K]
  exact⟨⟨.nilFunc,0,#[],by rw[N],rfl,fun e0=>L_ (N.symm.trans e0) (by first|decide|omega|assumption)⟩,S⟩
 refine Lv aF (gJ c22 (hx:=H) (hy:=X))<|aC<|Ws<|aK<|Wx<|bY<|gG<|bZ<|sN<|ay<|Lv (.func (.func 187) #[] #[(pt y),(pt A)]) (Fx.nk (us := []) (vs := [(pt y),(pt A)]) rfl rfl (Fx.args2 W V))<|av (.func (.func 187) #[] #[(pt y),(pt A)])<|av (au 0)<|aC<|Wr<|aJ (.tuple #[.func (.func 187) #[] #[(pt y),(pt A)],au 0]) ?_;have hil:i=l.length:=by omega
 rw[hil]at wT M;have hgm:m.rb≠d/\m.mb≠d/\m.pb≠d/\m.gb≠d/\m.ab≠d:=⟨by omega,by omega,by omega,by omega,by omega⟩;have N:dA m (fun x=>bE x v.o (g 3)) l=0:=M;exact⟨⟨_,187,#[(pt y),(pt A)],by rw[N],rfl,fun _=>⟨rfl,⟨_,_,Tryz.func187,rfl,rfl⟩,fun w2 G=>(KV m j B w2 ((h.up Q).up G) (fun x=>bE x v.o (g 3)) l d hgm (dL.nO h.t.inv I) (wT.up G) _ _ (wS.cZ (Sb G) (t_ wS.lt)) (O.cZ (Sb G) (t_ O.lt))).mono fun _ _ Y=>⟨Y.1,Y.2.1,Y.2.2.mono fun _ hk => .inl hk⟩⟩⟩,Q⟩
section
set_option maxRecDepth 20000
set_option linter.unusedVariables false
namespace Rt
def A8(k1 k2:Nat->Int):Nat->Int->Int->Bool
 | 0,_,_=>false
 | n+1,a,b=>(decide (k1 n=a)&&decide (k2 n=b)) || A8 k1 k2 n a b
def wz(k1 k2:Nat->Int):Nat->Int->Int->Nat
 | 0,_,_=>0
 | n+1,a,b=>if k1 n=a/\k2 n=b then n else wz k1 k2 n a b
section
variable {k1 k2:Nat->Int} {a b:Int}
theorem kR : ∀ {n:Nat},A8 k1 k2 n a b=true <-> ∃ j,j<n/\k1 j=a/\k2 j=b
 | 0=>⟨fun h=>(nomatch h),fun⟨j,h,_⟩=>L_ h (u_ _)⟩
 | n+1=>by
   unfold A8;rw[Bool.or_eq_true,R_,O_,O_,kR];constructor
   ·rintro (⟨f,c⟩|⟨j,f,c,d⟩)
    ·exact⟨n,by omega,f,c⟩
    ·exact⟨j,by omega,c,d⟩
   ·rintro ⟨j,f,c,d⟩;by_cases e:j=n
    ·subst e; exact .inl ⟨c,d⟩
    ·exact .inr ⟨j,by omega,c,d⟩
theorem rO{n j:Nat}(e:j<n)(c:k1 j=a)(d:k2 j=b):A8 k1 k2 n a b=true:=kR.2 ⟨j,e,c,d⟩
theorem oL{n:Nat}(h : ∀ i,i<n -> ¬ (k1 i=a/\k2 i=b)):A8 k1 k2 n a b=false:=by
 cases e:A8 k1 k2 n a b with
 | false=>rfl
 | true=>obtain⟨j,f,c,d⟩:=kR.1 e; exact L_ ⟨c,d⟩ (h j f)
theorem yE{j:Nat} : ∀ {n:Nat},(∀ p q,p<n->q<n->k1 p=k1 q->k2 p=k2 q->p=q)->j<n->k1 j=a->k2 j=b->wz k1 k2 n a b=j
 | 0,_,h,_,_=>L_ h (u_ _)
 | n+1,hi,hj,e1,e2=>by
   unfold wz;by_cases c:k1 n=a/\k2 n=b
   ·rw[d_ c]; exact hi n j (by omega) hj (c.1.trans e1.symm) (c.2.trans e2.symm)
   ·rw[b_ c];refine yE (fun p q d f=>hi p q (by omega) (by omega)) ?_ e1 e2;by_cases e:j=n
    ·subst e; exact L_ ⟨e1,e2⟩ c
    ·omega
end
theorem D7{v:EvM}(h:bS v=true)(a:fZ v):Fx.Dj v.o v.req/\Fx.Dj v.o v.of:=by
 have d:=nN h;have b:=a.req;have c:=a.of;unfold je at b c;exact⟨⟨by omega,by omega⟩,⟨by omega,by omega⟩⟩
theorem X7{w:World}{b k n:Nat}{g:Nat->Nat->Int}{o r:Int}{y:Nat->Value}(h:ig w b k (aM (fun i=>g i 0) n o) (aM (fun i=>g i 1) n r) (aM (tT g) n (.agg (aA 5 y))))(x:Nat->Int)(e0:x 0=o)(a:x 1=r)(d : ∀ j,j<5->y j=iX x j) :
 ig w b k (fun i=>aM g n x i 0) (fun i=>aM g n x i 1) (tT (aM g n x)):=h.sZ fun i _=>by
 unfold aM tT;by_cases c:i=n
 ·subst c;refine⟨?_,?_,?_⟩
  ·show(if i=i then o else g i 0)=(if i=i then x else g i) 0;rw[d_ rfl,d_ rfl,e0]
  ·show(if i=i then r else g i 1)=(if i=i then x else g i) 1;rw[d_ rfl,d_ rfl,a]
  ·show(if i=i then Value.agg (aA 5 y)else _)=Value.agg (aA 5 (iX (if i=i then x else g i)));rw[d_ rfl,d_ rfl,Fx.dZ d]
 ·refine⟨?_,?_,?_⟩
  ·show(if i=n then o else g i 0)=(if i=n then x else g i) 0;rw[b_ c,b_ c]
  ·show(if i=n then r else g i 1)=(if i=n then x else g i) 1;rw[b_ c,b_ c]
  ·show(if i=n then Value.agg (aA 5 y)else Value.agg (aA 5 (iX (g i))))=Value.agg (aA 5 (iX (if i=n then x else g i)));rw[b_ c,b_ c]
theorem X8{w:World}{b n j:Nat}{g:Nat->Nat->Int}{x:Nat->Int}(h:ig w b n (fun i=>g i 0) (fun i=>g i 1) (aM (tT g) j (.agg (aA 5 (iX x)))))(e0:x 0=g j 0)(a:x 1=g j 1) :
 ig w b n (fun i=>aM g j x i 0) (fun i=>aM g j x i 1) (tT (aM g j x)):=h.sZ fun i _=>by
 unfold aM tT;show g i 0=(if i=j then x else g i) 0/\g i 1=(if i=j then x else g i) 1/\_=Value.agg (aA 5 (iX (if i=j then x else g i)));by_cases c:i=j
 ·subst c; rw[d_ rfl,d_ rfl]; exact⟨e0.symm,a.symm,rfl⟩
 ·rw[b_ c,b_ c]; exact⟨rfl,rfl,rfl⟩
theorem OJ{w:World}{b k n:Nat}{o r:Nat->Int}{x y:Int}(h:ig w b k (aM o n x) (aM r n y) (aM Dw n (.bool true))):ig w b k (aM o n x) (aM r n y) Dw:=h.sZ fun i _=>⟨rfl,rfl,by unfold aM Dw; split <;> rfl⟩
theorem agG(x:Nat->Int)(r:Int):dB (iX x) 4 (aD r)=iX (upd x 4 r):=by
 funext p
 unfold dB;by_cases c:p=4
 ·subst c; rw[d_ rfl]; rfl
 rw[b_ c]; unfold iX upd;by_cases a:p=0
 ·rw[d_ a,d_ a]; rfl
 rw[b_ a,b_ a];by_cases b:p=3
 ·rw[d_ b,d_ b]; rfl
 rw[b_ b,b_ b,b_ c]
def FY(a b:Int):Nat->Value:=fun p=>if p=0 then au a else aD b
def Vf(m:dK)(a:Nat->Nat->Int)(v:EvM):dK := { m with R:=a,an:=m.an+1,ao:=aM m.ao m.an v.o,ar:=aM m.ar m.an v.req,gn:=m.gn+1,g:=aM m.g m.gn (pV v) }
def OL(m:dK)(a:Nat->Nat->Int)(v:EvM)(j:Nat):dK := { m with R:=a,an:=m.an+1,ao:=aM m.ao m.an v.o,ar:=aM m.ar m.an v.req,g:=aM m.g j (upd (m.g j) 4 v.req) }
structure Bw(w0 w:World):Prop where
 b:Below w0.heap.size w0 w
theorem Bw.up{a w w':World}(h:Bw a w)(c:Below w.heap.size w w'):Bw a w':=⟨Jp h.b c⟩
instance {a w w':World}:Rt.Tr w w' (Bw a w) (Bw a w'):=⟨fun b h=>h.up b⟩
end Rt
theorem adg{y:Nat->Value}{a b:Int}(c:y 0=au a)(h1:y 1=aD b){w:World}{g:Nat}(h:aQ w g 2 y 113):aQ w g 2 (FY a b) 113:=h.congr fun j d=>by
 rcases(show j=0\/j=1 by omega)with rfl|rfl
 ·exact c
 ·exact h1
structure LtT(gl gq ge b:Nat):Prop where
 gl:gl<b
 gq:gq<b
 ge:ge<b
structure LtF(gl gq ge gg go b:Nat):Prop where
 gl:gl<b
 gq:gq<b
 ge:ge<b
 gg:gg<b
 go:go<b
theorem Vg(m:dK)(l B:Nat)(w:World)(h:kV w B l m)(v:EvM)(hv:bS v=true)(hwf:fZ v)(I:Nat->Nat->Int)(D J G:Nat)(adh:J<=D)(cap:Array Value)(U:Uw w B l m { m with R:=I } D (.func (.func G) #[] cap) G cap)(S:Nat)(K:Nat)(M:Nat)(A:Nat)(Y:aQ w S 1 (fun _ => .func (.func G) #[] cap) 107)(hl:aQ w K 1 (fun _=>(pt l)) 37)(hq:aQ w M 2 (FY v.o v.req) 113)(E:aQ w A 14 (bR v) 32)(N:LtT K M A D)(hnz : ∀ i,i<m.an -> ¬ (m.ao i=v.o/\m.ar i=v.req))(hny : ∀ i,i<m.gn -> ¬ ((fun i=>m.g i 0) i=v.o/\(fun i=>m.g i 1) i=v.req)) :
 Calls Tryz.prog 177 #[(pt S),(pt K),(pt M),(pt A)] w fun e w'=>e = .returned (.tuple #[])/\kV w' B l (Vf m I v)/\jL (MV m l J) w w':=by
 have hC:=h.c;have hT:=h.t;have hP:=h.p;have hR:=h.r;have hG:=h.g;have hA:=h.a;have d:=h.ne;have lC:=h.c.lt;have lT:=h.t.lt;have lP:=h.p.lt;have lR:=h.r.lt;have lG:=h.g.lt;have lA:=h.a.lt;have lgd:=Y.lt;have Zc:=hl.lt;have lgq:=hq.lt;have ZC:=E.lt;have Z:=D7 hv hwf;refine Kent Tryz.func177 25 ?_;refine ay<|Lv (.func (.func G) #[] cap) (aN Y.aI 0)<|Bb (by rfl) (Fx.Ow (args := []) rfl rfl rfl (by simp) U.f) rfl<|(U.s _ (Below.refl _ _)).mono ?_;rintro e9 z ⟨E,C,H⟩;refine⟨_,E,?_⟩;clear E;have V:=H.mono (S':=MV m l J) fun k hk=>hk.imp id (m_ adh);have m1:aQ z l 29 (uP m) 106:=C.c;have lm1:=m1.lt;have m2:ru z B m.tp m.mb m.T:=C.t;have lm2:=m2.lt;have m3:Mp z m.pb m.T.n m.T.x (Dv m.T):=C.p;have lm3:=m3.lt;have m4:Mp z m.rb m.T.n m.T.x (wo (I)):=C.r;have lm4:=m4.lt;have m5:ig z m.gb m.gn (fun i=>m.g i 0) (fun i=>m.g i 1) (tT m.g):=C.g;have lm5:=m5.lt;have m6:ig z m.ab m.an m.ao m.ar Dw:=C.a;have lm6:=m6.lt;have m7:=h.Jb hl (by decide) H N.gl;have lm7:=m7.lt;have m8:=h.Jb hq (by decide) H N.gq;have lm8:=m8.lt;have m9:=h.Jb E (by decide) H N.ge;have lm9:=m9.lt;refine aC<|Ws ?_;refine jP [0,1,2,3,4,5] [4,0,0,4,4,3] [(5,0,[0]),(5,3,[3]),(5,4,[4])] fun oI W gY => ?_;have s1:Stp z.heap.size z oI:=Sb W;have⟨m10,m11,m12,m13,m14,m15,m16,m17,m18⟩:=Bj W m1 m2 m3 m4 m5 m6 m7 m8 m9;have D:=V.then s1 (.inr V.size);refine Rs (pt l) (aN m16.aI 0) ?_;refine aY (pt l)<|aY (pf l 28)<|Rs (.map (some m.ab)) (aN m10.aI 28) ?_;refine Rs (.agg (aA 2 (FY v.o v.req))) (fG m17.aI 0) ?_;refine gK<|Fx.L.RD (by rfl) rfl rfl rfl ((show ev _ _ = .agg (aA 2 (FY v.o v.req))from rfl).trans (Fx.zh (y:=FY v.o v.req) (a:=v.o) (b:=v.req) rfl rfl)) Z.1 rfl m15 Tryz.underlying103 F9 hnz fun O m19 s2 z1 => ?_;have q:=m15.Bl s2;have m20:=m10.dQ q;have m21:=m11.dQ q (d.ma);have m22:=m12.dQ q (d.pa);have m23:=m13.dQ q (d.ra);have m24:=m14.dQ q (d.ga);have mY:=m16.dQ q;have nQ:=m17.dQ q;have oJ:=m18.dQ q;have Q:=D.then s2 (.inl (.inl (.inr (.inr (.inr (.inr (.inr rfl)))))));have ou:ig O m.ab (m.an+1) (aM m.ao m.an v.o) (aM m.ar m.an v.req) Dw:=OJ m19;refine Ln<|bQ ?_;refine jP [5,7,9,11,0,1,2,3,4,6,8,10,12,13,14] [4,0,0,4,4,0,4,0,4,0,4,0,4,0,3] [(14,0,[0]),(14,3,[3]),(14,4,[4]),(14,6,[6]),(14,8,[8]),(14,10,[10]),(14,12,[12])] fun Cw X nC => ?_;have s3:Stp O.heap.size O Cw:=Sb X;have⟨qo,oP,mV,m32,oQ,nT,pY,F,rQ⟩:=Bj X m20 m21 m22 m23 m24 mY nQ oJ ou;have b3:=Q.then s3 (.inr Q.size);refine aY (pt A)<|aY (pf A 12)<|aY (pf A 9)<|aY (pf A 11)<|Rs (pt l) (aN nT.aI 0) ?_;refine aY (pt l)<|aY (pf l 27)<|Rs (.map (some m.gb)) (aN qo.aI 27) ?_;refine Rs (.agg (aA 2 (FY v.o v.req))) (fG pY.aI 0) ?_;refine Rs (au v.o) (aN F.aI 0) ?_;refine Rs (aD v.req) (aN F.aI 12) ?_;refine Rs (aD v.node) (aN F.aI 9) ?_;refine Rs (au v.aT) (aN F.aI 11) ?_;refine aY (.agg (aA 5 (bH (bH (bH (bH (fun P=>if P<1 then au 0 else if P<3 then aD 0 else if P<4 then au 0 else aD 0) 0 1 (fun _=>au v.o)) 1 1 (fun _=>aD v.req)) 2 1 (fun _=>aD v.node)) 3 1 (fun _=>au v.aT))))<|gK<|Fx.L.RD (by rfl) rfl rfl rfl ((show ev _ _ = .agg (aA 2 (FY v.o v.req))from rfl).trans (Fx.zh (y:=FY v.o v.req) (a:=v.o) (b:=v.req) rfl rfl)) Z.1 rfl oQ Tryz.underlying102 F9 hny fun w3 rR s4 z2 => ?_;have u:=oQ.Bl s4;have oU:=qo.dQ u;have rT:=oP.dQ u (d.mg);have mZ:=mV.dQ u (d.pg);have mP:=m32.dQ u (d.rg);have nR:=nT.dQ u;have qY:=pY.dQ u;have qE:=F.dQ u;have nE:=rQ.dQ u (Ne.symm d.ga);have b4:=b3.then s4 (.inl (.inl (.inr (.inr (.inr (.inr (.inl rfl)))))));have qF:ig w3 m.gb (m.gn+1) (fun i=>aM m.g m.gn (pV v) i 0) (fun i=>aM m.g m.gn (pV v) i 1) (tT (aM m.g m.gn (pV v))):=X7 rR (pV v) rfl rfl (by intro j hj; rcases(show j=0\/j=1\/j=2\/j=3\/j=4 by omega)with rfl|rfl|rfl|rfl|rfl <;> rfl)
 refine Ln (Rn (⟨.tuple #[],iM Tryz.results177,?_⟩));unfold Vf;exact⟨rfl,{ c:=oU,t:=rT,p:=mZ,r:=mP,g:=qF,a:=nE,ne:=⟨d.mp,d.mr,d.mg,d.ma,d.pr,d.pg,d.pa,d.rg,d.ra,d.ga⟩,lB:=h.lB,pB:=h.pB,rB:=h.rB,gB:=h.gB,aB:=h.aB },b4⟩
theorem Vh(m:dK)(l B:Nat)(w:World)(h:kV w B l m)(v:EvM)(hv:bS v=true)(hwf:fZ v)(K:Nat->Nat->Int)(E H I:Nat)(adh:H<=E)(cap:Array Value)(S:Uw w B l m { m with R:=K } E (.func (.func I) #[] cap) I cap)(j:Nat)(Q:Nat)(M:Nat)(N:Nat)(J:Nat)(A:Nat)(go:Nat)(X:aQ w Q 1 (fun _ => .func (.func I) #[] cap) 107)(hl:aQ w M 1 (fun _=>(pt l)) 37)(hq:aQ w N 2 (FY v.o v.req) 113)(F:aQ w J 14 (bR v) 32)(Y:aQ w A 5 (iX (m.g j)) 66)(hof:aQ w go 2 (FY v.o v.of) 113)(hgg:H<=A)(G:LtF M N J A go E)(hnz : ∀ i,i<m.an -> ¬ (m.ao i=v.o/\m.ar i=v.req))(Z:j<m.gn)(ejy:(fun i=>m.g i 0) j=v.o)(fjy:(fun i=>m.g i 1) j=v.of) :
 Calls Tryz.prog 180 #[(pt Q),(pt M),(pt N),(pt J),(pt A),(pt go)] w fun e w'=>e = .returned (.tuple #[])/\kV w' B l (OL m K v j)/\jL (MV m l H) w w':=by
 have hC:=h.c;have hT:=h.t;have hP:=h.p;have hR:=h.r;have hG:=h.g;have hA:=h.a;have d:=h.ne;have lC:=h.c.lt;have lT:=h.t.lt;have lP:=h.p.lt;have lR:=h.r.lt;have lG:=h.g.lt;have lA:=h.a.lt;have lgd:=X.lt;have Zc:=hl.lt;have lgq:=hq.lt;have ZC:=F.lt;have lgg:=Y.lt;have lgo:=hof.lt;have aa:=D7 hv hwf;have avL:=Z;refine Kent Tryz.func180 22 ?_;refine ay<|Lv (.func (.func I) #[] cap) (aN X.aI 0)<|Bb (by rfl) (Fx.Ow (args := []) rfl rfl rfl (by simp) S.f) rfl<|(S.s _ (Below.refl _ _)).mono ?_;rintro e9 z ⟨F,D,C⟩;refine⟨_,F,?_⟩;clear F;have U:=C.mono (S':=MV m l H) fun k hk=>hk.imp id (m_ adh);have m1:aQ z l 29 (uP m) 106:=D.c;have lm1:=m1.lt;have m2:ru z B m.tp m.mb m.T:=D.t;have lm2:=m2.lt;have m3:Mp z m.pb m.T.n m.T.x (Dv m.T):=D.p;have lm3:=m3.lt;have m4:Mp z m.rb m.T.n m.T.x (wo (K)):=D.r;have lm4:=m4.lt;have m5:ig z m.gb m.gn (fun i=>m.g i 0) (fun i=>m.g i 1) (tT m.g):=D.g;have lm5:=m5.lt;have m6:ig z m.ab m.an m.ao m.ar Dw:=D.a;have lm6:=m6.lt;have m7:=h.Jb hl (by decide) C G.gl;have lm7:=m7.lt;have m8:=h.Jb hq (by decide) C G.gq;have lm8:=m8.lt;have m9:=h.Jb F (by decide) C G.ge;have lm9:=m9.lt;have m10:=h.Jb Y (by decide) C G.gg;have avM:=m10.lt;have m11:=h.Jb hof (by decide) C G.go;have aoi:=m11.lt;refine aC<|Ws ?_;refine jP [0,1,2,3,4,5] [4,0,0,4,4,3] [(5,0,[0]),(5,3,[3]),(5,4,[4])] fun oI V gY => ?_;have s1:Stp z.heap.size z oI:=Sb V;have⟨m12,m13,m14,m15,m16,m17,m18,m19,m20,m21,m22⟩:=Em V m1 m2 m3 m4 m5 m6 m7 m8 m9 m10 m11;have E:=U.then s1 (.inr U.size);refine Rs (pt l) (aN m18.aI 0) ?_;refine aY (pt l)<|aY (pf l 28)<|Rs (.map (some m.ab)) (aN m12.aI 28) ?_;refine Rs (.agg (aA 2 (FY v.o v.req))) (fG m19.aI 0) ?_;refine gK<|Fx.L.RD (by rfl) rfl rfl rfl ((show ev _ _ = .agg (aA 2 (FY v.o v.req))from rfl).trans (Fx.zh (y:=FY v.o v.req) (a:=v.o) (b:=v.req) rfl rfl)) aa.1 rfl m17 Tryz.underlying103 F9 hnz fun w2 m23 s2 z1 => ?_;have q:=m17.Bl s2;have m24:=m12.dQ q;have mY:=m13.dQ q (d.ma);have nQ:=m14.dQ q (d.pa);have oJ:=m15.dQ q (d.ra);have ou:=m16.dQ q (d.ga);have qo:=m18.dQ q;have oP:=m19.dQ q;have mV:=m20.dQ q;have m32:=m21.dQ q;have oQ:=m22.dQ q;have b2:=E.then s2 (.inl (.inl (.inr (.inr (.inr (.inr (.inr rfl)))))));have nT:ig w2 m.ab (m.an+1) (aM m.ao m.an v.o) (aM m.ar m.an v.req) Dw:=OJ m23;refine Ln<|bQ<|ay<|av (pf J 12)<|Lv (aD v.req) (aN mV.aI 12)<|av (pf A 4)<|jh m32 4 (aD v.req) fun O pY s3 z2 => ?_;have qD:aQ O A 5 (iX (upd (m.g j) 4 v.req)) 66:=pY.to (agG _ _);have gN:=iC s3 m32.ty;have⟨rQ,rR,oU,rT,mZ,mP,nR,qY,qE,nE⟩:=NP gN m24 mY nQ oJ ou qo oP mV oQ nT;have P:=b2.then s3 (.inl (.inr hgg));refine aC ?_;refine jP [0,1,2,3,4,5,6] [4,0,0,4,4,4,3] [(6,0,[0]),(6,3,[3]),(6,4,[4]),(6,5,[5])] fun Cw W nC => ?_;have s4:Stp O.heap.size O Cw:=Sb W;have⟨qF,wJ,rY,sJ,uV,uy,tY,uz,xH,tZ,sK⟩:=Em W rQ rR oU rT mZ mP nR qY qE nE qD;have b4:=P.then s4 (.inr P.size);refine Rs (pt l) (aN uy.aI 0) ?_;refine aY (pt l)<|aY (pf l 27)<|Rs (.map (some m.gb)) (aN qF.aI 27) ?_;refine Rs (.agg (aA 2 (FY v.o v.of))) (fG xH.aI 0) ?_;refine Rs (.agg (aA 5 (iX (upd (m.g j) 4 v.req)))) (fG sK.aI 0) ?_;refine gK<|Fx.L.aeA (by rfl) rfl rfl rfl ((show ev _ _ = .agg (aA 2 (FY v.o v.of))from rfl).trans (Fx.zh (y:=FY v.o v.of) (a:=v.o) (b:=v.of) rfl rfl)) aa.2 rfl uV Tryz.underlying102 F9 Z ejy fjy fun w4 uf s5 z3 => ?_;have u:=uV.Bl s5;have xI:=qF.dQ u;have qb:=wJ.dQ u (d.mg);have wK:=rY.dQ u (d.pg);have nY:=sJ.dQ u (d.rg);have tJ:=uy.dQ u;have m64:=tY.dQ u;have wS:=uz.dQ u;have wL:=xH.dQ u;have wT:=tZ.dQ u (Ne.symm d.ga);have wU:=sK.dQ u;have b5:=b4.then s5 (.inl (.inl (.inr (.inr (.inr (.inr (.inl rfl)))))));have rZ:ig w4 m.gb m.gn (fun i=>aM m.g j (upd (m.g j) 4 v.req) i 0) (fun i=>aM m.g j (upd (m.g j) 4 v.req) i 1) (tT (aM m.g j (upd (m.g j) 4 v.req))):=X8 uf rfl rfl;refine Ln (Rn (⟨.tuple #[],iM Tryz.results180,?_⟩));unfold OL;exact⟨rfl,{ c:=xI,t:=qb,p:=wK,r:=nY,g:=rZ,a:=wT,ne:=⟨d.mp,d.mr,d.mg,d.ma,d.pr,d.pg,d.pa,d.rg,d.ra,d.ga⟩,lB:=h.lB,pB:=h.pB,rB:=h.rB,gB:=h.gB,aB:=h.aB },b5⟩
end
set_option maxRecDepth 20000
set_option linter.unusedVariables false
namespace Rt
def gQ(m:dK)(o r:Int):Bool:=A8 m.ao m.ar m.an o r
def iF(m:dK)(o r:Int):Bool:=A8 (fun i=>m.g i 0) (fun i=>m.g i 1) m.gn o r
def eP(m:dK)(o r:Int):Nat:=wz (fun i=>m.g i 0) (fun i=>m.g i 1) m.gn o r
noncomputable def Vi(m:dK)(v:EvM):dK:=oF m (fun x=>bB x v.o v.aT) (m.T.path v.node)
def jO(m:dK)(v:EvM):Int:=if gQ m v.o v.req=true then 14 else if m.T.has v.node=false then 9 else dA m (fun x=>bB x v.o v.aT) (m.T.path v.node)
noncomputable def ko(m:dK)(v:EvM):dK:=Vf m (Vi m v).R v
noncomputable def Vj(m:dK)(v:EvM):dK:=oF m (fun x=>bE x v.o (m.g (eP m v.o v.of) 3)) (m.T.path (m.g (eP m v.o v.of) 2))
def jf(m:dK)(v:EvM):Int:=if gQ m v.o v.req=true then 14 else if iF m v.o v.of=false\/m.g (eP m v.o v.of) 4≠0 then 12 else dA m (fun x=>bE x v.o (m.g (eP m v.o v.of) 3)) (m.T.path (m.g (eP m v.o v.of) 2))
noncomputable def iB(m:dK)(v:EvM):dK:=OL m (Vj m v).R v (eP m v.o v.of)
def Qz(m:dK):Prop := ∀ i,i<m.gn->gQ m (m.g i 0) (m.g i 1)=true
end Rt
theorem Fx.agH{f:Nat->Value}{x1 x2 e g h i:Operand}{v1 v2 a b c d:Value}(h1:ev f x1=v1)(j:ev f x2=v2)(k:ev f e=a)(l:ev f g=b)(m:ev f h=c)(n:ev f i=d) : [x1,x2,e,g,h,i].map (ev f) = [v1,v2,a,b,c,d]:=by rw[List.map_cons,h1,Fx.aes j k l m n]
theorem Uw.up{w w':World}{B d a b:Nat}{m e:dK}{c:Value}{cap:Array Value}(h:Uw w B d m e a c b cap)(f:Below w.heap.size w w'):Uw w' B d m e a c b cap := { h with s:=fun i g=>h.s i (Jp f g) }
instance {w w':World} {B e a c:Nat} {m f:dK} {d:Value} {cap:Array Value}:Rt.Tr w w' (Uw w B e m f a d c cap) (Uw w' B e m f a d c cap):=⟨fun b h=>h.up b⟩
theorem X9(m:dK)(d B:Nat)(w:World)(h:kV w B d m)(v:EvM)(M:bS v=true)(hwf:fZ v)(hga:Qz m) :
 Calls Tryz.prog 164 #[(pt d),.agg (aA 14 (bR v))] w fun e w'=>QX w B d m (ko m v) (jO m v) e w':=by
 have hC:=h.c;have hT:=h.t;have hP:=h.p;have hR:=h.r;have hG:=h.g;have hA:=h.a;have hN:=h.ne;have lC:=h.c.lt;have lT:=h.t.lt;have lP:=h.p.lt;have lR:=h.r.lt;have lG:=h.g.lt;have lA:=h.a.lt;obtain⟨a,ha,ho⟩ : ∃ a:Nat,a<6/\v.o=(a:Int)+1:=fq (iK M);have hra:aL v=a:=by unfold aL; omega
 have hko:=D7 M hwf;have hvo:1<=v.o/\v.o<=6:=by omega
 refine Kent Tryz.func164 40 ?_;refine ay<|zA (pt d) fun C w1 kU N s1 z1 => ?_;have⟨m2,m3,m4,m5,m6,m7,V⟩:=jM s1.old hC hT hP hR hG hA (Below.refl w.heap.size w);have tC:=iq kU;have⟨nD,zo,wP,AY,zl⟩:=Di kU hC.lt hP.lt hR.lt hG.lt hA.lt;have uU:=N.lt;refine qM fun f w2 Ad D s2 z2 => ?_;have⟨m9,m10,m11,m12,m13,m14,m15,W⟩:=mM s2.old m2 m3 m4 m5 m6 m7 N V;have rU:=jE Ad V.size;have⟨OC,Fb,Fe,zU,Fg,Bq⟩:=Iw Ad m2.lt m4.lt m5.lt m6.lt m7.lt N.lt;have Av:=D.lt;refine av (.nilFunc)<|av (au 0)<|aC<|ay<|av (pt f)<|Lv (au v.o) (aN D.aI 0)<|av (pf f 12)<|Lv (aD v.req) (aN D.aI 12)<|av (.agg (aA 2 (bH (bH (fun q=>if q<1 then au 0 else aD 0) 0 1 (fun _=>au v.o)) 1 1 (fun _=>aD v.req))))<|wX 2 (fun q=>if q<1 then au 0 else aD 0) fun l w3 zI O s3 z3 => ?_;have⟨m17,m18,m19,m20,m21,m22,m23,m24,X⟩:=Bj s3.old m9 m10 m11 m12 m13 m14 m15 D W;have Es:=jE zI W.size;have⟨adi,acX,aok,Va,acY,Vb,Vd⟩:=Mc zI m9.lt m11.lt m12.lt m13.lt m14.lt m15.lt D.lt;have Mr:=O.lt;refine fH O 0 (h1:=(bV (bV (fun jq _=>by show((fun q=>if q<1 then au 0 else aD 0:Nat->Value) jq).oneCell'=true; simp only[]; repeat (first|rfl|split)) (fun _ _=>rfl)) (fun _ _=>rfl))) fun w4 mY s4 z4 => ?_
 have nQ:aQ w4 l 2 (bH (bH (fun q=>if q<1 then au 0 else aD 0) 0 1 (fun _=>au v.o)) 1 1 (fun _=>aD v.req)) 113:=aX mY;have oJ:aQ w4 l 2 (FY v.o v.req) 113:=adg (Fx.Ah (by omega) (Fx.pW (j:=0) (by omega) (by omega) rfl)) (Fx.pW (j:=0) (by omega) (by omega) rfl) nQ;have gN:=iC s4 O.ty;have⟨ou,qo,oP,mV,m32,oQ,nT,pY⟩:=aap gN m17 m18 m19 m20 m21 m22 m23 m24;have b4:=s4.below X X.size (by omega);refine aC<|Ws<|Ws ?_;refine jP [0,1,2,3,4,5] [4,0,0,4,4,4] [] fun oI dM gY => ?_;have⟨qD,rQ,rR,oU,rT,P,mP,nR,qY,Y⟩:=um dM ou qo oP mV m32 oQ nT pY oJ b4;refine Rs (pt d) (aN mP.aI 0) ?_;refine aY (pt d)<|aY (pf d 28)<|Rs (.map (some m.ab)) (aN qD.aI 28) ?_;refine Rs (.agg (aA 2 (FY v.o v.req))) (fG qY.aI 0) ?_
 rcases Fx.xE m.ao m.ar m.an v.o v.req with ⟨U1,CS,CU,KW⟩|jl
 ·refine Rs aG (Fx.JU (z := .bool false) rfl rfl ((show ev _ _ = .agg (aA 2 (FY v.o v.req))from rfl).trans (Fx.zh (y:=FY v.o v.req) (a:=v.o) (b:=v.req) rfl rfl)) hko.1 P Tryz.underlying103 F9 (by rfl) CS CU KW rfl) ?_;refine bQ<|aO<|ay<|av (.nilFunc)<|av (au 14)<|aC<|Wr<|sR<|aJ (.tuple #[.nilFunc,au 14]) ?_;have k:jO m v=14:=by unfold jO; exact d_ (rO CS CU KW)
  exact⟨⟨.nilFunc,0,#[],by rw[k],rfl,fun A=>L_ (k.symm.trans A) (by first|decide|omega|assumption)⟩,Y⟩
 refine Rs aF (Fx.JR (z := .bool false) rfl rfl ((show ev _ _ = .agg (aA 2 (FY v.o v.req))from rfl).trans (Fx.zh (y:=FY v.o v.req) (a:=v.o) (b:=v.req) rfl rfl)) hko.1 P Tryz.underlying103 F9 (by rfl) jl) ?_;refine bQ<|aK<|Wk<|sN<|Ws<|Ws ?_;refine jP [4,0,1,2,3,5,6,7] [4,0,0,4,0,4,3,0] [(6,0,[3,2,1,0]),(6,3,[3]),(6,5,[5]),(7,6,[6])] fun Cw gD nC => ?_;have⟨qE,nE,qF,wJ,rY,sJ,Q,G,tY,I⟩:=um gD qD rQ rR oU rT P mP nR qY Y;refine aY (pf f 9)<|Rs (pt d) (aN Q.aI 0) ?_;refine aY (pt d)<|aY (pf d 18)<|Rs (pt m.tp) (aN qE.aI 18) ?_;refine Rs (aD v.node) (aN G.aI 9) ?_;refine gK ?_;by_cases s:(dL.has m.T v.node)=true
 ·refine lW (Zr v.node nE) aG (by rw[s])<|Ln<|aY aF<|bQ<|aK<|Wk<|sN<|ay<|Lv (pt d) (aN Q.aI 0)<|av (pf f 9)<|Lv (aD v.node) (aN G.aI 9)<|Lv (.func (.func 175) #[] #[(pt f)]) (Fx.nk (us := []) (vs := [(pt f)]) rfl rfl rfl)<|lK (U9 m d B _ (h.up I) v.node v hvo f G) ?_;rintro e9 H ⟨⟨F,fi1,F4,he,ho1,hD1⟩,hb1⟩;refine⟨_,he,?_⟩;clear he;have⟨uz,tZ,sK,uf,xI,qb,wK,nY,Z⟩:=Bj hb1 qE qF wJ rY sJ Q G tY I;have bw1:Bw H H:=⟨Below.refl _ _⟩;refine av (.tuple #[F,au (dA m (fun x=>bB x v.o v.aT) (m.T.path (v.node)))])<|av (F)<|av (au (dA m (fun x=>bB x v.o v.aT) (m.T.path (v.node))))<|wX 1 (fun _ => .nilFunc) fun n w6 K S s8 z5 => ?_;have⟨uW,vN,wM,uX,b8⟩:=wR s8.old qb wK nY bw1 Z;have Wn:=jE K Z.size;have⟨aol,acz,acA,acB,acC,acD,aom,acE⟩:=WI K uz.lt tZ.lt sK.lt uf.lt xI.lt qb.lt wK.lt nY.lt;have Ub:=S.lt;have kg4:H.heap.size<=n:=by rw[K]; exact bw1.b.size
  refine jh S 0 F (h1:=ho1) fun w7 zk U z6 => ?_;have wN:aQ w7 n 1 (fun _=>F) 107:=dJ zk;have jX:=iC U S.ty;have⟨xJ,zF,xK⟩:=En jX uW vN wM;have Aq:=(⟨U.below uX.b uX.b.size kg4⟩:Bw H _);have J:=U.below b8 b8.size (by omega);refine av (au (dA m (fun x=>bB x v.o v.aT) (m.T.path (v.node))))<|aC<|Ws<|ay<|av (au (dA m (fun x=>bB x v.o v.aT) (m.T.path (v.node)))) ?_;by_cases E:(dA m (fun x=>bB x v.o v.aT) (m.T.path (v.node)))=0
  ·refine Lv aF (jd E)<|aC<|aK<|Wk<|sN<|ay<|Lv (.func (.func 177) #[] #[(pt n),(pt C),(pt l),(pt f)]) (Fx.nk (us := []) (vs := [(pt n),(pt C),(pt l),(pt f)]) rfl rfl rfl)<|av (.func (.func 177) #[] #[(pt n),(pt C),(pt l),(pt f)])<|av (au 0)<|aC<|Wr<|aJ (.tuple #[.func (.func 177) #[] #[(pt n),(pt C),(pt l),(pt f)],au 0]) ?_;have hD0:=hD1 E;have hfe:=hD0.e;subst hfe;have b01:w.heap.size<=Cw.heap.size:=(by omega);have k:jO m v=0:=(by unfold jO; rw[b_ (show ¬ gQ m v.o v.req=true by unfold gQ; rw[oL jl]; decide)]; rw[b_ (by rw[s]; decide)]; exact E);exact⟨⟨_,177,#[(pt n),(pt C),(pt l),(pt f)],by rw[k],rfl,fun _=>⟨rfl,⟨_,_,Tryz.func177,rfl,rfl⟩,fun w2 u=>(Vg m d B w2 ((h.up J).up u) v M hwf (Vi m v).R Cw.heap.size w.heap.size _ (by omega) _ (hD0.up (Jp Aq.b u)) _ _ _ _ (wN.cZ (Sb u) (t_ wN.lt)) (xJ.cZ (Sb u) (t_ xJ.lt)) (xK.cZ (Sb u) (t_ xK.lt)) (zF.cZ (Sb u) (t_ zF.lt)) ⟨by omega,by omega,by omega⟩ jl (fun i hi e=>by have q9:=hga i hi; obtain⟨j9,hj9,e9,f9⟩:=kR.1 q9; exact jl j9 hj9 ⟨e9.trans e.1,f9.trans e.2⟩)).mono fun _ _ L=>⟨L.1,L.2.1,L.2.2.mono fun _ hk=>hk⟩⟩⟩,J⟩
  refine Lv aG (lJ E)<|aC<|aO<|ay<|av (au (dA m (fun x=>bB x v.o v.aT) (m.T.path (v.node))))<|av (.nilFunc)<|av (au (dA m (fun x=>bB x v.o v.aT) (m.T.path (v.node))))<|aC<|Wr<|sR<|aJ (.tuple #[.nilFunc,au (dA m (fun x=>bB x v.o v.aT) (m.T.path (v.node)))]) ?_;have k:jO m v=dA m (fun x=>bB x v.o v.aT) (m.T.path (v.node)):=by unfold jO; rw[b_ (show ¬ gQ m v.o v.req=true by unfold gQ; rw[oL jl]; decide)]; rw[b_ (by rw[s]; decide)]
  exact⟨⟨.nilFunc,0,#[],by rw[k],rfl,fun A=>L_ (k.symm.trans A) (by first|decide|omega|assumption)⟩,J⟩
 rw[S_]at s;refine lW (Zr v.node nE) aF (by rw[s])<|Ln<|aY aG<|bQ<|aO<|ay<|av (.nilFunc)<|av (au 9)<|aC<|Wr<|sR<|aJ (.tuple #[.nilFunc,au 9]) ?_;have k:jO m v=9:=by unfold jO; rw[b_ (show ¬ gQ m v.o v.req=true by unfold gQ; rw[oL jl]; decide)]; exact d_ s
 exact⟨⟨.nilFunc,0,#[],by rw[k],rfl,fun A=>L_ (k.symm.trans A) (by first|decide|omega|assumption)⟩,I⟩
theorem Ya(m:dK)(A B:Nat)(w:World)(h:kV w B A m)(v:EvM)(hv:bS v=true)(hwf:fZ v) :
 Calls Tryz.prog 165 #[(pt A),.agg (aA 14 (bR v))] w fun e w'=>QX w B A m (iB m v) (jf m v) e w':=by
 have hC:=h.c;have hT:=h.t;have hP:=h.p;have hR:=h.r;have hG:=h.g;have hA:=h.a;have hN:=h.ne;have lC:=h.c.lt;have lT:=h.t.lt;have lP:=h.p.lt;have lR:=h.r.lt;have lG:=h.g.lt;have lA:=h.a.lt;obtain⟨a,ha,ho⟩ : ∃ a:Nat,a<6/\v.o=(a:Int)+1:=fq (iK hv);have hra:aL v=a:=by unfold aL; omega
 have ac:=D7 hv hwf;have hvo:1<=v.o/\v.o<=6:=by omega
 refine Kent Tryz.func165 56 ?_;refine ay<|zA (pt A) fun K w1 kU m1 s1 z1 => ?_;have⟨m2,m4,m5,m6,m7,b1⟩:=sV s1.old hC hP hR hG hA (Below.refl w.heap.size w);have tC:=iq kU;have⟨nD,zo,wP,AY,zl⟩:=Di kU hC.lt hP.lt hR.lt hG.lt hA.lt;have uU:=m1.lt;refine qM fun n w2 Ad E s2 z2 => ?_;have⟨m9,m11,m12,m13,m14,m15,b2⟩:=jM s2.old m2 m4 m5 m6 m7 m1 b1;have rU:=jE Ad b1.size;have⟨OC,Fb,Fe,zU,Fg,Bq⟩:=Iw Ad m2.lt m4.lt m5.lt m6.lt m7.lt m1.lt;have Av:=E.lt;refine av (.nilFunc)<|av (au 0)<|aC<|Ws ?_;refine Jf (T1:=113) (T2:=113) (T1':=113) (T2':=113) (a1 := .tmp 6) (v1 := .tmp 16) (a2 := .tmp 7) (v2 := .tmp 21) (m1:=2) (m2:=2) (z1:=fun d=>if d<1 then au 0 else aD 0) (y1:=bH (bH (fun d=>if d<1 then au 0 else aD 0) 0 1 (fun _=>au v.o)) 1 1 (fun _=>aD v.req)) (z2:=fun d=>if d<1 then au 0 else aD 0) (y2:=bH (bH (fun d=>if d<1 then au 0 else aD 0) 0 1 (fun _=>au v.o)) 1 1 (fun _=>aD v.of)) (u1 := .agg (aA 2 (bH (bH (fun d=>if d<1 then au 0 else aD 0) 0 1 (fun _=>au v.o)) 1 1 (fun _=>aD v.req)))) (u2 := .agg (aA 2 (bH (bH (fun d=>if d<1 then au 0 else aD 0) 0 1 (fun _=>au v.o)) 1 1 (fun _=>aD v.of)))) 10 11 12 13 [[],[],[],[],[],[],[],[],[],[],[],[],[(0,[10]),(1,[11])],[(0,[10]),(1,[11]),(2,[12])]] [[(2,[0]),(3,[0])],[(2,[1]),(3,[1])],[(2,[2]),(3,[2])],[(2,[3]),(3,[3])],[(2,[4]),(3,[4])],[(3,[5])],[(3,[6])],[(3,[7])],[(3,[8])],[(3,[9])],[(2,[10]),(3,[10])],[(2,[11]),(3,[11])],[(3,[12])],[]] #[(pt n),au v.o,(pf n 12),aD v.req,.agg (aA 2 (bH (bH (fun d=>if d<1 then au 0 else aD 0) 0 1 (fun _=>au v.o)) 1 1 (fun _=>aD v.req))),(pt n),au v.o,(pf n 13),aD v.of,.agg (aA 2 (bH (bH (fun d=>if d<1 then au 0 else aD 0) 0 1 (fun _=>au v.o)) 1 1 (fun _=>aD v.of))),undef,undef,undef,undef] (by kernel_rfl) (by kernel_rfl) (by kernel_rfl) (by kernel_rfl) (by kernel_rfl) (by kernel_rfl) (by kernel_rfl) (by kernel_rfl) (by kernel_rfl) (by kernel_rfl) rfl rfl (by kernel_rfl) (by kernel_rfl) rfl rfl rfl rfl (by kernel_rfl) (by kernel_rfl) (fun k l=>(show ev _ (.tmp 6)=(pt k)from by kernel_rfl)) (fun k l=>(show ev _ (.tmp 7)=(pt l)from by kernel_rfl)) (fun k l=>(show ev _ (.tmp 16) = .agg (aA 2 (bH (bH (fun d=>if d<1 then au 0 else aD 0) 0 1 (fun _=>au v.o)) 1 1 (fun _=>aD v.req)))from by kernel_rfl)) (fun k l=>(show ev _ (.tmp 21) = .agg (aA 2 (bH (bH (fun d=>if d<1 then au 0 else aD 0) 0 1 (fun _=>au v.o)) 1 1 (fun _=>aD v.of)))from by kernel_rfl)) (bI _ _) (bI _ _) (bV (bV (fun jq _=>by show((fun d=>if d<1 then au 0 else aD 0:Nat->Value) jq).oneCell'=true; simp only[]; repeat (first|rfl|split)) (fun _ _=>rfl)) (fun _ _=>rfl)) (bV (bV (fun jq _=>by show((fun d=>if d<1 then au 0 else aD 0:Nat->Value) jq).oneCell'=true; simp only[]; repeat (first|rfl|split)) (fun _ _=>rfl)) (fun _ _=>rfl)) (fun k l => ?_) ?_
 ·refine⟨?_,?_,?_,?_,?_,?_,?_,?_,?_,?_,?_,?_,?_,?_,trivial⟩
  ·exact .inr pU
  ·exact .inr (rX (au v.o) fun G u=>bA (x:=bR v) rfl (show ev _ (.tmp 12)=(pt n)from by kernel_rfl) (by kernel_rfl) (E.aI.below u (by have:=E.lt; omega)) (i:=0) (by omega) (by omega) rfl)
  ·exact .inr pU
  ·exact .inr (rX (aD v.req) fun G u=>bA (x:=bR v) rfl (show ev _ (.tmp 14)=(pf n 12)from by kernel_rfl) (by kernel_rfl) (E.aI.below u (by have:=E.lt; omega)) (i:=12) (by omega) (by omega) rfl)
  ·exact .inr (rX (.agg (aA 2 (bH (bH (fun d=>if d<1 then au 0 else aD 0) 0 1 (fun _=>au v.o)) 1 1 (fun _=>aD v.req)))) fun G u=>gu (vs := [(0,au v.o),(1,aD v.req)]) (places := #[(0,1),(1,1)]) (m:=2) (x:=fun d=>if d<1 then au 0 else aD 0) rfl (Fx.LZ (show ev _ (.tmp 13)=au v.o from by kernel_rfl) (show ev _ (.tmp 15)=aD v.req from by kernel_rfl)) Tryz.underlying113 (by kernel_rfl) (by kernel_rfl) (by rw[bC (off:=0) (s:=1) (y:=fun _=>au v.o) (by kernel_rfl) (cells_one (by rfl)) (by rfl)]; rw[bC (off:=1) (s:=1) (y:=fun _=>aD v.req) (by kernel_rfl) (cells_one (by rfl)) (by rfl)]; rfl))
  ·exact .inr pU
  ·exact .inr (rX (au v.o) fun G u=>bA (x:=bR v) rfl (show ev _ (.tmp 17)=(pt n)from by kernel_rfl) (by kernel_rfl) (E.aI.below u (by have:=E.lt; omega)) (i:=0) (by omega) (by omega) rfl)
  ·exact .inr pU
  ·exact .inr (rX (aD v.of) fun G u=>bA (x:=bR v) rfl (show ev _ (.tmp 19)=(pf n 13)from by kernel_rfl) (by kernel_rfl) (E.aI.below u (by have:=E.lt; omega)) (i:=13) (by omega) (by omega) rfl)
  ·exact .inr (rX (.agg (aA 2 (bH (bH (fun d=>if d<1 then au 0 else aD 0) 0 1 (fun _=>au v.o)) 1 1 (fun _=>aD v.of)))) fun G u=>gu (vs := [(0,au v.o),(1,aD v.of)]) (places := #[(0,1),(1,1)]) (m:=2) (x:=fun d=>if d<1 then au 0 else aD 0) rfl (Fx.LZ (show ev _ (.tmp 18)=au v.o from by kernel_rfl) (show ev _ (.tmp 20)=aD v.of from by kernel_rfl)) Tryz.underlying113 (by kernel_rfl) (by kernel_rfl) (by rw[bC (off:=0) (s:=1) (y:=fun _=>au v.o) (by kernel_rfl) (cells_one (by rfl)) (by rfl)]; rw[bC (off:=1) (s:=1) (y:=fun _=>aD v.of) (by kernel_rfl) (cells_one (by rfl)) (by rfl)]; rfl))
  ·exact .inl rfl
  ·exact .inl rfl
  ·exact .inl rfl
  exact .inl rfl
 rintro k l w3 S P H I ne1 m16 m17 hb1;have agm:A≠k:=t_ (n_ (m9.lt) H);have adj:m.pb≠k:=t_ (n_ (m11.lt) H);have adk:m.rb≠k:=t_ (n_ (m12.lt) H);have aon:m.gb≠k:=t_ (n_ (m13.lt) H);have adl:m.ab≠k:=t_ (n_ (m14.lt) H);have aoo:K≠k:=t_ (n_ (m15.lt) H);have agl:n≠k:=t_ (n_ (E.lt) H);have arW:A≠l:=t_ (n_ (m9.lt) I);have aop:m.pb≠l:=t_ (n_ (m11.lt) I);have aoq:m.rb≠l:=t_ (n_ (m12.lt) I);have aor:m.gb≠l:=t_ (n_ (m13.lt) I);have adn:m.ab≠l:=t_ (n_ (m14.lt) I);have ado:K≠l:=t_ (n_ (m15.lt) I);have arX:n≠l:=t_ (n_ (E.lt) I);have⟨m18,m20,m21,m22,m23,m24,mY,b3⟩:=mM hb1 m9 m11 m12 m13 m14 m15 E b2;have H:w.heap.size<=k:=m_ b2.size H;have Mr:=m16.lt;have I:w.heap.size<=l:=m_ b2.size I;have Ub:=m17.lt;have q1:S 2=(pt K):=by rw[P]; kernel_rfl
 have q2:S 3=(pt n):=by rw[P]; kernel_rfl
 have q3:S 4 = .nilFunc:=by rw[P]; kernel_rfl
 have q4:S 5=au 0:=by rw[P]; kernel_rfl
 have q5:S 6=(pt k):=by rw[P]; kernel_rfl
 have q6:S 7=(pt l):=by rw[P]; kernel_rfl
 clear P;refine sN<|Ws<|Ws ?_;refine jP [0,1,2,3,4,5] [4,0,0,4,4,4] [] fun oI dM gY => ?_;have⟨nQ,ou,qo,oP,mV,m32,oQ,nT,pY,b4⟩:=um dM m18 m20 m21 m22 m23 m24 mY m16 m17 b3;refine Rs (pt A) (aN m32.aI 0 (ha:=q1)) ?_;refine aY (pt A)<|aY (pf A 28)<|Rs (.map (some m.ab)) (aN nQ.aI 28) ?_;refine Rs (.agg (aA 2 (bH (bH (fun d=>if d<1 then au 0 else aD 0) 0 1 (fun _=>au v.o)) 1 1 (fun _=>aD v.req)))) (fG nT.aI 0 (ha:=q5)) ?_
 rcases Fx.xE m.ao m.ar m.an v.o v.req with ⟨U1,CS,CU,KW⟩|jl
 ·refine Rs aG (Fx.JU (z := .bool false) rfl rfl ((show ev _ _ = .agg (aA 2 (bH (bH (fun d=>if d<1 then au 0 else aD 0) 0 1 (fun _=>au v.o)) 1 1 (fun _=>aD v.req)))from rfl).trans (Fx.zh (y:=bH (bH (fun d=>if d<1 then au 0 else aD 0) 0 1 (fun _=>au v.o)) 1 1 (fun _=>aD v.req)) (a:=v.o) (b:=v.req) (Fx.Ah (by omega) (Fx.pW (j:=0) (by omega) (by omega) rfl)) (Fx.pW (j:=0) (by omega) (by omega) rfl))) ac.1 mV Tryz.underlying103 F9 (by rfl) CS CU KW rfl) ?_;refine bQ<|aO<|ay<|av (.nilFunc)<|av (au 14)<|aC<|Wr<|sR<|aJ (.tuple #[.nilFunc,au 14]) ?_;have C:jf m v=14:=by unfold jf; exact d_ (rO CS CU KW)
  exact⟨⟨.nilFunc,0,#[],by rw[C],rfl,fun L=>L_ (C.symm.trans L) (by first|decide|omega|assumption)⟩,b4⟩
 refine Rs aF (Fx.JR (z := .bool false) rfl rfl ((show ev _ _ = .agg (aA 2 (bH (bH (fun d=>if d<1 then au 0 else aD 0) 0 1 (fun _=>au v.o)) 1 1 (fun _=>aD v.req)))from rfl).trans (Fx.zh (y:=bH (bH (fun d=>if d<1 then au 0 else aD 0) 0 1 (fun _=>au v.o)) 1 1 (fun _=>aD v.req)) (a:=v.o) (b:=v.req) (Fx.Ah (by omega) (Fx.pW (j:=0) (by omega) (by omega) rfl)) (Fx.pW (j:=0) (by omega) (by omega) rfl))) ac.1 mV Tryz.underlying103 F9 (by rfl) jl) ?_;refine bQ<|aK<|Wk<|sN<|Ws ?_;refine jP [0,1,2,3,4,5,6,7,8,9,10,11] [1,0,0,1,1,1,0,0,0,2,3,0] [(10,0,[0]),(10,3,[3]),(10,4,[4]),(10,5,[5]),(10,9,[9]),(11,9,[9]),(11,10,[10])] fun Cw gD nC => ?_;have⟨U,rR,oU,V,mZ,W,nR,qY,X,Y⟩:=um gD nQ ou qo oP mV m32 oQ nT pY b4;refine Rd (v:=(pt A)) (by rfl) (by rfl) (rW _) (fun G u=>bA (x:=fun _=>(pt A)) rfl q1 (by kernel_rfl) (W.aI.below u (by have:=W.lt; omega)) (i:=0) (by omega) (by omega) rfl) ?_;refine aY (pt A)<|aY (pf A 27)<|Rd (v := .map (some m.gb)) (by rfl) (by rfl) (rW _) (fun G u=>bA (x:=uP m) rfl rfl (by kernel_rfl) (U.aI.below u (by have:=U.lt; omega)) (i:=27) (by omega) (by omega) rfl) ?_;refine Rd (v := .agg (aA 2 (bH (bH (fun d=>if d<1 then au 0 else aD 0) 0 1 (fun _=>au v.o)) 1 1 (fun _=>aD v.of)))) (by rfl) (by rfl) (rW _) (fun G u=>eG (x:=bH (bH (fun d=>if d<1 then au 0 else aD 0) 0 1 (fun _=>au v.o)) 1 1 (fun _=>aD v.of)) (y:=bH (bH (fun d=>if d<1 then au 0 else aD 0) 0 1 (fun _=>au v.o)) 1 1 (fun _=>aD v.of)) rfl q6 (by kernel_rfl) (by kernel_rfl) (X.aI.below u (by have:=X.lt; omega)) (i:=0) (by omega) (by omega) (fun j _=>by rw[E_])) ?_
 rcases Fx.xE (fun i=>m.g i 0) (fun i=>m.g i 1) m.gn v.o v.of with ⟨f,Q,M,N⟩|ZJ
 ·refine Rd (v := .tuple #[.agg (aA 5 (iX (m.g f))),.bool true]) (by rfl) (by rfl) (rW _) (fun G u=>Fx.Pv (z := .agg (aA 5 (fun d=>if d<1 then au 0 else if d<3 then aD 0 else if d<4 then au 0 else aD 0))) rfl rfl ((show ev _ _ = .agg (aA 2 (bH (bH (fun d=>if d<1 then au 0 else aD 0) 0 1 (fun _=>au v.o)) 1 1 (fun _=>aD v.of)))from rfl).trans (Fx.zh (y:=bH (bH (fun d=>if d<1 then au 0 else aD 0) 0 1 (fun _=>au v.o)) 1 1 (fun _=>aD v.of)) (a:=v.o) (b:=v.of) (Fx.Ah (by omega) (Fx.pW (j:=0) (by omega) (by omega) rfl)) (Fx.pW (j:=0) (by omega) (by omega) rfl))) ac.2 (V.up u) Tryz.underlying102 F9 (by kernel_rfl) Q M N rfl) ?_;refine aY (.tuple #[.agg (aA 5 (iX (m.g f))),.bool true])<|aY (.agg (aA 5 (iX (m.g f))))<|aY aG<|Bc<|wX 5 (fun d=>if d<1 then au 0 else if d<3 then aD 0 else if d<4 then au 0 else aD 0) fun D w4 eg5 nE s6 z3 => ?_;have⟨qF,rY,sJ,uV,uy,tY,uz,xH,tZ,b6⟩:=um s6.old U rR oU V mZ W nR qY X Y;have lg5:=jE eg5 Y.size;have⟨aos,aot,aou,aov,aow,aox,aoy,aoz,aoA⟩:=WJ eg5 U.lt rR.lt oU.lt V.lt mZ.lt W.lt nR.lt qY.lt X.lt;have tg5:=nE.lt;refine Ln ⟨s6.old,?_⟩;refine gK<|fH nE 0 (h1:=(fun j hj=>by rcases j with _|_|_|_|_|_|_|_|_|_|_|_|_|_|j <;> first|rfl|omega)) fun w5 sK s7 z4 => ?_
  have uf:aQ w5 D 5 (iX (m.g f)) 66:=aX sK;have ad:aQ w5 D 5 (iX (m.g f)) 66:=uf;have gN:=iC s7 nE.ty;have⟨qb,nY,tJ,m64,wS,wL,wT,wU,rZ⟩:=aaq gN qF rY sJ uV uy tY uz xH tZ;have b7:=s7.below b6 b6.size (by omega);refine Ln<|aY aG<|bQ<|Ws<|ay<|av aG<|av aF<|av aF<|av (pf D 4)<|Lv (aD ((m.g f) 4)) (aN ad.aI 4) ?_;by_cases R5:((m.g f) 4)=0
  ·refine Lv aF (jd R5)<|av aF<|aC<|aK<|Wk<|sN<|ay<|Lv (pt A) (aN wL.aI 0 (ha:=q1))<|av (pf D 2)<|Lv (aD ((m.g f) 2)) (aN ad.aI 2)<|Lv (.func (.func 178) #[] #[(pt n),(pt D)]) (Fx.nk (us := []) (vs := [(pt n),(pt D)]) rfl rfl (Fx.args2 q2 rfl))<|lK (Ve m A B _ (h.up b7) ((m.g f) 2) v (m.g f) hvo n D wT ad) ?_;rintro e9 w6 ⟨⟨aa,fi1,F4,he,ho1,hD1⟩,F⟩;refine⟨_,he,?_⟩;clear he;have⟨uW,wM,uX,zk,wN,yP,yQ,yR,wZ,wV,b8⟩:=Em F qb nY tJ m64 wS wL wT wU rZ ad b7;have bw1:Bw w6 w6:=⟨Below.refl _ _⟩;refine av (.tuple #[aa,au (dA m (fun x=>bE x v.o (m.g f 3)) (m.T.path ((m.g f) 2)))])<|av (aa)<|av (au (dA m (fun x=>bE x v.o (m.g f 3)) (m.T.path ((m.g f) 2))))<|wX 1 (fun _ => .nilFunc) fun O w7 eg6 vO s9 z5 => ?_;have⟨zG,zH,Au,Ey,Dr,Bv,b9⟩:=jM s9.old yP yQ yR wZ wV bw1 b8;have lg6:=jE eg6 b8.size;have⟨aoB,aoC,aoD,aoE,aoF,aoG,aoH,aoI,aoJ,aoK⟩:=Za eg6 uW.lt wM.lt uX.lt zk.lt wN.lt yP.lt yQ.lt yR.lt wZ.lt wV.lt;have tg6:=vO.lt;have kg6:w6.heap.size<=O:=(by rw[eg6]; exact bw1.b.size);refine jh vO 0 aa (h1:=ho1) fun w8 CJ s10 z6 => ?_;have zM:aQ w8 O 1 (fun _=>aa) 107:=dJ CJ;have jX:=iC s10 vO.ty;have⟨vY,tK,oZ,oz,qg⟩:=qV jX zG zH Au Ey Dr;have pz:=(⟨s10.below Bv.b Bv.b.size kg6⟩:Bw w6 _);have b10:=s10.below b9 b9.size (by omega);refine av (au (dA m (fun x=>bE x v.o (m.g f 3)) (m.T.path ((m.g f) 2))))<|aC<|Ws<|ay<|av (au (dA m (fun x=>bE x v.o (m.g f 3)) (m.T.path ((m.g f) 2)))) ?_;by_cases Z:(dA m (fun x=>bE x v.o (m.g f 3)) (m.T.path ((m.g f) 2)))=0
   ·refine Lv aF (jd Z)<|aC<|aK<|Wk<|sN<|ay<|Lv (.func (.func 180) #[] #[(pt O),(pt K),(pt k),(pt n),(pt D),(pt l)]) (Fx.nk (us := []) (vs := [(pt O),(pt K),(pt k),(pt n),(pt D),(pt l)]) rfl rfl (Fx.agH rfl q1 q5 q2 rfl q6))<|av (.func (.func 180) #[] #[(pt O),(pt K),(pt k),(pt n),(pt D),(pt l)])<|av (au 0)<|aC<|Wr<|aJ (.tuple #[.func (.func 180) #[] #[(pt O),(pt K),(pt k),(pt n),(pt D),(pt l)],au 0]) ?_;have J:eP m v.o v.of=f:=yE h.g.inj Q M N;have hD0:=hD1 Z;have hfe:=hD0.e;subst hfe;have em:iB m v=OL m (oF m (fun x=>bE x v.o (m.g f 3)) (m.T.path (m.g f 2))).R v f:=(by unfold iB Vj; rw[J]);rw[em];have C:jf m v=0:=by unfold jf; rw[b_ (show ¬ gQ m v.o v.req=true by unfold gQ; rw[oL jl]; decide)]; rw[b_ (show ¬ (iF m v.o v.of=false\/m.g (eP m v.o v.of) 4≠0) by rw[J,show iF m v.o v.of=true from rO Q M N]; rintro (q|q) <;> first|(exact L_ q (by decide))|omega),J]; exact Z
    exact⟨⟨_,180,#[(pt O),(pt K),(pt k),(pt n),(pt D),(pt l)],by rw[C],rfl,fun _=>⟨rfl,⟨_,_,Tryz.func180,rfl,rfl⟩,fun w2 F=>(Vh m A B w2 ((h.up b10).up F) v hv hwf _ w5.heap.size w.heap.size _ (by omega) _ (hD0.up (Jp pz.b F)) f _ _ _ _ _ _ (zM.cZ (Sb F) (t_ zM.lt)) (vY.cZ (Sb F) (t_ vY.lt)) (oZ.cZ (Sb F) (t_ oZ.lt)) (tK.cZ (Sb F) (t_ tK.lt)) (qg.cZ (Sb F) (t_ qg.lt)) (oz.cZ (Sb F) (t_ oz.lt)) lg5 ⟨by omega,by omega,by omega,by omega,by omega⟩ jl Q M N).mono fun _ _ hc=>⟨hc.1,hc.2.1,hc.2.2.mono fun _ hk=>hk⟩⟩⟩,b10⟩
   refine Lv aG (lJ Z)<|aC<|aO<|ay<|av (au (dA m (fun x=>bE x v.o (m.g f 3)) (m.T.path ((m.g f) 2))))<|av (.nilFunc)<|av (au (dA m (fun x=>bE x v.o (m.g f 3)) (m.T.path ((m.g f) 2))))<|aC<|Wr<|sR<|aJ (.tuple #[.nilFunc,au (dA m (fun x=>bE x v.o (m.g f 3)) (m.T.path ((m.g f) 2)))]) ?_;have J:eP m v.o v.of=f:=yE h.g.inj Q M N;have C:jf m v=dA m (fun x=>bE x v.o (m.g f 3)) (m.T.path ((m.g f) 2)):=by unfold jf; rw[b_ (show ¬ gQ m v.o v.req=true by unfold gQ; rw[oL jl]; decide)]; rw[b_ (show ¬ (iF m v.o v.of=false\/m.g (eP m v.o v.of) 4≠0) by rw[J,show iF m v.o v.of=true from rO Q M N]; rintro (q|q) <;> first|(exact L_ q (by decide))|omega),J]
   exact⟨⟨.nilFunc,0,#[],by rw[C],rfl,fun L=>L_ (C.symm.trans L) (by first|decide|omega|assumption)⟩,b10⟩
  refine Lv aG (lJ R5)<|av aG<|aC<|aO<|ay<|av (.nilFunc)<|av (au 12)<|aC<|Wr<|sR<|aJ (.tuple #[.nilFunc,au 12]) ?_;have J:eP m v.o v.of=f:=yE h.g.inj Q M N;have C:jf m v=12:=by unfold jf; rw[b_ (show ¬ gQ m v.o v.req=true by unfold gQ; rw[oL jl]; decide)]; exact d_ (.inr (by rw[J]; omega))
  exact⟨⟨.nilFunc,0,#[],by rw[C],rfl,fun L=>L_ (C.symm.trans L) (by first|decide|omega|assumption)⟩,b7⟩
 refine Rd (v := .tuple #[.agg (aA 5 (fun d=>if d<1 then au 0 else if d<3 then aD 0 else if d<4 then au 0 else aD 0)),.bool false]) (by rfl) (by rfl) (rW _) (fun G u=>Fx.Pt (z := .agg (aA 5 (fun d=>if d<1 then au 0 else if d<3 then aD 0 else if d<4 then au 0 else aD 0))) rfl rfl ((show ev _ _ = .agg (aA 2 (bH (bH (fun d=>if d<1 then au 0 else aD 0) 0 1 (fun _=>au v.o)) 1 1 (fun _=>aD v.of)))from rfl).trans (Fx.zh (y:=bH (bH (fun d=>if d<1 then au 0 else aD 0) 0 1 (fun _=>au v.o)) 1 1 (fun _=>aD v.of)) (a:=v.o) (b:=v.of) (Fx.Ah (by omega) (Fx.pW (j:=0) (by omega) (by omega) rfl)) (Fx.pW (j:=0) (by omega) (by omega) rfl))) ac.2 (V.up u) Tryz.underlying102 F9 (by kernel_rfl) ZJ) ?_;refine aY (.tuple #[.agg (aA 5 (fun d=>if d<1 then au 0 else if d<3 then aD 0 else if d<4 then au 0 else aD 0)),.bool false])<|aY (.agg (aA 5 (fun d=>if d<1 then au 0 else if d<3 then aD 0 else if d<4 then au 0 else aD 0)))<|aY aF<|Bc<|wX 5 (fun d=>if d<1 then au 0 else if d<3 then aD 0 else if d<4 then au 0 else aD 0) fun g7 w9 eg7 qG s11 z7 => ?_;have b11:=bG s11.old Y;have lg7:=jE eg7 Y.size;have⟨aiQ,aiR,aiS,aiT,aiU,aiV,aiW,aiX,aiY⟩:=WJ eg7 U.lt rR.lt oU.lt V.lt mZ.lt W.lt nR.lt qY.lt X.lt;have tg7:=qG.lt;refine Ln ⟨s11.old,?_⟩;refine gK<|fH qG 0 (h1:=(fun j hj=>by rcases j with _|_|_|_|_|_|_|_|_|_|_|_|_|_|j <;> first|rfl|omega)) fun tH qh s12 z8 => ?_
 have xO:aQ tH g7 5 (fun d=>if d<1 then au 0 else if d<3 then aD 0 else if d<4 then au 0 else aD 0) 66:=aX qh;have b12:=s12.below b11 b11.size (by omega);refine Ln<|aY aF<|bQ<|Ws<|ay<|av aF<|av aG<|av aG<|dw<|dw<|dw<|av aG<|aC<|aO<|ay<|av (.nilFunc)<|av (au 12)<|aC<|Wr<|sR<|aJ (.tuple #[.nilFunc,au 12]) ?_;have C:jf m v=12:=by unfold jf; rw[b_ (show ¬ gQ m v.o v.req=true by unfold gQ; rw[oL jl]; decide)]; exact d_ (.inl (oL ZJ))
 exact⟨⟨.nilFunc,0,#[],by rw[C],rfl,fun L=>L_ (C.symm.trans L) (by first|decide|omega|assumption)⟩,b12⟩
set_option maxRecDepth 20000
set_option linter.unusedVariables false
namespace Rt
noncomputable def gZ(m:dK)(v:EvM):dK:=if v.kind=1 then CV m v else if v.kind=2 then tX m v else if v.kind=3 then ko m v else if v.kind=4 then iB m v else if v.kind=5 then CQ m v else if v.kind=6 then He m v else BP m v
def fB(m:dK)(v:EvM):Int:=if v.kind=1 then iU m v else if v.kind=2 then jv m v else if v.kind=3 then jO m v else if v.kind=4 then jf m v else if v.kind=5 then kg m v else if v.kind=6 then 0 else 0
def cu(m:dK)(v:EvM):Int:=if bS v=false then 1 else if lZ m.known v=true then 14 else if cO m.known v=false then 13 else if m.inn (aL v)=false\/m.left (aL v)=true then 10 else fB m v
structure QlK(m:dK):Prop where
 own : ∀ a,a<6->0<=m.own a/\m.own a<=1000
 row : ∀ i,i<m.T.n -> ∀ p,p<54->0<=m.R i p/\m.R i p<=1125899906842624
 ga:Qz m
 kn:Dp m.known
def kfn(k:Nat):Nat:=if k=1 then 162 else if k=2 then 163 else if k=3 then 164 else if k=4 then 165 else if k=5 then 166 else if k=6 then 167 else 168
def Ga:Nat->Value:=fun p=>if p=0 then .nilFunc else .func (.func (kfn p)) #[] #[]
theorem Yb{p:Nat}(h:1<=p):Ga p = .func (.func (kfn p)) #[] #[]:=b_ (by omega)
end Rt
theorem agL {k : Nat} (h1 : 1 ≤ k) (b : k ≤ 7) : ∃ a c, Tryz.prog.funcs[kfn k]? = some a ∧ (a.name == "runtime.NumGoroutine") = false ∧ a.body = some c := by
 rcases(show k=1\/k=2\/k=3\/k=4\/k=5\/k=6\/k=7 by omega)with rfl|rfl|rfl|rfl|rfl|rfl|rfl
 ·exact⟨_,_,Tryz.func162,rfl,rfl⟩
 ·exact⟨_,_,Tryz.func163,rfl,rfl⟩
 ·exact⟨_,_,Tryz.func164,rfl,rfl⟩
 ·exact⟨_,_,Tryz.func165,rfl,rfl⟩
 ·exact⟨_,_,Tryz.func166,rfl,rfl⟩
 ·exact⟨_,_,Tryz.func167,rfl,rfl⟩
 exact⟨_,_,Tryz.func168,rfl,rfl⟩
theorem Uw.low{w:World}{B f b c d:Nat}{m g:dK}{e:Value}{cap:Array Value}(h:Uw w B f m g b e d cap)(i:c<=b):Uw w B f m g c e d cap := { h with s:=fun n j=>(h.s n j).mono fun _ _ a=>⟨a.1,a.2.1,a.2.2.mono fun k l=>l.imp id (m_ i)⟩ }
theorem Yc(m:dK)(a B:Nat)(w:World)(h:kV w B a m)(v:EvM)(d:bS v=true)(f:fZ v)(e:QlK m)(k:Nat)(l:v.kind=(k:Int))(j:1<=k/\k<=7) :
 Calls Tryz.prog (kfn k) #[(pt a),.agg (aA 14 (bR v))] w (QX w B a m (gZ m v) (fB m v)):=by
 rcases(show k=1\/k=2\/k=3\/k=4\/k=5\/k=6\/k=7 by omega)with rfl|rfl|rfl|rfl|rfl|rfl|rfl
 ·have c:v.kind=1:=by omega
  rw[show gZ m v=CV m v by unfold gZ; rw[d_ (by omega)],show fB m v=iU m v by unfold fB; rw[d_ (by omega)]];exact X6 m a B w h v d e.own
 ·have c:v.kind=2:=by omega
  rw[show gZ m v=tX m v by unfold gZ; rw[b_ (by omega),d_ (by omega)],show fB m v=jv m v by unfold fB; rw[b_ (by omega),d_ (by omega)]];exact UJ m a B w h v d c e.row
 ·have c:v.kind=3:=by omega
  rw[show gZ m v=ko m v by unfold gZ; rw[b_ (by omega),b_ (by omega),d_ (by omega)],show fB m v=jO m v by unfold fB; rw[b_ (by omega),b_ (by omega),d_ (by omega)]];exact X9 m a B w h v d f e.ga
 ·have c:v.kind=4:=by omega
  rw[show gZ m v=iB m v by unfold gZ; rw[b_ (by omega),b_ (by omega),b_ (by omega),d_ (by omega)],show fB m v=jf m v by unfold fB; rw[b_ (by omega),b_ (by omega),b_ (by omega),d_ (by omega)]];exact Ya m a B w h v d f
 ·have c:v.kind=5:=by omega
  rw[show gZ m v=CQ m v by unfold gZ; rw[b_ (by omega),b_ (by omega),b_ (by omega),b_ (by omega),d_ (by omega)],show fB m v=kg m v by unfold fB; rw[b_ (by omega),b_ (by omega),b_ (by omega),b_ (by omega),d_ (by omega)]];exact XR m a B w h v d c
 ·have c:v.kind=6:=by omega
  rw[show gZ m v=He m v by unfold gZ; rw[b_ (by omega),b_ (by omega),b_ (by omega),b_ (by omega),b_ (by omega),d_ (by omega)],show fB m v=0 by unfold fB; rw[b_ (by omega),b_ (by omega),b_ (by omega),b_ (by omega),b_ (by omega),d_ (by omega)]];obtain⟨b,g,i⟩:=GR d c;exact XT m a B w h v d b g i
 have c:v.kind=7:=by omega
 rw[show gZ m v=BP m v by unfold gZ; rw[b_ (by omega),b_ (by omega),b_ (by omega),b_ (by omega),b_ (by omega),b_ (by omega)],show fB m v=0 by unfold fB; rw[b_ (by omega),b_ (by omega),b_ (by omega),b_ (by omega),b_ (by omega),b_ (by omega)]];exact UN m a B w h v d
theorem OM(m:dK)(b B:Nat)(w:World)(h:kV w B b m)(v:EvM)(n:fZ v)(R:QlK m)(hB:1<=B)(N:iO w 0 0 8 Ga) :
 Calls Tryz.prog 40 #[(pt b),.agg (aA 14 (bR v))] w fun e w'=>QX w B b m (gZ m v) (cu m v) e w':=by
 have M:=h.c;have hT:=h.t;have hP:=h.p;have hR:=h.r;have hG:=h.g;have hA:=h.a;have hN:=h.ne;have lC:=h.c.lt;have lT:=h.t.lt;have lP:=h.p.lt;have lR:=h.r.lt;have lG:=h.g.lt;have lA:=h.a.lt;obtain⟨s,Q⟩ : ∃ s:Nat,v.kind=(s:Int):=⟨v.kind.toNat,by have:=n.kind; omega⟩;have O:Kr m.known:=fun i hi=>by have:=R.kn i hi; exact⟨by omega,by omega⟩
 refine Kent Tryz.func40 55 ?_;refine ay<|qM fun y w1 A F s1 z1 => ?_;have⟨m2,m8,H⟩:=jG s1.old M N (Below.refl w.heap.size w);have tC:=iq A;have⟨nD,zo,wP,AY,zl⟩:=Di A M.lt hP.lt hR.lt hG.lt hA.lt;have Kl:0≠y:=by rw[A]; exact t_ (N.lt (by omega))
 have uU:=F.lt;refine av (.nilFunc)<|av (au 0)<|aC<|Ws<|Wb<|ay<|av (pt b)<|Lv aF (Fx.qA rfl rfl rfl (by kernel_rfl))<|av aF<|aC<|aK<|ay<|Lv (.agg (aA 14 (bR v))) (fG F.aI 0) ?_;by_cases k:(bS v)=true
 ·have D:bS v=true:=k;obtain⟨a,ha,ho⟩ : ∃ a:Nat,a<6/\v.o=(a:Int)+1:=fq (iK D);have E:aL v=a:=by unfold aL; omega
  have hkr:=iW D;refine dP (G8 v _ n) aG (by rw[k]) ?_;intro w2 hb1;have⟨m9,m15,m16,b2⟩:=mK hb1 m2 m8 F H;refine av aF<|av aF<|aC<|aK<|Ws ?_;refine jP [0,1,2,3,4,5,6] [0,0,0,4,4,3,0] [(5,3,[3]),(5,4,[4]),(6,5,[5])] fun oI dM gY => ?_;have⟨S,m23,T,I⟩:=mK dM m9 m15 m16 b2;refine aY (pt b)<|aY (pt b)<|aY (pf b 12)<|Rs (.agg (aA 6 (rv .u64 m.known))) (fG S.aI 12 (fun j hj=>uQ (p:=j) (by omega) (by omega))) ?_;refine Rs (.agg (aA 14 (bR v))) (fG T.aI 0) ?_;refine gK ?_;by_cases l:(lZ m.known v)=true
  ·refine dP (UF m.known v _ n) aG (by rw[l]) ?_;intro w3 hb2;have b4:=bG hb2 I;refine Ln<|aY aG<|bQ<|aO<|ay<|av (.nilFunc)<|av (au 14)<|aC<|Wr<|bL<|sR<|aJ (.tuple #[.nilFunc,au 14]) ?_;have d:cu m v=14:=(by unfold cu; rw[b_ (by rw[k]; decide)]; exact d_ l);exact⟨⟨.nilFunc,0,#[],by rw[d],rfl,fun f=>L_ (d.symm.trans f) (by first|decide|omega|assumption)⟩,b4⟩
  rw[S_]at l;refine dP (UF m.known v _ n) aF (by rw[l]) ?_;intro w4 hb3;have⟨oQ,oU,rT,b5⟩:=mK hb3 S m23 T I;refine Ln<|aY aF<|bQ<|aK<|Ws ?_;refine jP [0,1,2,3,4,5,6,7] [0,0,0,4,4,3,0,0] [(5,3,[3]),(5,4,[4]),(6,5,[5]),(7,5,[5])] fun Cw gD nC => ?_;have⟨U,qF,V,J⟩:=mK gD oQ oU rT b5;refine aY (pt b)<|aY (pt b)<|aY (pf b 12)<|Rs (.agg (aA 6 (rv .u64 m.known))) (fG U.aI 12 (fun j hj=>uQ (p:=j) (by omega) (by omega))) ?_;refine Rs (.agg (aA 14 (bR v))) (fG V.aI 0) ?_;refine gK ?_;by_cases q:(cO m.known v)=true
  ·refine dP (OA m.known v _ n O) aG (by rw[q]) ?_;intro w5 hb4;have⟨rY,xH,tZ,b7⟩:=mK hb4 U qF V J;refine Ln<|aY aF<|aY aF<|bQ<|aK<|Ws<|Ws ?_;refine jP [0,1,4,5,2,3,6,7,8,9] [0,0,4,0,0,0,0,4,0,0] [] fun QV lD Ao => ?_;have⟨G,tJ,W,K⟩:=mK lD rY xH tZ b7;refine aY (pt b)<|aY (pt y)<|aY (pt b)<|aY (pt b)<|Rs (au v.o) (aN W.aI 0) ?_;refine Rp (au a) (fun _=>fU)<|Rp (pf b a) (fun _=>jD 6 1) ?_;by_cases u:(m.inn a)=true
   ·refine Rs aG (aN G.aI a ((BN (by omega)).trans (K_ Value.bool u))) ?_;refine aY aF<|aY aF<|bQ<|aK ?_;refine jP [0,1,4,5,2,3,6,7,8] [0,0,4,0,0,0,0,4,0] [] fun wt4 qm Gy => ?_;have⟨X,vN,Y,L⟩:=mK qm G tJ W K;refine aY (pt b)<|aY (pt y)<|aY (pt b)<|aY (pf b 6)<|Rs (au v.o) (aN Y.aI 0) ?_;refine Rp (au a) (fun _=>fU)<|Rp (pf b (a+6)) (fun _=>jD 6 1) ?_;by_cases x:(m.left a)=true
    ·refine Rs aG (aN X.aI (a+6) ((AV (p:=a) (by omega) (by omega)).trans (K_ Value.bool x))) ?_;refine aY aG<|bQ<|aO<|ay<|av (.nilFunc)<|av (au 10)<|aC<|Wr<|bL<|sR<|aJ (.tuple #[.nilFunc,au 10]) ?_;have d:cu m v=10:=(by unfold cu; rw[b_ (by rw[k]; decide)]; rw[b_ (by rw[l]; decide)]; rw[b_ (by rw[q]; decide)]; exact d_ (.inr (by rw[E]; exact x)));exact⟨⟨.nilFunc,0,#[],by rw[d],rfl,fun f=>L_ (d.symm.trans f) (by first|decide|omega|assumption)⟩,L⟩
    rw[S_]at x;refine Rs aF (aN X.aI (a+6) ((AV (p:=a) (by omega) (by omega)).trans (K_ Value.bool x))) ?_;refine aY aF<|bQ<|aK<|Wk<|bO<|sN<|Ws ?_;refine jP [0,4,1,2,3,5,6,7,8,9,10] [0,4,0,4,0,4,3,0,0,0,0] [(6,1,[3,2,1]),(6,3,[3]),(6,5,[5]),(7,6,[6]),(8,6,[6]),(9,6,[6]),(10,6,[6])] fun wt5 zi R9 => ?_;have⟨wZ,Z,z⟩:=jG zi vN Y L;refine aY (pf y 8)<|aY (pt b)<|Rs (.int .u8 (s:Int)) (aN Z.aI 8 (K_ (Value.int IntKind.u8) Q)) ?_;refine Rp (pf 0 s) (fun _=>jD 8 1)<|Rs (.func (.func (kfn s)) #[] #[]) (aN wZ s (Yb (by omega))) ?_;refine Rs (.agg (aA 14 (bR v))) (fG Z.aI 0) ?_;refine gK<|Bb (by rfl) (Fx.Ow (args := [(pt b),.agg (aA 14 (bR v))]) rfl rfl rfl (by rfl) (agL (by omega) (by omega))) rfl<|(Yc m b B _ (h.up z) v D n R s Q (by omega)).mono ?_;rintro e9 w6 ⟨⟨C,fi1,F4,P,ho1,hD1⟩,hb5⟩;refine⟨_,P,?_⟩;clear P;have aa:=bG hb5 z;refine Ln<|aY (C)<|aY (au (fB m v))<|aY (C)<|aY (au (fB m v))<|bQ<|Wr<|aJ (.tuple #[C,au (fB m v)]) ?_;have d:cu m v=fB m v:=(by unfold cu; rw[b_ (by rw[k]; decide)]; rw[b_ (by rw[l]; decide)]; rw[b_ (by rw[q]; decide)]; exact b_ (by rw[E,u,x]; decide));exact⟨⟨_,_,_,by rw[d],ho1,fun f=>(hD1 (d.symm.trans f)).low z.size⟩,aa⟩
   rw[S_]at u;refine Rs aF (aN G.aI a ((BN (by omega)).trans (K_ Value.bool u))) ?_;refine aY aG<|aY aG<|bQ<|aO<|Wk<|sN<|aO<|ay<|av (.nilFunc)<|av (au 10)<|aC<|Wr<|bL<|sR<|aJ (.tuple #[.nilFunc,au 10]) ?_;have d:cu m v=10:=(by unfold cu; rw[b_ (by rw[k]; decide)]; rw[b_ (by rw[l]; decide)]; rw[b_ (by rw[q]; decide)]; exact d_ (.inl (by rw[E]; exact u)));exact⟨⟨.nilFunc,0,#[],by rw[d],rfl,fun f=>L_ (d.symm.trans f) (by first|decide|omega|assumption)⟩,K⟩
  rw[S_]at q;refine dP (OA m.known v _ n O) aF (by rw[q]) ?_;intro w7 hb6;have ab:=bG hb6 J;refine Ln<|aY aG<|aY aG<|bQ<|aO<|ay<|av (.nilFunc)<|av (au 13)<|aC<|Wr<|bL<|sR<|aJ (.tuple #[.nilFunc,au 13]) ?_;have d:cu m v=13:=by unfold cu; rw[b_ (by rw[k]; decide)]; rw[b_ (by rw[l]; decide)]; exact d_ q
  exact⟨⟨.nilFunc,0,#[],by rw[d],rfl,fun f=>L_ (d.symm.trans f) (by first|decide|omega|assumption)⟩,ab⟩
 rw[S_]at k;refine dP (G8 v _ n) aF (by rw[k]) ?_;intro w8 hb7;have ac:=bG hb7 H;refine av aG<|av aG<|aC<|aO<|ay<|av (.nilFunc)<|av (au 1)<|aC<|Wr<|bL<|sR<|aJ (.tuple #[.nilFunc,au 1]) ?_;have d:cu m v=1:=by unfold cu; exact d_ k
 exact⟨⟨.nilFunc,0,#[],by rw[d],rfl,fun f=>L_ (d.symm.trans f) (by first|decide|omega|assumption)⟩,ac⟩
set_option maxRecDepth 20000
set_option linter.unusedVariables false
namespace Rt
noncomputable def fO(m:dK)(v:EvM):dK:=if cu m v=0 then { gZ m v with known:=aH (gZ m v).known (aL v) ((gZ m v).known (aL v)+1) } else m
theorem KX(m:dK)(v:EvM):(gZ m v).known=m.known:=by
 unfold gZ
 repeat (first|rfl|split)
def Fv:Nat->Int:=fun _=>0
def aZ(m:dK)(k:Int):Nat->Int:=if m.T.has k=true then CW m k else Fv
end Rt
theorem kV.known{w w':World}{B d:Nat}{m:dK}{K:Nat->Int}(h:kV w B d m)(f:Stp d w w')(e:aQ w' d 29 (uP { m with known:=K }) 106):kV w' B d { m with known:=K }:=by
 have b:=iC f h.c.ty;exact { c:=e,t:=h.t.kr b (by decide),p:=h.p.kr b trivial,r:=h.r.kr b trivial,g:=h.g.kr b trivial,a:=h.a.kr b trivial,ne:=⟨h.ne.mp,h.ne.mr,h.ne.mg,h.ne.ma,h.ne.pr,h.ne.pg,h.ne.pa,h.ne.rg,h.ne.ra,h.ne.ga⟩,lB:=h.lB,pB:=h.pB,rB:=h.rB,gB:=h.gB,aB:=h.aB }
theorem pI{m:dK}{v:EvM}(h:cu m v=0):bS v=true:=by
 cases hc:bS v with
 | true=>rfl
 | false=>unfold cu at h; rw[d_ hc]at h; cases h
theorem pJ{m:dK}{v:EvM}(h:cu m v=0):v.seq=m.known (aL v)+1/\fB m v=0/\m.inn (aL v)=true/\m.left (aL v)=false:=by
 have d:=pI h;unfold cu at h;rw[b_ (by rw[d]; decide)]at h;by_cases c:lZ m.known v=true
 ·rw[d_ c]at h; cases h
 rw[b_ c]at h;by_cases a:cO m.known v=false
 ·rw[d_ a]at h; cases h
 rw[b_ a]at h;by_cases b:m.inn (aL v)=false\/m.left (aL v)=true
 ·rw[d_ b]at h; cases h
 rw[b_ b]at h;refine⟨?_,h,?_,?_⟩
 ·have a:cO m.known v=true:=by cases e:cO m.known v with|true=>rfl|false=>exact L_ e a
  unfold cO at a;simp only[R_,O_]at a;exact a.1.2
 ·cases e:m.inn (aL v)with|true=>rfl|false=>exact L_ (.inl e) b
 cases e:m.left (aL v)with|false=>rfl|true=>exact L_ (.inr e) b
theorem aoL(m:dK)(b B:Nat)(w:World)(h:kV w B b m)(v:EvM)(D:fZ v)(C:QlK m)(s:1<=B)(j:iO w 0 0 8 Ga) :
 Calls Tryz.prog 22 #[(pt b),.agg (aA 14 (bR v))] w fun e G=>e = .returned (au (cu m v))/\Below w.heap.size w G:=by
 have u:=h.c;have M:=h.t;have y:=h.p;have z:=h.r;have x:=h.g;have q:=h.a;have L:=h.ne;have P:=h.c.lt;have T:=h.t.lt;have R:=h.p.lt;have S:=h.r.lt;have Q:=h.g.lt;have O:=h.a.lt;refine Kent Tryz.func22 14 ?_;refine ay<|qM fun o w1 d l F z1 => ?_;have⟨E,i⟩:=eZ F.old j (Below.refl w.heap.size w);have U:=iq d;have⟨V,W,X,Y,Z⟩:=Di d u.lt y.lt z.lt x.lt q.lt;have aa:0≠o:=by rw[d]; exact t_ (j.lt (by omega))
 have ab:=l.lt;refine av (au 0)<|aC<|ay<|av (pt b)<|Lv (.agg (aA 14 (bR v))) (fG l.aI 0)<|lK (OM m b B _ (h.up i) v D C s E) ?_;rintro I w2 ⟨⟨f,J,H,k,N,K⟩,A⟩;refine⟨_,k,?_⟩;clear k;have n:=bG A i;refine av (.tuple #[f,au (cu m v)])<|av (f)<|av (au (cu m v))<|av (f)<|av (au (cu m v))<|aC<|ay<|av (au (cu m v))<|av (au (cu m v))<|aC<|Wr<|aJ (au (cu m v)) ?_;exact⟨rfl,n⟩
theorem Yd(m:dK)(b B:Nat)(w:World)(h:kV w B b m)(v:EvM)(hwf:fZ v)(M:QlK m)(hB:1<=B)(I:iO w 0 0 8 Ga) :
 Calls Tryz.prog 15 #[(pt b),.agg (aA 14 (bR v))] w fun e S=>e = .returned (au (cu m v))/\kV S B b (fO m v)/\jL (MV m b w.heap.size) w S:=by
 have F:=h.c;have hT:=h.t;have hP:=h.p;have hR:=h.r;have hG:=h.g;have Z:=h.a;have hN:=h.ne;have lC:=h.c.lt;have lT:=h.t.lt;have lP:=h.p.lt;have lR:=h.r.lt;have lG:=h.g.lt;have lA:=h.a.lt;refine Kent Tryz.func15 30 ?_;refine ay<|qM fun E w1 x D s1 z1 => ?_;have⟨d,m8,l⟩:=jG s1.old F I (Below.refl w.heap.size w);have tC:=iq x;have⟨nD,zo,wP,AY,zl⟩:=Di x F.lt hP.lt hR.lt hG.lt Z.lt;have Kl:0≠E:=by rw[x]; exact t_ (I.lt (by omega))
 have uU:=D.lt;refine av (au 0)<|aC<|ay<|av (pt b)<|Lv (.agg (aA 14 (bR v))) (fG D.aI 0)<|lK (OM m b B _ (h.up l) v hwf M hB m8) ?_;rintro W w2 ⟨⟨z,Y,V,j,ho1,hD1⟩,hb1⟩;refine⟨_,j,?_⟩;clear j;have⟨O,n⟩:=eZ hb1 D l;refine av (.tuple #[z,au (cu m v)])<|av (z)<|av (au (cu m v))<|av (z)<|av (au (cu m v))<|aC<|Ws<|ay<|av (au (cu m v)) ?_;by_cases i:(cu m v)=0
 ·refine Lv aF (jd i)<|aC<|aK<|Wk<|sN<|Ws ?_;have A:=hD1 i;have hfe:=A.e;subst hfe;refine Wl<|av (.func (.func Y) #[] V)<|Bb (by rfl) (Fx.Ow (args := []) rfl rfl rfl (by simp) A.f) rfl<|(A.s _ (Below.refl _ _)).mono ?_;rintro W u ⟨j,C,G⟩;refine⟨_,j,?_⟩;clear j;have J:jL (MV m b w.heap.size) w u:=(Fx.jL.of_below n) |> fun q=>Fx.jL.trans _ _ _ q (G.mono fun k hk=>hk.imp id (m_ l.size));obtain⟨d,y⟩ : ∃ q,q=gZ m v:=⟨_,rfl⟩;rw[<- y]at C;have X:d.known=m.known:=by rw[y,KX]
  have H:=C.c;have lC2:=H.lt;have hkb:=(pJ i).1;have N:=pI i;obtain⟨a,K,ho⟩ : ∃ a:Nat,a<6/\v.o=(a:Int)+1:=fq (iK N);have hra:aL v=a:=by unfold aL; omega
  have hbd:=nN N;have hka:=M.kn a K;have P:=(h.up n).Jb (w':=u) (O) (by decide) G (by have:=O.lt; have:=l.size; omega);have avQ:=P.lt;refine aC<|Ws ?_;refine jP [0,1,4,5,9,10,2,3,6,7,8,11,12] [0,0,4,0,0,0,0,4,0,0,0,0,3] [(12,2,[2]),(12,7,[7])] fun oI L gY => ?_;have s3:Stp u.heap.size u oI:=Sb L;have⟨Q,m19,m20⟩:=jG L H C P;have T:=J.then s3 (.inr J.size);refine aY (pt b)<|aY (pt E)<|aY (pt b)<|aY (pf b 12)<|aY (pt b)<|aY (pf b 12)<|Rs (au v.o) (aN m20.aI 0) ?_;refine Rp (au a) (fun _=>fU)<|Rp (pf b (a+12)) (fun _=>jD 6 1)<|Rs (aD (d.known a)) (aN Q.aI (a+12) (uQ (p:=a) (by omega) (by omega))) ?_;refine Rp (aD (d.known a+1)) (fun v1=>Fx.JA rfl rfl rfl (jJ (by rw[X]; omega) rfl))<|Rp (pf b (a+12)) (fun _=>jD 6 1)<|gK<|jh Q (a+12) (aD (d.known a+1)) fun w4 m21 R z2 => ?_;have m22:aQ w4 b 29 (uP { d with known:=aH d.known a (d.known a+1) }) 106:=m21.to (Qp K (by omega) _);have U:=T.then R (.inl (.inl (.inl rfl)));refine Ln (bQ (ay (av (au 0) (aC (Wr (aJ (au 0) (⟨by rw[i],?_,U⟩)))))));rw[show fO m v = { d with known:=aH d.known a (d.known a+1) } by unfold fO; rw[d_ i,<- y,hra]];exact m19.known R m22
 refine Lv aG (lJ i) (aC (aO (ay (av (au (cu m v)) (av (au (cu m v)) (aC (Wr (sR (aJ (au (cu m v)) (⟨rfl,?_,Fx.jL.of_below n⟩))))))))));rw[show fO m v=m by unfold fO; exact b_ i]; exact h.up n
set_option maxRecDepth 20000
set_option linter.unusedVariables false
namespace Rt
def xW(k f c d e b a:Nat):dK := { inn:=fun i=>decide (i<k),left:=fun _=>false,known:=fun _=>0,own:=fun _=>0,T:=dL.zero,R:=fun _ _=>0,gn:=0,g:=fun _ _=>0,an:=0,ao:=fun _=>0,ar:=fun _=>0,tp:=f,mb:=c,pb:=d,rb:=e,gb:=b,ab:=a }
end Rt
theorem Vk(k g c d f b a:Nat)(h:k<6):dB (uP (xW k g c d f b a)) k (.bool true)=uP (xW (k+1) g c d f b a):=by
 rw[Uu h];have:aH (xW k g c d f b a).inn k true=(xW (k+1) g c d f b a).inn:=by
  funext i
  show(if i=k then true else decide (i<k))=decide (i<k+1);by_cases e:i=k
  ·subst e; rw[d_ rfl]; exact(f_ (by omega)).symm
  ·rw[b_ e]; exact decide_eq_decide.2 (by omega)
 show uP { xW k g c d f b a with inn:=_ }=_;rw[this]; rfl
theorem Ye(m:dK)(f B:Nat)(w:World)(h:kV w B f m)(i b:Int)(hi : -9223372036854775808<=i/\i<=9223372036854775807) :
 Calls Tryz.prog 19 #[(pt f),au i,aD b] w fun e C=>e = .returned (au (fI (aZ m b) i))/\Below w.heap.size w C:=by
 have v:=h.c;have H:=h.t;have G:=h.p;have o:=h.r;have E:=h.g;have D:=h.a;have F:=h.ne;have J:=h.c.lt;have N:=h.t.lt;have L:=h.p.lt;have M:=h.r.lt;have K:=h.g.lt;have I:=h.a.lt;refine Kent Tryz.func19 17 ?_;refine ay<|av (au 0)<|aC<|Ws<|ay<|av (pt f)<|Lv aF (Fx.qA rfl rfl rfl (by kernel_rfl))<|aC<|aK<|Wk<|sN<|ay<|av (pt f)<|av (pt f)<|av (pf f 20)<|Lv (.map (some m.rb)) (aN v.aI 20)<|av (aD b) ?_
 rcases Fx.qX m.T.x m.T.n b with ⟨d,l,j⟩|jl
 ·refine Lv (.agg (aA 54 (rv .i64 (m.R d)))) (Fx.vI (z := .agg (aA 54 (rv .i64 (fun _=>0)))) rfl rfl rfl o Tryz.underlying101 Tryz.underlying28 (by kernel_rfl) l j rfl)<|av (au i)<|dP (vR (m.R d) i _ hi) _ rfl ?_;intro O y;have s:=bG y (Below.refl w.heap.size w);refine av (au (fI (m.R d) i))<|aC<|Wr<|aJ (au (fI (m.R d) i)) ?_;have k:aZ m b=m.R d:=by unfold aZ CW; rw[d_ (show m.T.has b=true from jB l j),show m.idx b=d from mG h.t.inv.inj l j]
  exact⟨K_ (fun q=>Ending.returned (Value.int .i64 (fI q i))) k.symm,s⟩
 refine Lv (.agg (aA 54 (rv .i64 (fun _=>0)))) (Fx.NQ (z := .agg (aA 54 (rv .i64 (fun _=>0)))) rfl rfl rfl o Tryz.underlying101 Tryz.underlying28 (by kernel_rfl) jl)<|av (au i)<|dP (vR (fun _=>0) i _ hi) _ rfl ?_;intro P A;have u:=bG A (Below.refl w.heap.size w);refine av (au (fI (fun _=>0) i))<|aC<|Wr<|aJ (au (fI (fun _=>0) i)) ?_;have k:aZ m b=Fv:=by unfold aZ; exact b_ (by rw[show m.T.has b=false from yj jl]; decide)
 exact⟨K_ (fun q=>Ending.returned (Value.int .i64 (fI q i))) k.symm,u⟩
theorem agM(k:Nat)(hk:1<=k/\k<=6)(w:World) :
 Calls Tryz.prog 14 #[au (k:Int)] w fun e w' => ∃ W m,e = .returned (.tuple #[(pt W),au 0])/\(∃ tp mb pb rb gb ab,m=xW k tp mb pb rb gb ab)/\kV w' w.heap.size W m/\Below w.heap.size w w':=by
 refine Kent Tryz.func14 30 ?_;refine ay<|av (.pointer none)<|av (au 0)<|aC<|Ws<|ay<|av (au k)<|Lv aF Gq<|av aF<|av (au k)<|Lv aF xB<|av aF<|aC<|aK<|Wk<|sN<|ay<|lK (Zq _) ?_;rintro e9 w1 ⟨n,x,V,hg1,X,hb1⟩;refine⟨_,V,?_⟩;clear V;have J:=bG hb1 (Below.refl w.heap.size w);have m2:ru w1 (w.heap.size) n x dL.zero:=X.weak (Below.refl w.heap.size w).size;clear X hg1;refine Fx.L.JM (by rfl) rfl rfl fun o w2 Q G s2 z1 => ?_;have⟨m4,K⟩:=eZ s2.old m2 J;have tC:=jE Q J.size;have adp:=cK Q m2.lt;have uU:=G.lt;refine Fx.L.JM (by rfl) rfl rfl fun q w3 R H s3 z2 => ?_;have⟨m6,m7,M⟩:=jG s3.old m4 G K;have rU:=jE R K.size;have⟨adq,TA⟩:=xD R m4.lt G.lt;have Av:=H.lt;refine Fx.L.RF (by rfl) rfl rfl fun s w4 S I s4 z3 => ?_;have⟨m9,Y,Z,N⟩:=mK s4.old m6 m7 H M;have Es:=jE S M.size;have⟨adr,aoM,adj⟩:=JL S m6.lt m7.lt H.lt;have Mr:=I.lt;refine Fx.L.RF (by rfl) rfl rfl fun u w5 T E s5 z4 => ?_;have⟨m13,aa,ac,ad,O⟩:=wR s5.old m9 Y Z I N;have Wn:=jE T N.size;have⟨ads,adn,ado,aoN⟩:=aar T m9.lt Y.lt Z.lt I.lt;have Ub:=E.lt;refine av (.agg (aA 29 (bH (bH (bH (bH (bH (fun d=>if d<12 then .bool false else if d<18 then aD 0 else if d<19 then .pointer none else if d<21 then .map none else if d<27 then au 0 else .map none) 18 1 (fun _=>(pt n))) 19 1 (fun _ => .map (some o))) 20 1 (fun _ => .map (some q))) 27 1 (fun _ => .map (some s))) 28 1 (fun _ => .map (some u)))))<|Dz (m:=29) (y:=bH (bH (bH (bH (bH (fun d=>if d<12 then .bool false else if d<18 then aD 0 else if d<19 then .pointer none else if d<21 then .map none else if d<27 then au 0 else .map none) 18 1 (fun _=>(pt n))) 19 1 (fun _ => .map (some o))) 20 1 (fun _ => .map (some q))) 27 1 (fun _ => .map (some s))) 28 1 (fun _ => .map (some u))) (by rfl) rfl rfl (bI _ _) rfl fun b w6 U ae s6 z5 => ?_;have⟨m18,m19,m20,m21,m22,b6⟩:=sV s6.old m13 aa ac ad E O;have lg5:=jE U O.size;have⟨aoO,aoP,aoQ,aoR⟩:=aar U aa.lt ac.lt ad.lt E.lt;have tg5:=ae.lt;have l:QlN (xW 0 n x o q s u):=⟨adp,adq,adr,ads,by assumption,by assumption,by assumption,by assumption,by assumption,by assumption⟩;have m23:aQ w6 b 29 (uP (xW 0 n x o q s u)) 106:=ae.congr (fun j hj=>match j,hj with|0,_=>rfl|1,_=>rfl|2,_=>rfl|3,_=>rfl|4,_=>rfl|5,_=>rfl|6,_=>rfl|7,_=>rfl|8,_=>rfl|9,_=>rfl|10,_=>rfl|11,_=>rfl|12,_=>rfl|13,_=>rfl|14,_=>rfl|15,_=>rfl|16,_=>rfl|17,_=>rfl|18,_=>rfl|19,_=>rfl|20,_=>rfl|21,_=>rfl|22,_=>rfl|23,_=>rfl|24,_=>rfl|25,_=>rfl|26,_=>rfl|27,_=>rfl|28,_=>rfl|j+29,h=>L_ h (by omega))
 refine av (pt b)<|aC<|Ws<|ay<|av (au k)<|av (au 0)<|aC<|Wb<|Wo (fun f z => ∃ i:Nat,i<=k/\f 4=(pt b)/\f 19=au (k:Int)/\f 20=au (i:Int)/\ru z (w.heap.size) n x dL.zero/\Mp z o 0 (fun _=>0) (fun _ => .pointer none)/\Mp z q 0 (fun _=>0) (fun _ => .pointer none)/\ig z s 0 (fun _=>0) (fun _=>0) (fun _ => .pointer none)/\ig z u 0 (fun _=>0) (fun _=>0) (fun _ => .pointer none)/\aQ z b 29 (uP (xW i n x o q s u)) 106/\Below w.heap.size w z) (fun f _=>((k:Int)-intOf (f 20)).toNat) ⟨0,(by omega),(by rfl),Fx.ic,Fx.ic,m18,m19,m20,m21,m22,m23,b6⟩ ?_;rintro f1 w7 ⟨i,v,C,D,A,m24,mY,nQ,oJ,ou,F,B⟩;refine ay ?_;by_cases P:(i:Int)<(k:Int)
 ·refine Lv aG (gI P (hx:=A) (hy:=D))<|aC<|Ws<|aO<|Wk<|sN<|Ws<|Wb<|ay<|aS A<|av (au i)<|aC<|Wl<|aS C<|av (au i)<|av (pt b)<|av (pt b)<|Lv (pf b i) (jD 6 1)<|jh F i aG fun w8 oP s7 z6 => ?_;have mV:aQ w8 b 29 (uP (xW (i+1) n x o q s u)) 106:=oP.to (Vk i _ _ _ _ _ _ (by omega));have gN:=iC s7 F.ty;have⟨m32,oQ,nT,pY,qD⟩:=qV gN m24 mY nQ oJ ou;have b8:=s7.below B B.size (by omega);refine Ln<|bO<|sN<|Wl<|Lv (au ((i:Int)+1)) (eT (hx:=A))<|av (au ((i:Int)+1))<|Ln<|gH ⟨i+1,(by omega),C,(D.trans Fx.ic),Fx.ic,m32,oQ,nT,pY,qD,mV,b8⟩ ?_;show((k:Int)-intOf (au ((i:Int)+1))).toNat<_;simp only[A,intOf]; omega
 refine Lv aF (gJ P (hx:=A) (hy:=D))<|aC<|Ws<|aK<|Wx<|bY<|gG<|bZ<|sN<|ay<|aS C<|av (pt b)<|av (au 0)<|aC<|Wr<|aJ (.tuple #[(pt b),au 0]) ?_;have eik:i=k:=by omega
 subst eik;exact⟨b,xW i n x o q s u,rfl,⟨_,_,_,_,_,_,rfl⟩,{ c:=F,t:=m24,p:=mY.sZ fun i v=>L_ v (u_ _),r:=nQ.sZ fun i v=>L_ v (u_ _),g:=oJ.sZ fun i v=>L_ v (u_ _),a:=ou.sZ fun i v=>L_ v (u_ _),ne:=⟨l.mp,l.mr,l.mg,l.ma,l.pr,l.pg,l.pa,l.rg,l.ra,l.ga⟩,lB:=lg5,pB:=tC,rB:=rU,gB:=Es,aB:=Wn },B⟩
end Go.Proofs.YtahbiajdgealnaaGreatDoor
namespace Go.Proofs.YtahbiajdgealnaaGreatDoor.Fx
open Go.RowKit Go.Shelf Go.Sort Go.Lib
def kF(a b:Int):Int:=if a<b then -1 else if b<a then 1 else 0
theorem OO(a b:Int):kF a b<0<->a<b:=by
 unfold kF;split
 ·simp_all
 split <;> simp_all
theorem Yf{c:Type}(ky:c->Int):SWO (ltOf fun x y=>kF (ky x) (ky y)):=by
 have e : ∀ x y,(ltOf fun x y=>kF (ky x) (ky y)) x y=decide (ky x<ky y):=fun x y=>by
  unfold ltOf;exact decide_eq_decide.2 (OO _ _)
 refine⟨fun x => ?_,fun x y z a b => ?_,fun x y z a b => ?_⟩ <;> simp only[e,decide_eq_true_eq,decide_eq_false_iff_not]at * <;> omega
end Go.Proofs.YtahbiajdgealnaaGreatDoor.Fx
namespace Go.Proofs.YtahbiajdgealnaaGreatDoor.Fx
open Go.RowKit Go.Shelf Go.Sort Go.Lib
theorem KY{w:World}{B g cap m N s:Nat}{E:TypeId}(a:Array Value)(os:Array Obj){x:Nat->Value}(h:Own w B E s (.slice (some ⟨g,0,none⟩) m cap) m x)(f:a.size=m*s) :
 Own (sortWorld id w g 0 N a os) B E s (.slice (some ⟨g,0,none⟩) m cap) m (fun q=>a[q]!)/\Stp g w (sortWorld id w g 0 N a os):=by
 rcases h.2 with ⟨b,_⟩|⟨g',cap',cur,b,hB,hg,hn,hm,hs,ht⟩
 ·cases b
 simp only[Value.slice.injEq,Option.some.injEq,Addr.mk.injEq]at b;obtain⟨⟨rfl,_⟩,_,rfl⟩:=b;have n:g<w.heap.size:=(Array.getElem?_eq_some_iff.1 hg).1;have d:(sortWorld id w g 0 N a os).heap=(w.heap.modify g (onCells (putCells id 0 a)))++os:=rfl;have e : ∀ k,k<w.heap.size->(sortWorld id w g 0 N a os).heap[k]? = (w.heap.modify g (onCells (putCells id 0 a)))[k]? := fun k c=>by
  rw[d,Array.getElem?_append_left (by simpa using c)]
 have p:m*s<=cap*s:=Nat.mul_le_mul_right s hn;refine⟨⟨by simp,.inr ⟨g,cap,putCells id 0 a cur,rfl,hB,?_,hn,hm,?_,?_⟩⟩,⟨rfl,rfl,rfl,by rw[d]; simp,fun k c o => ?_⟩⟩
 ·rw[e g n,Array.getElem?_modify,d_ rfl,hg]; rfl
 ·simp[putCells,hs]
 ·apply List.ext_getElem?;intro i;by_cases j:i<m*s
  ·have l:i<cur.size:=(by omega);rw[List.getElem?_take_of_lt (by omega),Array.getElem?_toList];unfold putCells;rw[Array.getElem?_mapIdx,Array.getElem?_eq_getElem l];simp[j,f]
  rw[List.getElem?_eq_none (by simp; omega),List.getElem?_eq_none (by simp; omega)]
 rw[e k c,Array.getElem?_modify,b_ (Ne.symm o)]
theorem Ni{w:World}{B g cap m s:Nat}{E:TypeId}(d:Array Value){x:Nat->Value}(h:Own w B E s (.slice (some ⟨g,0,none⟩) m cap) m x)(n:d.size=m*s)(hx : ∀ q,q<m*s->x q=d[q]!)(i:0<m) :
 Holds id w g 0 d/\g<w.heap.size:=by
 obtain⟨l,k,e,_,f,_,c⟩:=h.form i
 rcases h.2 with ⟨a,_⟩|⟨g2,cap2,cur,a,hB,hg,hn,hm,hs,ht⟩
 ·cases a
 simp only[Value.slice.injEq,Option.some.injEq,Addr.mk.injEq]at a e;obtain⟨⟨rfl,_⟩,_,rfl⟩:=a;obtain⟨⟨rfl,_⟩,_,rfl⟩:=e;refine⟨fun j o=>⟨?_,?_⟩,f⟩
 ·have b:=c j (by omega);rw[b,hx j (by omega)]; rfl
 simp[World.frozen?,hg]
theorem Hr{a:Type} [Inhabited a]{s:Nat}{enc:a->Nat->Value}{e0:a}{l:List a}(f:0<s) : ∀ q,q<l.length*s->flat s (fun k=>enc (l.getD k e0)) q=(Go.Sort.flatK (fun x=>(List.range s).map (enc x)) s l.toArray)[q]! := fun q b=>by
 have d:q / s<l.length:=Nat.div_lt_of_lt_mul (by rw[Nat.mul_comm]; exact b);have e:q % s<s:=I_ _ f;rw[Go.Sort.get_flatK _ _ _ q (by simpa using b)];unfold flat;have c:l.toArray[q / s]! = l.getD (q / s) e0:=by simp[d]
 rw[c];simp[e]
theorem Vl{P:Program}{ρ:Ren}(I:SlLaysF0.n6 P ρ){p:Nat}(U : ∀ J w,(callFunc p J).run P w = .ok (.enter p J) w){w:World}{B cap s:Nat}{a:Option Addr}{E:TypeId}(L:0<s)
 (S : ∀ w,(isAgg (ρ.t 24)).run P w = .ok true w) (zE : ∀ w,(Go.sizeOf (ρ.t 24)).run P w = .ok s w) {o:Type} [Inhabited o] {enc:o->Nat->Value} {e0:o} (h1 : ∀ x j,j<s->(enc x j).oneCell'=true) {ky:o->Int} {l:List o}
 (h:Own w B E s (.slice a l.length cap) l.length (flat s fun q=>enc (l.getD q e0)))
 (Y : ∀ O x y,Calls P p #[.agg (aA s (enc x)),.agg (aA s (enc y))] O fun e c=>e = .returned (.int .i64 (kF (ky x) (ky y))) /\ ∃ q os',c=grow (O.drewN q) os') (hm:l.length<4611686018427387904) :
 Calls P (ρ.f 6) #[.slice a l.length cap,.func (.func p) #[] #[]] w fun e c=>e = .returned (.tuple #[]) /\ ∃ H:List o,H.Perm l/\H.Pairwise (fun x y=>ky x<=ky y)/\Own c B E s (.slice a l.length cap) l.length (flat s fun q=>enc (H.getD q e0))/\(∀ k,k<w.heap.size->(Value.slice a l.length cap).ownBlock≠some k->c.heap[k]? = w.heap[k]?)/\iQ [E] w c/\Below B w c:=by
 by_cases V:l.length=0
 ·have F:l = []:=List.length_eq_zero_iff.1 V;subst F;refine(AnyF.slices_SortFunc_none I a cap _ w).mono ?_;rintro e c ⟨D,rfl⟩;exact⟨D,[],List.Perm.refl _,List.Pairwise.nil,h,fun _ _ _=>rfl,vH _,Below.refl _ _⟩
 obtain⟨g,c2,u,hB,hg,hmc,_⟩:=h.form (by omega);simp only[Value.slice.injEq]at u;obtain⟨rfl,_,rfl⟩:=u;have A : ∀ x,((fun x=>(List.range s).map (enc x)) x).length=s:=fun x=>by simp
 have hsz:(Go.Sort.flatK (fun x=>(List.range s).map (enc x)) s l.toArray).size=l.length*s:=by simp
 obtain⟨X,F⟩:=Ni _ h hsz (Hr L) (by omega);have hty:Ty w g E:=h.ty rfl;have C : ∀ x,((List.range s).map (enc x)).toArray=aA s (enc x):=fun x=>by
  apply Array.ext
  ·simp[bW]
  ·intro i h1 W;have m:i<s:=(by simpa using h1);have:=fM (enc x) m;rw[Array.getElem?_eq_getElem W]at this;rw[B_ this]; simp
 have K:=AnyQ.slices_SortFunc I s S zE (fun x=>(List.range s).map (enc x)) A (fun x v C=>by
  obtain⟨j,z,rfl⟩:=List.mem_map.1 C;exact h1 x j (N_.1 z)) (fun x y=>kF (ky x) (ky y)) (Yf _) p #[] g 0 cap l.toArray w U
  (fun N r dk hdk x y=>by rw[C,C]; exact Y _ x y) X F (by simpa using hm)
 rw[show l.toArray.size=l.length by simp]at K;refine K.mono ?_;rintro e c ⟨D,b,N,r,⟨n,_,M⟩,hso,rfl⟩;have n:b.size=l.length:=by simpa using n
 have hw:sortWorldK (fun x=>(List.range s).map (enc x)) s w g 0 N b r=sortWorld id w g 0 N (Go.Sort.flatK (fun x=>(List.range s).map (enc x)) s b) r:=rfl;rw[hw];obtain⟨o1,d⟩:=KY (N:=N) (Go.Sort.flatK (fun x=>(List.range s).map (enc x)) s b) r h (by simp[n]);have u:(b.extract 0 l.length).toList=b.toList:=by
  rw[<- n]; simp
 have T:(l.toArray.extract 0 l.length).toList=l:=by simp
 rw[u,T]at M;refine⟨D,b.toList,M,?_,?_,fun k A hne=>d.block k A (fun e=>hne (by rw[e]; rfl)),iC d hty,⟨d.os,d.tape,d.output,d.size,fun k A=>d.block k (by omega) (by omega)⟩⟩
 ·rw[List.pairwise_iff_getElem];intro i j Z z aa;have m:=hso i j (J_ _) aa (by rw[<- n]; simpa using z);unfold ltOf at m;rw[decide_eq_false_iff_not,OO]at m;have Q:b[i]! = b.toList[i]:=by rw[getElem!_pos b i (by simpa using Z)]; simp
  have R:b[j]! = b.toList[j]:=by rw[getElem!_pos b j (by simpa using z)]; simp
  rw[Q,R]at m;exact Int.not_lt.1 m
 have:=fun q (G:q<l.length*s)=>Hr (enc:=enc) (e0:=e0) (l:=b.toList) L q (by simpa [n] using G);have o3:Own (sortWorld id w g 0 N (Go.Sort.flatK (fun x=>(List.range s).map (enc x)) s b) r) B E s (.slice (some ⟨g,0,none⟩) l.length cap) l.length (flat s fun q=>enc (b.toList.getD q e0)):=o1.congr fun q G=>by
  have:=this q G;simp only[Array.toArray_toList]at this;exact this.symm
 exact o3
end Go.Proofs.YtahbiajdgealnaaGreatDoor.Fx
namespace Go.Proofs.YtahbiajdgealnaaGreatDoor
open Go.Shelf
def QA:Go.Shelf.Ren:=⟨fun|6=>43|15=>68|14=>67|28=>102|29=>103|20=>94|21=>95|22=>96|23=>97|24=>98|25=>99|26=>100|27=>101|46=>121|47=>122|48=>123|49=>124|50=>125|57=>138|n=>n,fun|22=>51|24=>66|25=>118|3=>3|39=>142|0=>0|53=>173|55=>28|4=>4|46=>166|45=>165|50=>170|5=>5|9=>9|66=>184|70=>188|76=>200|77=>201|n=>n,fun|n=>n⟩
theorem agN:Go.Proofs.SlLaysF0.n6 Tryz.prog QA := {
 mixed:=by kernel_rfl
 f6:=⟨Tryz.f43.name,by decide,Tryz.func43.trans (K_ some (by kernel_rfl))⟩
 f14:=⟨Tryz.f67.name,by decide,Tryz.func67.trans (K_ some (by kernel_rfl))⟩
 f15:=Tryz.func68.trans (K_ some (by kernel_rfl))
 f20:=⟨Tryz.f94.name,by decide,Tryz.func94.trans (K_ some (by kernel_rfl))⟩
 f21:=⟨Tryz.f95.name,by decide,Tryz.func95.trans (K_ some (by kernel_rfl))⟩
 f22:=⟨Tryz.f96.name,by decide,Tryz.func96.trans (K_ some (by kernel_rfl))⟩
 f23:=⟨Tryz.f97.name,by decide,Tryz.func97.trans (K_ some (by kernel_rfl))⟩
 f24:=⟨Tryz.f98.name,by decide,Tryz.func98.trans (K_ some (by kernel_rfl))⟩
 f25:=⟨Tryz.f99.name,by decide,Tryz.func99.trans (K_ some (by kernel_rfl))⟩
 f26:=⟨Tryz.f100.name,by decide,Tryz.func100.trans (K_ some (by kernel_rfl))⟩
 f27:=⟨Tryz.f101.name,by decide,Tryz.func101.trans (K_ some (by kernel_rfl))⟩
 f28:=Tryz.func102.trans (K_ some (by kernel_rfl))
 f29:=Tryz.func103.trans (K_ some (by kernel_rfl))
 f46:=⟨Tryz.f121.name,by decide,Tryz.func121.trans (K_ some (by kernel_rfl))⟩
 f47:=Tryz.func122.trans (K_ some (by kernel_rfl))
 f48:=Tryz.func123.trans (K_ some (by kernel_rfl))
 f49:=⟨Tryz.f124.name,by decide,Tryz.func124.trans (K_ some (by kernel_rfl))⟩
 f50:=⟨Tryz.f125.name,by decide,Tryz.func125.trans (K_ some (by kernel_rfl))⟩
 f57:=⟨Tryz.f138.name,by decide,Tryz.func138.trans (K_ some (by kernel_rfl))⟩
 t0:=Tryz.underlying0
 a0:=Tryz.isAgg0
 z0:=Tryz.sizeOf0
 v0:=Tryz.zeroValue0
 t3:=Tryz.underlying3
 a3:=Tryz.isAgg3
 z3:=Tryz.sizeOf3
 v3:=Tryz.zeroValue3
 t4:=Tryz.underlying4
 a4:=Tryz.isAgg4
 z4:=Tryz.sizeOf4
 v4:=Tryz.zeroValue4
 t5:=Tryz.underlying5
 a5:=Tryz.isAgg5
 z5:=Tryz.sizeOf5
 v5:=Tryz.zeroValue5
 t9:=Tryz.underlying9
 a9:=Tryz.isAgg9
 z9:=Tryz.sizeOf9
 v9:=Tryz.zeroValue9
 t22:=Tryz.underlying51
 a22:=Tryz.isAgg51
 z22:=Tryz.sizeOf51
 v22:=Tryz.zeroValue51
 t25:=Tryz.underlying118
 a25:=Tryz.isAgg118
 z25:=Tryz.sizeOf118
 v25:=Tryz.zeroValue118
 t39:=Tryz.underlying142
 a39:=Tryz.isAgg142
 z39:=Tryz.sizeOf142
 v39:=Tryz.zeroValue142
 t45:=Tryz.underlying165
 a45:=Tryz.isAgg165
 z45:=Tryz.sizeOf165
 v45:=Tryz.zeroValue165
 t46:=Tryz.underlying166
 a46:=Tryz.isAgg166
 z46:=Tryz.sizeOf166
 v46:=Tryz.zeroValue166
 t50:=Tryz.underlying170
 a50:=Tryz.isAgg170
 z50:=Tryz.sizeOf170
 v50:=Tryz.zeroValue170
 t53:=Tryz.underlying173
 a53:=Tryz.isAgg173
 z53:=Tryz.sizeOf173
 v53:=Tryz.zeroValue173
 t55:=Tryz.underlying28
 a55:=Tryz.isAgg28
 z55:=Tryz.sizeOf28
 v55:=Tryz.zeroValue28
 t66:=Tryz.underlying184
 a66:=Tryz.isAgg184
 z66:=Tryz.sizeOf184
 v66:=Tryz.zeroValue184
 t70:=Tryz.underlying188
 a70:=Tryz.isAgg188
 z70:=Tryz.sizeOf188
 v70:=Tryz.zeroValue188
 t76:=Tryz.underlying200
 a76:=Tryz.isAgg200
 z76:=Tryz.sizeOf200
 v76:=Tryz.zeroValue200
 t77:=Tryz.underlying201
 a77:=Tryz.isAgg201
 z77:=Tryz.sizeOf201
 v77:=Tryz.zeroValue201 }
end Go.Proofs.YtahbiajdgealnaaGreatDoor
namespace Go.Proofs.YtahbiajdgealnaaGreatDoor
open Go.RowKit Go.Sort Rt
set_option linter.unusedVariables false
set_option maxRecDepth 20000
namespace Fx
def Yg(w w':World):Prop := ∃ q a,w'=grow (w.drewN q) a
theorem Yg.refl(w:World):Yg w w:=⟨0,#[],by rw[grow_empty]; rfl⟩
theorem Yg.alloc{w a b:World}(h:Yg w a)(z : ∃ o,b=a.alloc o):Yg w b:=by
 obtain⟨q,c,rfl⟩:=h;obtain⟨o,rfl⟩:=z;exact⟨q,c ++ #[o],by rw[alloc_eq_grow,grow_grow]⟩
theorem Yg.drew{w a b:World}(h:Yg w a)(z:b=a.drew):Yg w b:=by
 obtain⟨q,c,rfl⟩:=h;subst z;exact⟨q+1,c,rfl⟩
section
variable {P:Program} {n:Nat} {Q:Post} {f:Nat->Value} {w:World} {ops:Array Oper} {rest:List Oper} {o:Oper}
theorem L.agO{T:TypeId}{x:Operand}{v:Value}{m:Nat}{y:Nat->Value}(i:Region.wanted o (yf ops f)=true)(d:o.op = .box T x)(hx:ev f x=v)(b:v.cells=aA m y)(c:inn n o.dst=true)
 (h : ∀ g a,g=w.heap.size->aQ a g m y T->Stp w.heap.size w a->(∃ o,a=w.alloc o)->L P n ops Q rest (put f o.dst (.pointer (some ⟨g,0,none⟩))) a):L P n ops Q (o::rest) f w:=by
 have e:(execOp (ev f) o).run P w = .ok (.value (.pointer (some ⟨w.heap.size,0,none⟩))) (w.alloc (.cells v.cells T)):=by
  unfold execOp;simp[d,hx,Instr.box,newVar,newRow]
 refine L.val i e c (h _ _ rfl ?_ (Stp.alloc _ _) ⟨_,rfl⟩);show(w.alloc _).heap[w.heap.size]? = _;rw[alloc_at,d_ rfl,b]
theorem L.Yh{T E:TypeId}{len s:Nat}{l:List (Nat × Operand)}{vs:List (Nat × Value)}{zc y:Nat->Value}(I:Region.wanted o (yf ops f)=true)(B:o.op = .buildSlice T len l.toArray)(C:l.map (fun p=>(p.1,ev f p.2))=vs)(H:P.underlying T=some (.slice E))(k:(P.info? E).map (·.size)=some s)
 (q:Nat.ble (len*s) 16777216=true) (d:Nat.beq (len*s) 0=false) (J:((P.info? E).bind (·.zero)).map (·.cells)=some (aA s zc)) (u:Instr.fill (fun i=>some (i*s,s)) (aA (len*s) (fun j=>zc (j % s))) vs=some (aA (len*s) y)) (t:inn n o.dst=true)
 (h : ∀ g a,g=w.heap.size->aQ a g (len*s) y E->Stp w.heap.size w a->(∃ o,a=w.alloc o)->L P n ops Q rest (put f o.dst (.slice (some ⟨g,0,none⟩) len len)) a):L P n ops Q (o::rest) f w:=by
 obtain⟨z,K,M⟩:=Option.map_eq_some_iff.1 J;obtain⟨i,c,N⟩:=Option.bind_eq_some_iff.1 K;have G:i.size=s:=by rw[c]at k; simpa using k
 have O : ¬ len*s>2^24:=by have:=Nat.le_of_ble_eq_true q; omega
 have b:len*s≠0:=fun e=>by rw[e]at d; exact L_ d (by decide)
 have F:0<s:=Nat.pos_of_ne_zero fun e=>b (by rw[e,Nat.mul_zero]);have r:(Array.range (len*s)).map (fun j=>z.cells[j % z.cells.size]!)=aA (len*s) (fun j=>zc (j % s)):=by
  refine ug (by simp) fun j x => ?_;have A:j % s<s:=I_ _ F;have v:=fM zc A;rw[M];simp[x,bW];rw[getElem!_def,v]
 have D:(execOp (ev f) o).run P w = .ok (.value (.slice (some ⟨w.heap.size,0,none⟩) len len)) (w.alloc (.cells (aA (len*s) y) E)):=by
  unfold execOp;simp only[B,List.map_toArray,C];unfold Instr.buildSlice;have m : ¬ 16777216<len*s:=by omega
  simp[underlying,sizeOf,typeInfo,zeroValue,H,c,G,N,m];simp[b,r,u,newRow]
 refine L.val I D t (h _ _ rfl ?_ (Stp.alloc _ _) ⟨_,rfl⟩);show(w.alloc _).heap[w.heap.size]? = _;rw[alloc_at,d_ rfl]
end
section
variable {P:Program} {n:Nat} {ops:List Oper} {Q:Post}
theorem W.adt{f:Nat->Value}{w:World}{id:Nat}(l:List Nat)(cs:List Nat)(S:World->World->Prop)(j : ∀ w,S w w)(m : ∀ a b c,S a b->S b c->S a c)(fE:List (Nat × Nat × List Nat))(t:P.follows .mixedOrders=true)(u:lu n ops=true)(x:Region.noSelect ops.toArray=true)(e:zy ops l=true)(v:vF ops cs fE l=true)
 (h : ∀ g,Below w.heap.size w g->g=w.drew->R P n ops cs S Q l f g):W P n (.region id ops.toArray true) Q f w:=fun a o=>by
 refine wp_region_any t ?_;unfold zy at e;rw[R_,R_,R_,List.all_eq_true,List.all_eq_true]at e;obtain⟨⟨⟨y,z⟩,p3⟩,p4⟩:=e;have s:=A_ y;have A:l.Nodup:=h_ p3;have:=R.any (P:=P) (Q:=Q) (fE:=fE) u x j m ops.length l (Array.replicate ops.length false) a f w.drew s (by simp) (Jq.start _ _ _) (fun i=>by
  have p : ∀ i,(Array.replicate ops.length false).getD i false=false:=fun i=>getD_replicate_false _ _;constructor
  ·intro d; exact⟨by simpa [Nat.blt_eq] using z i d,p i⟩
  ·intro d;obtain⟨k,q,r⟩:=List.any_eq_true.1 (p4 i (by simpa using d.1));rw[A_ r]; exact q) A (vG v) o (h w.drew (Below.refl _ _).drew rfl)
 simpa using this
end
end Fx
namespace Rt
structure Jh where
 x:Nat->Int
 h:0<=x 1/\x 1<=18446744073709551615
def g0:Jh:=⟨fun _=>0,by decide⟩
instance:Inhabited Jh:=⟨g0⟩
def Jv(x:Nat->Int):Jh:=if h:0<=x 1/\x 1<=18446744073709551615 then⟨x,h⟩else g0
def KZ(x:Jh):Int:=x.x 0*18446744073709551616+x.x 1
theorem ZK{x:Nat->Int}(h:0<=x 1/\x 1<=18446744073709551615):(Jv x).x=x:=by unfold Jv; rw[dif_pos h]
def QZ(a b:Int):Int:=if a=0 then b else a
def Nj(a b:Int)(i:Nat):Int:=if i=0 then a else b
def orW(a b:Int):Nat->Value:=fun j => .int .i64 (Nj a b j)
section
variable {a b:Int} {i:Nat}
theorem aoS(d:i=0\/a=0)(c:Nj a b i=0):i+1=0\/a=0:=by
 unfold Nj at c
 rcases d with rfl|e
 ·exact .inr (by simpa using c)
 exact .inr e
theorem aoT(d:i=0\/a=0)(c:Nj a b i=0):i+1<2\/QZ a b=0:=by
 unfold Nj at c;by_cases e:i=0
 ·exact .inl (by omega)
 rw[b_ e]at c
 rcases d with h|h
 ·exact L_ h e
 exact .inr (by unfold QZ; rw[d_ h]; exact c)
theorem aoU(d:i=0\/a=0)(c : ¬ Nj a b i=0):QZ a b=Nj a b i:=by
 unfold Nj at c ⊢;unfold QZ;by_cases e:i=0
 ·rw[d_ e]at c ⊢; rw[b_ c]
 rw[b_ e]
 rcases d with h|h
 ·exact L_ h e
 rw[d_ h]
theorem aoV(h:i<2\/QZ a b=0)(c : ¬ (i:Int)<2):QZ a b=0:=by
 rcases h with h|h
 ·omega
 exact h
end
theorem adu(x y:Jh):QZ (Fx.kF (x.x 0) (y.x 0)) (Fx.kF (x.x 1) (y.x 1))=Fx.kF (KZ x) (KZ y):=by
 have a:=x.h;have b:=y.h;unfold QZ Fx.kF KZ
 repeat' split
 all_goals first|rfl|omega
structure QC(n:Nat)(S:Nat->Bool)(il:List Nat):Prop where
 nd:il.Nodup
 mem : ∀ i,i∈il<->(i<n/\S i=true)
theorem QC.start(n:Nat):QC n (fun _=>false) []:=⟨List.nodup_nil,fun i=>⟨fun h=>(nomatch h),fun h=>(nomatch h.2)⟩⟩
theorem QC.step{n i:Nat}{S:Nat->Bool}{c:List Nat}(h:QC n S c)(hi:i<n)(l:S i=false):QC n (Fx.aM S i true) (c ++ [i]):=by
 have k:i ∉ c:=fun g=>by have:=((h.mem i).1 g).2; rw[l]at this; cases this
 refine⟨List.nodup_append.2 ⟨h.nd,by simp,fun a f b d e => ?_⟩,fun j => ?_⟩
 ·rw[List.mem_singleton]at d; subst d; subst e; exact k f
 rw[List.mem_append,List.mem_singleton,h.mem];show _<->(j<n/\(if j=i then true else S j)=true);by_cases e:j=i
 ·subst e; rw[d_ rfl]; exact⟨fun _=>⟨hi,rfl⟩,fun _ => .inr rfl⟩
 rw[b_ e]; exact⟨fun h=>h.elim id fun h=>L_ h e,fun h => .inl h⟩
theorem QC.len{n:Nat}{S:Nat->Bool}{c:List Nat}(h:QC n S c):c.length<=n :=
 BQ n c.length (fun q=>c.getD q 0) (fun q d=>by
  have:c.getD q 0∈c:=by rw[r_,o_ d]; exact P_ d
  exact((h.mem _).1 this).1) fun a b f g e=>by
  have e:c.getD a 0=c.getD b 0:=e;rw[r_,r_,o_ f,o_ g]at e;exact(List.getElem_inj h.nd).1 e
structure GrS(m:dK)(l:List Jh):Prop where
 mem : ∀ x,x∈l -> ∃ i,i<m.gn/\x.x=m.g i
 all : ∀ i,i<m.gn -> ∃ x,x∈l/\x.x=m.g i
 up:l.Pairwise fun x y=>KZ x<KZ y
theorem GrS.of{m:dK}{w:World}{b:Nat}{t:List Nat}{l:List Jh}{S:Nat->Bool}(o:Fx.ig w b m.gn (fun i=>m.g i 0) (fun i=>m.g i 1) (tT m.g))(hi:QC m.gn S t)(z : ∀ i,i<m.gn->S i=true)(r:l.Perm (t.map fun i=>Jv (m.g i)))(B:l.Pairwise fun x y=>KZ x<=KZ y):GrS m l:=by
 have k : ∀ i,i<m.gn->(Jv (m.g i)).x=m.g i:=fun i hi=>ZK (o.ok hi).b;have f : ∀ i,i∈t<->i<m.gn:=fun i=>by rw[hi.mem]; exact⟨fun h=>h.1,fun h=>⟨h,z i h⟩⟩
 have p : ∀ x,x∈l -> ∃ i,i<m.gn/\x=Jv (m.g i):=fun x s=>by
  obtain⟨i,c,d⟩:=List.mem_map.1 (r.mem_iff.1 s);exact⟨i,(f i).1 c,d.symm⟩
 have A:l.Nodup:=by
  rw[r.nodup_iff,List.nodup_iff_pairwise_ne,List.pairwise_map];refine(List.nodup_iff_pairwise_ne.1 hi.nd).imp_of_mem fun {a b} ha hb q e=>q ?_;have c:=K_ Jh.x e;rw[k a ((f a).1 ha),k b ((f b).1 hb)]at c;exact o.inj a b ((f a).1 ha) ((f b).1 hb) (by show m.g a 0=m.g b 0; rw[c]) (by show m.g a 1=m.g b 1; rw[c])
 refine⟨fun x s => ?_,fun i c => ?_,?_⟩
 ·obtain⟨i,c,d⟩:=p x s;exact⟨i,c,by rw[d,k i c]⟩
 ·exact⟨Jv (m.g i),r.mem_iff.2 (List.mem_map.2 ⟨i,(f i).2 c,rfl⟩),k i c⟩
 refine(B.and (List.nodup_iff_pairwise_ne.1 A)).imp_of_mem fun {a b} ha hb h => ?_;obtain⟨i,c,u⟩:=p a ha;obtain⟨j,d,v⟩:=p b hb;have q:=h.2
 rcases Int.lt_or_eq_of_le h.1 with h3|h3
 ·exact h3
 exfalso;have C:=a.h;have D:=b.h;unfold KZ at h3;refine q ?_;have n:a.x 0=b.x 0/\a.x 1=b.x 1:=by omega
 rw[u,v,k i c,k j d]at n;have:=o.inj i j c d n.1 n.2;rw[u,v,this]
def Vm(m:dK)(l:List Int)(k:Nat):Nat->Value:=lV (l.getD k 0) (m.T.par (l.getD k 0)) (CW m (l.getD k 0))
def Wp(l:List Jh)(k:Nat):Nat->Value:=iX (l.getD k g0).x
theorem K3{id par:Int}{R:Nat->Int}{z:Nat->Value} : ∀ j,j<56->Fx.bH (Fx.bH (Fx.bH z 0 1 (fun _ => .int .u64 id)) 1 1 (fun _ => .int .u64 par)) 2 54 (Fx.rv .i64 R) j=lV id par R j:=fun j a=>by
 unfold Fx.bH lV
 rcases(show j=0\/j=1\/2<=j by omega)with rfl|rfl|h
 ·rfl
 ·rfl
 ·rw[d_ (by omega),b_ (by omega),b_ (by omega)]; rfl
theorem Yi{m:dK}{l:List Int}{n:Nat}{id par:Int}{R:Nat->Int}{z z2:Nat->Value}(b:l.getD n 0=id)(c:m.T.par id=par)(d:CW m id=R) : ∀ j,j<(n+1)*56->Fx.iD (Fx.flat 56 (Vm m l)) (n*56) (Fx.bH z (0*56) 56 (Fx.bH (Fx.bH (Fx.bH z2 0 1 (fun _ => .int .u64 id)) 1 1 (fun _ => .int .u64 par)) 2 54 (Fx.rv .i64 R))) j=Fx.flat 56 (Vm m l) j:=fun j a =>
 (Fx.xu j a).trans (Fx.bK (fun k _ q f=>by
  unfold Fx.qB;by_cases e:k=n
  ·subst e; rw[d_ rfl,K3 q f]; unfold Vm; rw[b,c,d]
  ·rw[b_ e]) j a)
theorem Yj{g:Nat->Nat->Int}{a:List Nat}{i:Nat}{z:Nat->Value} : ∀ j,j<(a.length+1)*5->Fx.iD (Fx.flat 5 fun k=>iX (g (a.getD k 0))) (a.length*5) (Fx.bH z (0*5) 5 (iX (g i))) j=Fx.flat 5 (fun k=>iX (g ((a ++ [i]).getD k 0))) j:=fun j b =>
 (Fx.xu j b).trans (Fx.bK (fun k c q _=>by
  unfold Fx.qB;by_cases e:k=a.length
  ·subst e; rw[d_ rfl]; simp[r_]
  ·rw[b_ e]; show iX (g (a.getD k 0)) q=_; rw[r_,r_,List.getElem?_append_left (by omega)]) j b)
theorem Yk{m:dK}{a:List Nat}{S:Nat->Bool}{w:World}{b:Nat}(d:Fx.ig w b m.gn (fun i=>m.g i 0) (fun i=>m.g i 1) (tT m.g))(hi:QC m.gn S a) : ∀ j,j<(a.map fun i=>Jv (m.g i)).length*5->Fx.flat 5 (fun k=>iX (m.g (a.getD k 0))) j=Fx.flat 5 (Wp (a.map fun i=>Jv (m.g i))) j:=fun j f =>
 Fx.bK (n:=(a.map fun i=>Jv (m.g i)).length) (fun k c q _=>by
  rw[List.length_map]at c;unfold Wp;have h:a.getD k 0∈a:=by rw[r_,o_ c]; exact P_ c
  have e:((a.map fun i=>Jv (m.g i)).getD k g0)=Jv (m.g (a.getD k 0)):=by
   rw[r_,r_,o_ (by rw[List.length_map]; exact c),o_ c,List.getElem_map]; rfl
  rw[e,ZK (d.ok ((hi.mem _).1 h).1).b]) j f
theorem QD(s:CB)(a:Option Addr)(n c:Nat):Fx.dB (nK s) 18 (.slice a n c)=nK { s with na:=a,nn:=n,nc:=c }:=by
 funext p
 unfold Fx.dB nK;by_cases e:p=18
 ·subst e; rw[d_ rfl,b_ (by omega),b_ (by omega),b_ (by omega),d_ rfl]
 rw[b_ e]
 repeat' split
 all_goals first|rfl|omega
theorem Nk(s:CB)(a:Option Addr)(n c:Nat) : ∀ p,p<20->Fx.dB (nK s) 19 (.slice a n c) p=nK { s with ga:=a,gn:=n,gc:=c } p:=fun p b=>by
 unfold Fx.dB nK;by_cases e:p=19
 ·subst e; rw[d_ rfl,b_ (by omega),b_ (by omega),b_ (by omega),b_ (by omega)]
 ·rw[b_ e]
  repeat' split
  all_goals first|rfl|omega
def Vn(m:dK)(d:Option Addr)(f e:Nat)(a:Option Addr)(c b:Nat):CB:=⟨m.inn,m.left,m.known,d,f,e,a,c,b⟩
theorem Yl{id par:Int}{R:Nat->Int}{z z2:Nat->Value} : ∀ j,j<1*56->(Fx.bH z (0*56) 56 (Fx.bH (Fx.bH (Fx.bH z2 0 1 (fun _ => .int .u64 id)) 1 1 (fun _ => .int .u64 par)) 2 54 (Fx.rv .i64 R)) j).oneCell'=true:=fun j a=>by
 rw[show Fx.bH z (0*56) 56 (Fx.bH (Fx.bH (Fx.bH z2 0 1 (fun _ => .int .u64 id)) 1 1 (fun _ => .int .u64 par)) 2 54 (Fx.rv .i64 R)) j=Fx.bH (Fx.bH (Fx.bH z2 0 1 (fun _ => .int .u64 id)) 1 1 (fun _ => .int .u64 par)) 2 54 (Fx.rv .i64 R) (j-0*56) by unfold Fx.bH; rw[d_ (by omega)],K3 _ (by omega)];exact uH _ _ _ _
theorem Ym{x:Nat->Int}{z:Nat->Value} : ∀ j,j<1*5->(Fx.bH z (0*5) 5 (iX x) j).oneCell'=true:=fun j a=>by
 unfold Fx.bH; rw[d_ (by omega)]; exact sQ x _
theorem adv{m:dK}{c:List Nat}{S:Nat->Bool}{w f:World}{b B cap d:Nat}{a:Option Addr}{T:TypeId}(l:Fx.ig w b m.gn (fun i=>m.g i 0) (fun i=>m.g i 1) (tT m.g))(hi:QC m.gn S c)(e:d=c.length)(n:Fx.Own f B T 5 (.slice a d cap) d (Fx.flat 5 fun k=>iX (m.g (c.getD k 0)))) :
 Fx.Own f B T 5 (.slice a (c.map fun i=>Jv (m.g i)).length cap) (c.map fun i=>Jv (m.g i)).length (Fx.flat 5 (Wp (c.map fun i=>Jv (m.g i)))):=by
 have h:=n.congr (y:=Fx.flat 5 (Wp (c.map fun i=>Jv (m.g i)))) (fun j o=>Yk l hi j (by rw[List.length_map,<- e]; exact o));rw[List.length_map,<- e]; exact h
theorem Vo(m:dK){z:Nat->Value}(e : ∀ j,18<=j->z j = .slice none 0 0){x1 x2:Nat->Value}(h1 : ∀ j,j<6->x1 j = .bool (m.inn j))(d : ∀ j,j<6->x2 j = .bool (m.left j)) : ∀ j,j<20->Fx.bH (Fx.bH (Fx.bH z 0 6 x1) 6 6 x2) 12 6 (Fx.rv .u64 m.known) j=nK (Vn m none 0 0 none 0 0) j:=fun j f=>by
 unfold Fx.bH nK;by_cases a:j<6
 ·rw[b_ (by omega),b_ (by omega),d_ (by omega),d_ a]; exact h1 _ (by omega)
 ·by_cases b:j<12
  ·rw[b_ (by omega),d_ (by omega),b_ a,d_ b]; exact d _ (by omega)
  ·by_cases c:j<18
   ·rw[d_ (by omega),b_ a,b_ b,d_ c]; rfl
   ·rw[b_ (by omega),b_ (by omega),b_ (by omega),b_ a,b_ b,b_ c,e j (by omega)];split <;> rfl
end Rt
structure StQ(w:World)(B:Nat)(m:dK)(s:CB)(l:List Int)(gl:List Jh):Prop where
 inn:s.inn=m.inn
 left:s.left=m.left
 known:s.known=m.known
 nn:s.nn=l.length
 gn:s.gn=gl.length
 ls:l.Pairwise (· < ·) /\ ∀ k,k∈l<->m.T.has k=true
 len:l.length<=32
 gs:GrS m gl
 glb:gl.length<=m.gn
 n:Fx.Own w B 61 56 (.slice s.na s.nn s.nc) s.nn (Fx.flat 56 (Vm m l))
 g:Fx.Own w B 66 5 (.slice s.ga s.gn s.gc) s.gn (Fx.flat 5 (Wp gl))
end Go.Proofs.YtahbiajdgealnaaGreatDoor
namespace Go.Proofs.YtahbiajdgealnaaGreatDoor
open Go.RowKit Rt
open Fx (fC eO fK bA gU gT dD dS gL jw eG jy gu jA jc Lv sN Ln Ws Qv Wl Rp Wc Qs Wr Sb Lk Wk rC rV sR Rs Rn Rd Rk Wb Wx Wo Cu Wt qR Jf Qn FP Bb yc yK Cq Dz ql iC yL ni rW uh vH wF yJ Cv Aj rv aA aQ bH aM ev cB Stp dH aX flat dB Mp eU aW ig iO bC down iM jL kF iN lU bK bI cells_one iQ bV vM unseen jJ iD bX dJ bL bO bY bZ gG gH pO gV)
set_option maxRecDepth 20000
set_option linter.unusedVariables false
theorem OP(n:Int)(w:World) :
 Calls Tryz.prog 69 #[au n] w fun e a=>e = .returned (.bool false)/\a=w:=by
 refine Kent Tryz.func69 6 ?_;refine ay<|av aF<|aC<|ay<|av (au n)<|av (au n)<|Lv aF (jd rfl)<|av aF<|aC<|Wr<|aJ aF ?_;exact⟨rfl,rfl⟩
theorem Yn(a b:Int)(w:World) :
 Calls Tryz.prog 46 #[au a,au b] w fun e f=>e = .returned (au (kF a b))/\f=w:=by
 refine Kent Tryz.func46 20 ?_;refine ay<|av (au 0)<|aC<|ay<|av (au a)<|lW (OP a _) _ rfl<|av aF<|aC<|ay<|av (au b)<|lW (OP b _) _ rfl<|av aF<|aC<|Ws<|ay<|av aF<|aC<|aK<|Wk<|sN<|Ws<|ay<|av aF<|aC<|aK<|Wk<|sN<|Ws<|ay<|av (au a)<|av (au b) ?_;by_cases c:a<b
 ·refine Lv aG (gI c)<|aC<|aO<|ay<|av (au (-1))<|aC<|Wr<|sR<|aJ (au (-1)) ?_;exact⟨by unfold kF; simp[c],rfl⟩
 refine Lv aF (gJ c)<|aC<|aK<|Wk<|sN<|Ws<|ay<|av (au a)<|av (au b) ?_;by_cases d:b<a
 ·refine Lv aG (lH d)<|aC<|aO<|ay<|av (au 1)<|aC<|Wr<|sR<|aJ (au 1) ?_;exact⟨by unfold kF; simp[c,d],rfl⟩
 refine Lv aF (lI d)<|aC<|aK<|Wk<|sN<|ay<|av (au 0)<|aC<|Wr<|aJ (au 0) ?_;exact⟨by unfold kF; simp[c,d],rfl⟩
theorem OQ(n:Int)(w:World) :
 Calls Tryz.prog 70 #[aD n] w fun e a=>e = .returned (.bool false)/\a=w:=by
 refine Kent Tryz.func70 6 ?_;refine ay<|av aF<|aC<|ay<|av (aD n)<|av (aD n)<|Lv aF (jd rfl)<|av aF<|aC<|Wr<|aJ aF ?_;exact⟨rfl,rfl⟩
theorem Yo(a b:Int)(w:World) :
 Calls Tryz.prog 47 #[aD a,aD b] w fun e f=>e = .returned (au (kF a b))/\f=w:=by
 refine Kent Tryz.func47 20 ?_;refine ay<|av (au 0)<|aC<|ay<|av (aD a)<|lW (OQ a _) _ rfl<|av aF<|aC<|ay<|av (aD b)<|lW (OQ b _) _ rfl<|av aF<|aC<|Ws<|ay<|av aF<|aC<|aK<|Wk<|sN<|Ws<|ay<|av aF<|aC<|aK<|Wk<|sN<|Ws<|ay<|av (aD a)<|av (aD b) ?_;by_cases c:a<b
 ·refine Lv aG (gI c)<|aC<|aO<|ay<|av (au (-1))<|aC<|Wr<|sR<|aJ (au (-1)) ?_;exact⟨by unfold kF; simp[c],rfl⟩
 refine Lv aF (gJ c)<|aC<|aK<|Wk<|sN<|Ws<|ay<|av (aD a)<|av (aD b) ?_;by_cases d:b<a
 ·refine Lv aG (lH d)<|aC<|aO<|ay<|av (au 1)<|aC<|Wr<|sR<|aJ (au 1) ?_;exact⟨by unfold kF; simp[c,d],rfl⟩
 refine Lv aF (lI d)<|aC<|aK<|Wk<|sN<|ay<|av (au 0)<|aC<|Wr<|aJ (au 0) ?_;exact⟨by unfold kF; simp[c,d],rfl⟩
theorem aoW(a b:Int)(c:Nat)(w:World)(q:iO w c 0 2 (orW a b)) :
 Calls Tryz.prog 45 #[bM c 2 2] w fun e s=>e = .returned (au (QZ a b))/\s=w:=by
 refine Kent Tryz.func45 18 ?_;refine ay<|av (au 0)<|aC<|ay<|av (au 0)<|aC<|Ws<|ay<|av (bM c 2 2)<|av (au 2)<|av (au 0)<|aC<|Wb<|Wo (fun f p => ∃ i:Nat,i<=2/\(i=0\/a=0)/\(i<2\/QZ a b=0)/\p=w/\f 3=au 0/\f 6=bM c 2 2/\f 7=au 2/\f 8=au (i:Int)/\iO p c 0 2 (orW a b)) (fun f _=>(2-intOf (f 8)).toNat) ⟨0,(by omega),(.inl rfl),(.inl (by decide)),rfl,Fx.ic,(by rfl),Fx.ic,Fx.ic,q⟩ ?_;rintro t v ⟨i,u,m,r,l,j,n,k,g,o⟩;refine ay ?_;by_cases h:(i:Int)<2
 ·refine Lv aG (gI h (hx:=g) (hy:=k))<|aC<|Ws<|aO<|Wk<|sN<|Ws<|Wb<|ay<|Lv (pf c i) (dh 1 (hx:=n) (hi:=g))<|Lv (au (Nj a b i)) (aN o i)<|av (au (Nj a b i))<|aC<|ay<|av (au (Nj a b i))<|aS j ?_;by_cases d:(Nj a b i)=0
  ·refine Lv aF (jd d)<|aC<|aK<|Wk<|bO<|sN<|Wl<|Lv (au ((i:Int)+1)) (eT (hx:=g))<|av (au ((i:Int)+1))<|Ln<|gH ⟨i+1,(by omega),(aoS m d),(aoT m d),l,(j.trans Fx.ic),n,(k.trans Fx.ic),Fx.ic,o⟩ ?_;show(2-intOf (au ((i:Int)+1))).toNat<_;simp only[g,intOf]; omega
  refine Lv aG (lJ d)<|aC<|aO<|ay<|av (au (Nj a b i))<|av (au (Nj a b i))<|aC<|Wr<|bL<|sR<|pO<|bL<|sR<|aJ (au (Nj a b i)) ?_;exact⟨by rw[aoU m d],l⟩
 refine Lv aF (gJ h (hx:=g) (hy:=k))<|aC<|Ws<|aK<|Wx<|bY<|gG<|bZ<|sN<|ay<|aS j<|av (au 0)<|aC<|Wr<|aJ (au 0) ?_;exact⟨by rw[aoV r h],l⟩
set_option maxRecDepth 20000
set_option linter.unusedVariables false
theorem Rt.adw{w:World}{g:Nat}{a b:Int}{z:Nat->Value}{T:TypeId}(h:aQ w g 2 (bH (bH z (0*1) 1 (fun _=>au a)) (1*1) 1 (fun _=>au b)) T):iO w g 0 2 (orW a b):=(h.congr (y:=orW a b) fun j c=>by
 rcases(show j=0\/j=1 by omega)with rfl|rfl <;> rfl).aI
theorem adx(x y:Jh)(w:World) :
 Calls Tryz.prog 44 #[.agg (aA 5 (iX x.x)),.agg (aA 5 (iX y.x))] w fun e H=>e = .returned (au (kF (KZ x) (KZ y))) /\ ∃ q C,H=Go.Sort.grow (w.drewN q) C:=by
 refine Kent Tryz.func44 17 ?_;refine ay<|Fx.L.agO (m:=5) (y:=iX x.x) (by rfl) rfl rfl (bI _ _) rfl fun k V t d D I => ?_;have f:=bG D.old (Below.refl w.heap.size w);have M:=iq t;have S:=d.lt;refine Fx.L.agO (m:=5) (y:=iX y.x) (by rfl) rfl rfl (bI _ _) rfl fun l X g n E J => ?_;have⟨B,p⟩:=eZ E.old d f;have N:=jE g f.size;have P:=cK g d.lt;have T:=n.lt;refine av (au 0)<|aC<|Ws ?_;refine Fx.W.adt [0,2,5,7,1,3,6,8,4,9,10,11,12] [0,4,0,4,2,0,1,0,1,2,2,3,0] Fx.Mk rW Fx.Mk.trans (fE := [(4,1,[1]),(9,1,[4,1]),(10,1,[4,1]),(11,1,[10,4,1]),(4,3,[3]),(9,3,[4,3]),(10,3,[4,3]),(11,3,[10,4,3]),(11,6,[9,6]),(11,8,[9,8]),(9,4,[4]),(10,4,[4]),(11,4,[10,4]),(12,4,[4]),(10,9,[9]),(11,9,[9]),(12,9,[9]),(11,10,[10]),(12,10,[10]),(12,11,[11])]) (by kernel_rfl) (by kernel_rfl) (by kernel_rfl) (by kernel_rfl) (by kernel_rfl) fun Z z A => ?_;have⟨a,b,r⟩:=jG z B n p;refine aY (pt k)<|aY (pt l)<|aY (pf k 1)<|aY (pf l 1)<|Rs (au (x.x 0)) (aN a.aI 0) ?_;refine Rs (au (y.x 0)) (aN b.aI 0) ?_;refine Rd (v:=aD (x.x 1)) (by rfl) (by rfl) (rW _) (fun G c=>bA (x:=iX x.x) rfl rfl (by kernel_rfl) (a.aI.below c (by have:=a.lt; omega)) (i:=1) (by omega) (by omega) rfl) ?_;refine Rd (v:=aD (y.x 1)) (by rfl) (by rfl) (rW _) (fun G c=>bA (x:=iX y.x) rfl rfl (by kernel_rfl) (b.aI.below c (by have:=b.lt; omega)) (i:=1) (by omega) (by omega) rfl) ?_;refine Bc (lW (Yn (x.x 0) (y.x 0) _) _ rfl (Ln ⟨Below.refl _ _,?_⟩));refine Bc (lW (Yo (x.x 1) (y.x 1) _) _ rfl (Ln ⟨Below.refl _ _,?_⟩));refine Bc<|Fx.L.Yh (vs := [(0,au (kF (x.x 0) (y.x 0))),(1,au (kF (x.x 1) (y.x 1)))]) (s:=1) (zc:=rv .i64 (fun _=>0)) (y:=bH (bH (fun j=>(rv .i64 (fun _=>0)) (j % 1)) (0*1) 1 (fun _=>au (kF (x.x 0) (y.x 0)))) (1*1) 1 (fun _=>au (kF (x.x 1) (y.x 1)))) (by rfl) rfl rfl Tryz.underlying88 (by kernel_rfl) (by rfl) (by rfl) (by kernel_rfl) (by rw[bC (off:=0*1) (s:=1) (y:=fun _=>au (kF (x.x 0) (y.x 0))) rfl (cells_one (by rfl)) (by rfl)]; rw[bC (off:=1*1) (s:=1) (y:=fun _=>au (kF (x.x 1) (y.x 1))) rfl (cells_one (by rfl)) (by rfl)]; rfl) rfl fun u Y h o F K => ?_;have O:=jE h r.size;have⟨Q,R⟩:=xD h a.lt b.lt;have U:=o.lt;refine Ln ⟨F.old,?_⟩;refine gK<|lW (aoW (kF (x.x 0) (y.x 0)) (kF (x.x 1) (y.x 1)) u _ (adw o)) _ rfl<|Ln<|aY (au (QZ (kF (x.x 0) (y.x 0)) (kF (x.x 1) (y.x 1))))<|bQ<|Wr<|aJ (au (QZ (kF (x.x 0) (y.x 0)) (kF (x.x 1) (y.x 1)))) ?_;exact⟨by rw[<- adu],(((((Fx.Yg.refl w).alloc I).alloc J).drew A).alloc K)⟩
theorem ady{w:World}{B cap:Nat}{a:Option Addr}{l:List Jh}(h:Fx.Own w B 66 5 (.slice a l.length cap) l.length (flat 5 (Wp l)))(i:l.length<=1000000) :
 Calls Tryz.prog 43 #[.slice a l.length cap,.func (.func 44) #[] #[]] w fun e b=>e = .returned (.tuple #[]) /\ ∃ c:List Jh,c.Perm l/\c.Pairwise (fun x y=>KZ x<=KZ y)/\Fx.Own b B 66 5 (.slice a l.length cap) l.length (flat 5 (Wp c))/\(∀ k,k<w.heap.size->(Value.slice a l.length cap).ownBlock≠some k->b.heap[k]? = w.heap[k]?)/\iQ [66] w b/\Below B w b:=by
 have f:Fx.Own w B 66 5 (.slice a l.length cap) l.length (flat 5 fun q=>(fun x:Jh=>iX x.x) (l.getD q g0)):=h
 have:=Fx.Vl agN (fun d w=>enters_of Tryz.func44 (by kernel_rfl) rfl d w) (by decide) Tryz.isAgg66 Tryz.sizeOf66 (enc:=fun x:Jh=>iX x.x) (e0:=g0) (ky:=KZ) (fun x j _=>sQ x.x j) f
  (by intro g x y; refine(adx x y g).mono fun e b h => ?_; exact h) (by omega)
 exact this
theorem Yp{m:dK}{d:List Nat}{S:Nat->Bool}{p w:World}{b B cap c:Nat}{a:Option Addr}(n:ig p b m.gn (fun i=>m.g i 0) (fun i=>m.g i 1) (tT m.g))(hi:QC m.gn S d)(e:c=d.length)(o:Fx.Own w B 66 5 (.slice a c cap) c (flat 5 fun k=>iX (m.g (d.getD k 0))))(q:c<=1000000) :
 Calls Tryz.prog 43 #[.slice a c cap,.func (.func 44) #[] #[]] w fun e f=>e = .returned (.tuple #[]) /\ ∃ h:List Jh,h.Perm (d.map fun i=>Jv (m.g i))/\h.Pairwise (fun x y=>KZ x<=KZ y)/\Fx.Own f B 66 5 (.slice a c cap) c (flat 5 (Wp h))/\(∀ k,k<w.heap.size->(Value.slice a c cap).ownBlock≠some k->f.heap[k]? = w.heap[k]?)/\iQ [66] w f/\Below B w f:=by
 have j:(d.map fun i=>Jv (m.g i)).length=c:=by rw[List.length_map]; exact e.symm
 have l:=ady (adv n hi e o) (by rw[j]; omega);rw[j]at l;exact l
set_option maxRecDepth 20000
set_option linter.unusedVariables false
set_option maxHeartbeats 1000000 in
theorem Yq(m:dK)(u B:Nat)(w:World)(h:kV w B u m)(hgn:m.gn<=900000) :
 Calls Tryz.prog 18 #[(pt u)] w fun e w' => ∃ s l gl,e = .returned (.agg (aA 20 (nK s)))/\StQ w' w.heap.size m s l gl/\Below w.heap.size w w':=by
 have hC:=h.c;have hT:=h.t;have hP:=h.p;have hR:=h.r;have hG:=h.g;have hA:=h.a;have hN:=h.ne;have lC:=h.c.lt;have lT:=h.t.lt;have lP:=h.p.lt;have lR:=h.r.lt;have lG:=h.g.lt;have lA:=h.a.lt;refine Kent Tryz.func18 72 ?_;refine ay<|Cq (m:=20) (y:=fun d=>if d<12 then .bool false else if d<18 then aD 0 else .slice none 0 0) (by rfl) rfl (by kernel_rfl) rfl fun D w1 kU m1 s1 z1 => ?_;have⟨m2,m3,m4,m5,m6,m7,b1⟩:=jM s1.old hC hT hP hR hG hA (Below.refl w.heap.size w);have tC:=iq kU;have⟨nD,zo,wP,AY,zl⟩:=Di kU hC.lt hP.lt hR.lt hG.lt hA.lt;have uU:=m1.lt;refine aC<|Ws<|ay<|av (pt u)<|Lv aF (Fx.qA rfl rfl rfl (by kernel_rfl))<|aC<|aK<|Wk<|sN<|Ws ?_;refine Wt 13 (by kernel_rfl) (by kernel_rfl) fun oI dM gY => ?_;have⟨m8,m9,m10,m11,m12,m13,m14,b2⟩:=mM dM m2 m3 m4 m5 m6 m7 m1 b1;refine El (pt u)<|El (pt u)<|El (pt u)<|ql (.agg (aA 6 (fun j => .bool (m.inn j)))) (fG m8.aI 0 (fun j J=>by rw[E_]; exact BN J))<|El (pt u)<|El (pt u)<|El (pf u 6)<|ql (.agg (aA 6 (fun j => .bool (m.left j)))) (fG m8.aI 6 (fun j J=>AV (p:=j) J (by omega)))<|El (pt u)<|El (pt u)<|El (pf u 12)<|ql (.agg (aA 6 (rv .u64 m.known))) (fG m8.aI 12 (fun j J=>uQ (p:=j) (by omega) (by omega)))<|El (.agg (aA 20 (bH (bH (bH (fun d=>if d<12 then .bool false else if d<18 then aD 0 else .slice none 0 0) 0 6 (fun j => .bool (m.inn j))) 6 6 (fun j => .bool (m.left j))) 12 6 (rv .u64 m.known))))<|Fx.St.nil ?_;refine fH m14 0 (h1:=(bV (bV (bV (fun jq _=>by show((fun d=>if d<12 then .bool false else if d<18 then aD 0 else .slice none 0 0:Nat->Value) jq).oneCell'=true; simp only[]; repeat (first|rfl|split)) (fun _ _=>rfl)) (fun _ _=>rfl)) (fun _ _=>rfl))) fun V m15 s3 z2 => ?_
 have m16:aQ V D 20 (bH (bH (bH (fun d=>if d<12 then .bool false else if d<18 then aD 0 else .slice none 0 0) 0 6 (fun j => .bool (m.inn j))) 6 6 (fun j => .bool (m.left j))) 12 6 (rv .u64 m.known)) 53:=aX m15;have m17:aQ V D 20 (nK (Vn m none 0 0 none 0 0)) 53:=m16.congr (Vo m (fun j J=>by show(if j<12 then _ else if j<18 then _ else _)=_; rw[b_ (by omega),b_ (by omega)]) (fun _ _=>rfl) (fun _ _=>rfl));have gN:=iC s3 m14.ty;have⟨m18,m19,m20,m21,m22,m23⟩:=Rx gN m8 m9 m10 m11 m12 m13;have b3:=s3.below b2 b2.size (by omega);refine aC<|Ws<|ay<|av (pt u)<|av (pt u)<|av (pf u 18)<|Lv (pt m.tp) (aN m18.aI 18)<|lK (SX m19) ?_;rintro e9 w3 ⟨ZI,N,b,he,m24,hq1,agC,hb1⟩;refine⟨_,he,?_⟩;clear he;have⟨mY,nQ,oJ,ou,qo,oP,mV,b4⟩:=mM hb1 m18 m19 m20 m21 m22 m23 m17 b3;refine av (au b.length)<|av (au 0)<|aC<|Wb ?_;have m32:Fx.Own w3 w.heap.size 61 56 (.slice none 0 0) 0 (flat 56 (Vm m b)):=wF _ _ _ _ _;have kll:=agC;refine Wo (fun f A => ∃ i:Nat,∃ E:Option Addr,∃ F:Nat,i<=b.length/\f 0=(pt u)/\f 2=(pt D)/\f 27 = .slice ZI (b.length) (N)/\f 28=au (b.length:Int)/\f 29=au (i:Int)/\aQ A u 29 (uP m) 106/\ru A B m.tp m.mb m.T/\Mp A m.pb m.T.n m.T.x (Dv m.T)/\Mp A m.rb m.T.n m.T.x (wo m.R)/\ig A m.gb m.gn (fun i=>m.g i 0) (fun i=>m.g i 1) (tT m.g)/\ig A m.ab m.an m.ao m.ar Dw/\Fx.Own A V.heap.size 28 1 (.slice ZI (b.length) (N)) b.length (wY b)/\aQ A D 20 (nK (Vn m E i F none 0 0)) 53/\Fx.Own A w.heap.size 61 56 (.slice E (i) (F)) i (flat 56 (Vm m b))/\Below w.heap.size w A) (fun f _=>((b.length:Int)-intOf (f 29)).toNat) ⟨0,none,0,(by omega),(by rfl),(by rfl),(by rfl),Fx.ic,Fx.ic,mY,nQ,oJ,ou,qo,oP,m24,mV,m32,b4⟩ ?_;rintro f1 w4 ⟨i,E,F,hi,P,h2,h3,h4,Q,oQ,nT,pY,qD,rQ,rR,oU,rT,mZ,b5⟩;refine ay ?_;by_cases c30:(i:Int)<(b.length:Int)
 ·refine Lv aG (gI c30 (hx:=Q) (hy:=h4))<|aC<|Ws<|aO<|Wk<|sN<|Ws<|Wb<|ay ?_;obtain⟨ED,eq1⟩:=oU.addr (by omega);have mP:Fx.Own w4 V.heap.size 28 1 (bM ED b.length N) b.length (wY b):=oU.fF (K_ (fun q=>Value.slice q b.length N) eq1);refine Lv (pf ED i) (dh 1 (hx:=(h3.trans (K_ (fun q=>Value.slice q (b.length) (N)) eq1))) (hi:=Q))<|Lv (aD (b.getD i 0)) (aN mP.aI i)<|av (aD (b.getD i 0))<|aC ?_;obtain⟨I,hjz,aa⟩:=gM ((hq1.2 _).1 (uw (show i<b.length by omega) rfl));have ejx:CW m (b.getD i 0)=m.R I:=by unfold CW dK.idx; rw[mG h.t.inv.inj hjz aa]
  have ejp:m.T.par (b.getD i 0)=m.T.p I:=Ak h.t.inv.inj hjz aa;refine Aj [0,2,3,4,5,7,9,10,11,13,1,6,8,12,14,15,16,17,18,19] [0,1,0,0,0,0,4,0,4,0,0,0,4,0,4,0,2,2,0,3] (iQ [61]) vH Fx.iQ.trans (fE := [(19,1,[1]),(16,6,[15,8,6]),(17,6,[16,15,8,6]),(19,6,[6]),(16,8,[15,8]),(17,8,[16,15,8]),(19,8,[8]),(16,12,[15,14,12]),(17,12,[16,15,14,12]),(19,12,[12]),(16,14,[15,14]),(17,14,[16,15,14]),(19,14,[14]),(17,16,[16]),(18,16,[16]),(19,16,[16]),(18,17,[17]),(19,17,[17])]) (by kernel_rfl) (by kernel_rfl) (by kernel_rfl) (by kernel_rfl) (by kernel_rfl) fun Cw gD nC => ?_;have⟨nR,qY,qE,nE,qF,wJ,rY,sJ,uV,b6⟩:=um gD oQ nT pY qD rQ rR rT mZ mP b5;refine Rp (pf D 18) (fun _=>ji h2 18)<|aY (aD (b.getD i 0))<|bU P<|aY (pt u)<|aY (pf u 19)<|aY (aD (b.getD i 0))<|bU P<|aY (pt u)<|aY (pf u 20)<|aY (aD (b.getD i 0))<|Rd (v := .slice E (i) (F)) (by rfl) (by rfl) (vH _) (fun v1 hv1=>bA (x:=nK (Vn m E i F none 0 0)) rfl rfl (by kernel_rfl) (rY.kr hv1 (by decide)).aI (i:=18) (by omega) (by omega) rfl) ?_;refine Rs (.map (some m.pb)) (aN nR.aI 19) ?_;refine Rs (aD (m.T.p I)) (Fx.vI (z:=aD 0) rfl rfl rfl qE Tryz.underlying100 Tryz.underlying28 (by rfl) hjz aa rfl) ?_;refine Rs (.map (some m.rb)) (aN nR.aI 20) ?_;refine Rs (.agg (aA 54 (rv .i64 (m.R I)))) (Fx.vI (z := .agg (aA 54 (rv .i64 (fun _=>0)))) rfl rfl rfl nE Tryz.underlying101 Tryz.underlying28 (by kernel_rfl) hjz aa rfl) ?_;refine aY (.agg (aA 56 (bH (bH (bH (fun d=>if d<2 then aD 0 else au 0) 0 1 (fun _=>aD (b.getD i 0))) 1 1 (fun _=>aD (m.T.p I))) 2 54 (rv .i64 (m.R I)))))<|Bc<|yc (vs := [(0,.agg (aA 56 (bH (bH (bH (fun d=>if d<2 then aD 0 else au 0) 0 1 (fun _=>aD (b.getD i 0))) 1 1 (fun _=>aD (m.T.p I))) 2 54 (rv .i64 (m.R I)))))]) (s:=56) (zc:=fun d=>if d<2 then aD 0 else au 0) (y:=bH (fun j=>(fun d=>if d<2 then aD 0 else au 0) (j % 56)) (0*56) 56 (bH (bH (bH (fun d=>if d<2 then aD 0 else au 0) 0 1 (fun _=>aD (b.getD i 0))) 1 1 (fun _=>aD (m.T.p I))) 2 54 (rv .i64 (m.R I)))) (by rfl) rfl rfl Tryz.underlying50 (by kernel_rfl) (by rfl) (by rfl) (by kernel_rfl) (by rw[bC (off:=0*56) (s:=56) (y:=bH (bH (bH (fun d=>if d<2 then aD 0 else au 0) 0 1 (fun _=>aD (b.getD i 0))) 1 1 (fun _=>aD (m.T.p I))) 2 54 (rv .i64 (m.R I))) rfl (bI _ _) (by rfl)]; rfl) rfl fun g2 w5 Y uy s6 z3 => ?_;have⟨tY,uz,xH,tZ,sK,uf,xI,qb,wK,b7⟩:=um s6.old nR qY qE nE qF wJ rY sJ uV b6;have rU:=jE Y b6.size;have⟨aoX,abT,abU,aoY,aoZ,abV⟩:=Iw Y nR.lt qE.lt nE.lt qF.lt wJ.lt rY.lt;have apa:(.slice E (i) (F):Value).ownBlock≠some g2:=by rw[Y]; exact sJ.jK (z_ _)
  have apb:=cK Y uV.lt;have Av:=uy.lt;refine Ln ⟨Fx.iQ.of_below s6.old,?_⟩;refine Bc<|yK (B:=w.heap.size) (s:=56) (bytes:=448) (k:=i) (m:=1) (v := .slice E (i) (F)) (x:=flat 56 (Vm m b)) (by rfl) rfl rfl rfl Tryz.underlying50 (by kernel_rfl) (by kernel_rfl) rfl rfl qb uy.aI Yl (by omega) (by omega) (by omega) b7.size fun g3 W w6 ho1 hg1 uo hlt1 => ?_;have jX:=yL hg1 qb;have⟨tJ,m64,wS,wL,wT,wU,rZ,uW⟩:=aap jX tY uz xH tZ sK uf xI wK;have nY:Fx.Own w6 w.heap.size 61 56 (bM g3 (i+1) W) (i+1) (flat 56 (Vm m b)):=(ho1.congr (fun j J=>Yi rfl ejp ejx j J));have b8:Below w.heap.size w w6:=yJ b7 hg1 b7.size (fun q hq=>(qb.ge hq).1);refine Ln ⟨jX,?_⟩;refine Rp (pf D 18) (fun _=>ji h2 18)<|gK<|jh rZ 18 (bM g3 (i+1) W) fun w7 vN s7 z4 => ?_;have wM:aQ w7 D 20 (nK (Vn m (some ⟨g3,0,none⟩) (i+1) W none 0 0)) 53:=vN.to (QD _ _ _ _);have tF:=iC s7 rZ.ty;have⟨uX,zk,wN,yP,yQ,yR,wZ,wV⟩:=aap tF tJ m64 wS wL wT wU uW nY;have b9:=s7.below b8 b8.size (by omega);refine Ln<|Rn<|bO<|sN<|Wl<|Lv (au ((i:Int)+1)) (eT (hx:=Q))<|av (au ((i:Int)+1))<|Ln ?_;have vO:Fx.Own w7 V.heap.size 28 1 (.slice ZI (b.length) (N)) b.length (wY b):=wZ.fF (K_ (fun q=>Value.slice q b.length N) eq1.symm)
  skip
  refine gH ⟨i+1,(some ⟨g3,0,none⟩),W,(by omega),P,h2,h3,(h4.trans Fx.ic),Fx.ic,uX,zk,wN,yP,yQ,yR,vO,wM,wV,b9⟩ ?_;show((b.length:Int)-intOf (au ((i:Int)+1))).toNat<_;simp only[Q,intOf]; omega
 refine Lv aF (gJ c30 (hx:=Q) (hy:=h4))<|aC<|Ws<|aK<|Wx<|bY<|gG<|bZ<|sN<|Ws<|ay<|aS P<|av (pt u)<|av (pf u 27)<|Lv (.map (some m.gb)) (aN oQ.aI 27)<|Fx.L.aav (by rfl) rfl rfl rfl rQ Tryz.underlying102 fun g4 w8 Mg xJ s8 z5 => ?_;have⟨Ac,Au,Ey,b10⟩:=mK s8.old rQ rT mZ b5;have Wn:=jE Mg b5.size;have Ub:=xJ.lt;refine aC<|Wb ?_;have Dr:Fx.Own w8 w.heap.size 66 5 (.slice none 0 0) 0 (flat 5 (fun k=>iX (m.g (([]:List Nat).getD k 0)))):=wF _ _ _ _ _;refine Cu (fun kE f A => ∃ S:Nat->Bool,∃ kk:Nat,∃ K:List Nat,∃ o:Nat,∃ G:Option Addr,∃ H:Nat,kk=unseen S m.gn/\kk=kE/\QC m.gn S K/\o=K.length/\f 2=(pt D)/\f 57=(pt g4)/\ig A m.gb m.gn (fun i=>m.g i 0) (fun i=>m.g i 1) (tT m.g)/\Fx.Own A w.heap.size 61 56 (.slice E (i) (F)) i (flat 56 (Vm m b))/\aQ A D 20 (nK (Vn m E i F G o H)) 53/\Fx.Own A w.heap.size 66 5 (.slice G (o) (H)) o (flat 5 (fun k=>iX (m.g (K.getD k 0))))/\Fx.It A g4 m.gb m.gn S/\Below w.heap.size w A) (unseen (fun _=>false) m.gn) ⟨(fun _=>false),(unseen (fun _=>false) m.gn),[],0,none,0,rfl,rfl,(QC.start _),rfl,h2,(by rfl),Ac,Ey,Au,Dr,xJ,b10⟩ ?_;rintro kE f2 w9 ⟨S,kk,K,o,G,H,hkk,hkE,U,hgl,M,h7,Bv,CJ,zM,FU,DT,b11⟩;refine ay<|Fx.L.aeB (by rfl) rfl rfl h7 Bv DT (fun qZ => ?_)<|fun C tH hi1 hS1 FV mc1 s9 z6 => ?_
 ·skip
  refine av aF<|aC<|Ws<|aK<|Wx<|bY<|gG<|bZ<|sN<|Ws ?_;have eL:(K.map fun i=>Jv (m.g i)).length=o:=by rw[List.length_map]; exact hgl.symm
  have apc:=U.len;refine Wl<|Lv (pf D 19) (ji M 19)<|Lv (.slice G (o) (H)) (aN zM.aI 19)<|dP (Yp h.g U hgl FU (by omega)) _ rfl ?_;rintro FT ⟨gl,hpm,hup,F5,_,zD,hb2⟩;have b12:=b11.trans hb2;have⟨vX,xM⟩:=Dh zD CJ zM;have asc:=xM.lt;refine aC<|ay<|Lv (.agg (aA 20 (nK (Vn m E i F G o H)))) (fG xM.aI 0 (ha:=M))<|fH xM 0 (ha:=M) (h1:=(fun j _=>Xj _ j)) fun Dn vY s10 z7 => ?_;have tK:aQ Dn D 20 (nK (Vn m E i F G o H)) 53:=aX vY;have yN:=iC s10 xM.ty;have⟨oz,qg⟩:=Dh yN vX F5;have b13:=s10.below b12 b12.size (by omega);refine aC (Wr (⟨.agg (aA 20 (nK (Vn m E i F G o H))),rV Tryz.results18 ⟨_,M,aW tK.aI (by kernel_rfl) (by kernel_rfl)⟩,?_⟩));have eil:i=b.length:=by omega
  have egl:o=gl.length:=by rw[hpm.length_eq,eL]
  exact⟨Vn m E i F G o H,b,gl,rfl,{ inn:=rfl,left:=rfl,known:=rfl,nn:=eil,gn:=egl,ls:=hq1,len:=kll,gs:=GrS.of h.g U qZ hpm hup,glb:=by omega,n:=oz,g:=qg },b13⟩
 skip
 have hcm1:=DT.Bl s9;have pz:=Bv.dQ hcm1 (DT.rb.symm);have qG:=CJ.dQ hcm1;have rH:=zM.dQ hcm1;have uI:=FU.dQ hcm1;have b14:=s9.below b11 b11.size (by omega);refine av aG<|aC<|Ws<|aO<|Wk<|sN<|Wb<|ay<|Lv (.tuple #[Fx.kS (m.g C 0) (m.g C 1),.agg (aA 5 (iX (m.g C)))]) (Fx.RG (k1:=fun i=>m.g i 0) (k2:=fun i=>m.g i 1) (val:=tT m.g) (i:=C) rfl h7 pz mc1 hi1)<|av (.agg (aA 5 (iX (m.g C))))<|wX 5 (fun d=>if d<1 then au 0 else if d<3 then aD 0 else if d<4 then au 0 else aD 0) fun g5 Gz eg5 qH s11 z8 => ?_;have⟨tL,yS,uJ,yT,wW,b15⟩:=sV s11.old pz qG rH uI FV b14;have lg5:=jE eg5 b14.size;have⟨aja,ajb⟩:=xD eg5 pz.lt rH.lt;have OT:(.slice G (o) (H):Value).ownBlock≠some g5:=by rw[eg5]; exact uI.jK (z_ _)
 have tg5:=qH.lt;refine fH qH 0 (h1:=(fun j _=>sQ _ j)) fun NW tN s12 z9 => ?_;have qh:aQ NW g5 5 (iX (m.g C)) 66:=aX tN;have yO:=iC s12 qH.ty;have⟨xO,xP,tO⟩:=En yO tL yS uJ;have BA:=yT.cZ s12 OT;have EG:=kY yO wW;have b16:=s12.below b15 b15.size (by omega);refine aC ?_;have apc:=U.len;have hgn1:o<=m.gn:=by omega
 refine Wl<|Lv (pf D 19) (ji M 19)<|Lv (.slice G (o) (H)) (aN tO.aI 19)<|Lv (.agg (aA 5 (iX (m.g C)))) (fG qh.aI 0)<|yc (vs := [(0,.agg (aA 5 (iX (m.g C))))]) (s:=5) (zc:=fun d=>if d<1 then au 0 else if d<3 then aD 0 else if d<4 then au 0 else aD 0) (y:=bH (fun j=>(fun d=>if d<1 then au 0 else if d<3 then aD 0 else if d<4 then au 0 else aD 0) (j % 5)) (0*5) 5 (iX (m.g C))) (by rfl) rfl rfl Tryz.underlying51 (by kernel_rfl) (by rfl) (by rfl) (by kernel_rfl) (by rw[bC (off:=0*5) (s:=5) (y:=iX (m.g C)) rfl (bI _ _) (by rfl)]; rfl) rfl fun g6 Mj Z AA s13 z10 => ?_;have⟨EH,F6,BD,zN,I5,Kt,b17⟩:=jM s13.old xO xP tO BA EG qh b16;have lg6:=jE Z b16.size;have⟨ajc,ajd⟩:=xD Z xO.lt tO.lt;have aje:(.slice G (o) (H):Value).ownBlock≠some g6:=by rw[Z]; exact BA.jK (z_ _)
 have ajf:=cK Z qh.lt;have tg6:=AA.lt;refine yK (B:=w.heap.size) (s:=5) (bytes:=40) (k:=o) (m:=1) (v := .slice G (o) (H)) (x:=flat 5 (fun k=>iX (m.g (K.getD k 0)))) (by rfl) rfl rfl rfl Tryz.underlying51 (by kernel_rfl) (by kernel_rfl) rfl rfl zN AA.aI Ym (by omega) (by omega) (by omega) b17.size fun O X w16 ho2 hg2 MF hlt2 => ?_;have Az:=yL hg2 zN;have⟨EJ,F7,F8,BF⟩:=Ma Az EH F6 BD I5;have ajg:g5≠O:=fun e=>MF.elim (fun e2=>OT (by rw[e]; exact e2)) (fun e2=>by have:=Kt.lt; omega);have EI:Fx.Own w16 w.heap.size 66 5 (bM O (o+1) X) (o+1) (flat 5 (fun k=>iX (m.g ((K ++ [C]).getD k 0)))):=(ho2.congr (fun j J=>by rw[hgl]at J ⊢; exact Yj j J));have b18:Below w.heap.size w w16:=yJ b17 hg2 b17.size (fun q hq=>(zN.ge hq).1);refine Lv (pf D 19) (ji M 19)<|jh F8 19 (bM O (o+1) X) fun Sg BG Dm z11 => ?_;have EU:aQ Sg D 20 (nK (Vn m E i F (some ⟨O,0,none⟩) (o+1) X)) 53:=BG.congr (Nk _ _ _ _);have EC:=iC Dm F8.ty;have⟨EL,zO,BH,IW⟩:=Ma EC EJ F7 BF EI;have b19:=Dm.below b18 b18.size (by omega);refine Ln<|bO ?_
 skip
 refine gH ⟨unseen (aM S C true) m.gn,(by have P:=Fx.oq hS1 m.gn hi1; omega),(aM S C true),(unseen (aM S C true) m.gn),(K ++ [C]),o+1,(some ⟨O,0,none⟩),X,rfl,rfl,(U.step hi1 hS1),(by rw[D_,<- hgl]; rfl),M,h7,EL,zO,EU,IW,BH,b19⟩ (by decide)
end Go.Proofs.YtahbiajdgealnaaGreatDoor
namespace Go.Proofs.YtahbiajdgealnaaGreatDoor
open Go.RowKit Go
set_option linter.unusedVariables false
namespace Rt
section
variable {f:(Nat->Int)->(Nat->Int) × Int} {idx:Nat->Nat} {R:Nat->Nat->Int} {r r':Nat->Nat->Int} {n K k:Nat}
theorem CY : ∀ {n:Nat},(∀ i,i<n->r i=r' i)->jC f r n=jC f r' n
 | 0,_=>rfl
 | n+1,h=>by unfold jC; rw[CY (n:=n) fun i a=>h i (by omega),h n (by omega)]
theorem Fw : ∀ {K:Nat},(∀ i j,i<K->j<K->idx i=idx j->i=j)->(dz f idx R K).2=jC f (fun i=>R (idx i)) K/\((dz f idx R K).2=0 -> ∀ k,(dz f idx R K).1 k=R k/\(∀ i,i<K->idx i≠k)\/(dz f idx R K).1 k=(f (R k)).1 /\ ∃ i,i<K/\idx i=k)
 | 0,_=>⟨rfl,fun _ k => .inl ⟨rfl,fun _ h=>L_ h (u_ _)⟩⟩
 | K+1,hi=>by
   obtain⟨q,r⟩:=Fw (K:=K) fun i j a b=>hi i j (by omega) (by omega);unfold jC;rw[<- q];by_cases c:(dz f idx R K).2=0
   ·have n:=r c;have p:(dz f idx R K).1 (idx K)=R (idx K):=by
     rcases n (idx K)with h|⟨_,i,d,g⟩
     ·exact h.1
     ·have:=hi i K (by omega) (by omega) g; omega
    rw[d_ c];have e:dz f idx R (K+1)=(if(f ((dz f idx R K).1 (idx K))).2=0 then(aH (dz f idx R K).1 (idx K) (f ((dz f idx R K).1 (idx K))).1,0)else((dz f idx R K).1,(f ((dz f idx R K).1 (idx K))).2)):=(by show(if _ then _ else _)=_; rw[d_ c]);rw[e,p];by_cases l:(f (R (idx K))).2=0
    ·rw[d_ l];refine⟨l.symm,fun _ k => ?_⟩;show aH (dz f idx R K).1 (idx K) _ k=R k/\_\/aH (dz f idx R K).1 (idx K) _ k=(f (R k)).1/\_;unfold aH;by_cases e:k=idx K
     ·subst e; rw[d_ rfl]; exact .inr ⟨rfl,K,by omega,rfl⟩
     ·rw[b_ e]
      rcases n k with ⟨d,g⟩|⟨d,i,g,h5⟩
      ·refine .inl ⟨d,fun i s m => ?_⟩;by_cases o:i=K
       ·subst o; exact e m.symm
       ·exact g i (by omega) m
      ·exact .inr ⟨d,i,by omega,h5⟩
    ·rw[b_ l]; exact⟨rfl,fun h=>L_ h l⟩
   ·rw[b_ c];have e:dz f idx R (K+1)=dz f idx R K:=(by show(if _ then _ else _)=_; rw[b_ c]);rw[e];exact⟨rfl,fun h=>L_ h c⟩
end
structure BZ(T:dL)(L:fJ):Prop where
 has : ∀ k,T.has k=true <-> ∃ i,i<L.nn/\L.id i=k
 n:T.n=L.nn
 par : ∀ i,i<L.nn->T.par (L.id i)=L.par i
section
variable {T:dL} {L:fJ} {N:Nat} {x:Int}
theorem BZ.find(h:BZ T L)(b:Inv0 L N)(x:Int):T.has x=true<->0<=bD L.t L.tn x:=by
 rw[h.has,iE,b.BK];constructor
 ·rintro ⟨i,a,e⟩; exact⟨i,a,by rw[(b.tid i a).1]; exact e⟩
 rintro ⟨i,a,e⟩; exact⟨i,a,by rw[<- (b.tid i a).1]; exact e⟩
theorem BZ.findF(h:BZ T L)(a:Inv0 L N)(x:Int):T.has x=false<->bD L.t L.tn x<0:=by
 have:=h.find a x
 cases e:T.has x with
 | false=>rw[e]at this; exact⟨fun _=>by rcases ZA (bD L.t L.tn x)with h1|h1; exact h1; exact L_ (this.2 h1) (by decide),fun _=>rfl⟩
 | true=>rw[e]at this; have:=this.1 rfl; exact⟨fun h=>(nomatch h),fun h=>by omega⟩
theorem Inv0.at(c:Inv0 L N){i:Nat}(hi:i<L.nn):L.node (L.id i)=(i:Int):=by
 rw[c.node,<- (c.tid i hi).1];exact uN (fun a b d f e=>c.aga a b d f e) (by rw[c.BK]; exact hi)
theorem BZ.next(h:BZ T L)(a:Inv0 L N)(hx:T.has x=true):T.par x=L.t (bD L.t L.tn x).toNat 1:=by
 obtain⟨i,b,rfl⟩:=(h.has x).1 hx;have e:=a.at b;rw[a.node]at e;rw[e,h.par i b];exact((a.tid i b).2).symm
theorem BZ.path(h:BZ T L)(f:T.ok)(a:Inv0 L N)(x:Int):(T.path x).length=fu L.t L.tn x /\ ∀ q,q<(T.path x).length->(T.path x).getD q 0=bF L.t L.tn q x:=by
 have g : ∀ q,q<(T.path x).length->T.has ((T.path x).getD q 0)=true/\(q+1<(T.path x).length->(T.path x).getD (q+1) 0=T.par ((T.path x).getD q 0))/\(q+1=(T.path x).length->T.has (T.par ((T.path x).getD q 0))=false):=qN (f.stop x);have j : ∀ q,q<(T.path x).length->(T.path x).getD q 0=bF L.t L.tn q x:=by
  intro q
  induction q with
  | zero =>
    intro b
    cases hx:T.has x with
    | false=>rw[show T.path x = []from kI hx]at b; exact L_ b (u_ _)
    | true=>rw[dL.step f hx]; rfl
  | succ q ih =>
    intro b;have l:=ih (by omega);have c:=(g q (by show q<(T.path x).length; omega));have e:=c.2.1 b;show(T.path x).getD (q+1) 0=L.t (bD L.t L.tn (bF L.t L.tn q x)).toNat 1;rw[<- l,<- h.next a c.1]
    exact e
 refine⟨?_,j⟩;obtain⟨D,n,m⟩:=a.dep x;refine uK (D:=D) (fun i k => ?_) ?_ m (by omega)
 ·rw[<- j i k,<- h.find a]; exact(g i k).1
 by_cases d:(T.path x).length=0
 ·rw[d];show bD L.t L.tn x<0;rw[<- h.findF a]
  cases hx:T.has x with
  | false=>rfl
  | true=>rw[dL.step f hx]at d; simp at d
 obtain⟨q,b⟩ : ∃ q,(T.path x).length=q+1:=⟨(T.path x).length-1,by omega⟩;have c:=g q (by show q<(T.path x).length; omega);have e:=c.2.2 (by show q+1=(T.path x).length; omega);rw[b];show bD L.t L.tn (L.t (bD L.t L.tn (bF L.t L.tn q x)).toNat 1)<0;rw[<- j q (by omega),<- h.next a c.1,<- h.findF a]
 exact e
theorem Yr(d:Inv0 L N)(x:Int):bD L.t L.tn (bF L.t L.tn (fu L.t L.tn x) x)<0:=by
 obtain⟨D,e,b⟩:=d.dep x;obtain⟨K,f,a,c⟩:=uO D b;rw[<- uK c a b (by omega)]; exact a
theorem BZ.mem(h:BZ T L)(f:T.ok)(d:Inv0 L N)(x y:Int):y∈T.path x <-> ∃ i,i<fu L.t L.tn x/\bF L.t L.tn i x=y:=by
 obtain⟨c,b⟩:=h.path f d x;rw[<- c];constructor
 ·intro g;obtain⟨i,a,e⟩:=List.getElem_of_mem g;refine⟨i,a,?_⟩;rw[<- b i a,r_,o_ a]; exact e
 rintro ⟨i,a,rfl⟩;rw[<- b i a,r_,o_ a]; exact P_ a
theorem BZ.err(h:BZ T L)(l:T.ok)(a:Inv0 L N)(id pa:Int):T.err id pa=jo L.t L.tn id pa:=by
 unfold dL.err qC jo;by_cases c:id=0
 ·rw[d_ c,d_ c]
 rw[b_ c,b_ c];by_cases d:dO T.x T.n id=true
 ·rw[d_ d,d_ ((h.find a id).1 d)]
 rw[b_ d,b_ (fun e=>d ((h.find a id).2 e))];have j:(¬ pa=0/\dO T.x T.n pa=false)<->(pa≠0/\bD L.t L.tn pa<0):=by
  rw[<- h.findF a]; exact Iff.rfl
 by_cases f : ¬ pa=0/\dO T.x T.n pa=false
 ·rw[d_ f,d_ (j.1 f)]
 rw[b_ f,b_ (fun e=>f (j.2 e))];have k:(32<=T.n\/4<=(jm T.x T.p T.n 4 pa).length)<->(32<=L.tn\/CG L.t L.tn pa):=by
  obtain⟨q,r⟩:=h.path l a pa;have v:(T.path pa).length<=4:=dL.yD;have:4<=(T.path pa).length<->CG L.t L.tn pa:=by
   constructor
   ·intro s i u;have b:=(qN (l.stop pa)) i (by show i<(T.path pa).length; omega);rw[<- r i (by omega),<- h.find a]; exact b.1
   ·intro o
    rcases Nat.lt_or_ge (T.path pa).length 4 with b|b
    ·exfalso;have m:=o _ b;rw[q]at m;have:=Yr a pa;omega
    ·exact b
  show(32<=T.n\/4<=(T.path pa).length)<->_;rw[this,h.n,a.BK]
 by_cases g:32<=T.n\/4<=(jm T.x T.p T.n 4 pa).length
 ·rw[d_ g,d_ (k.1 g)]
 rw[b_ g,b_ (fun e=>g (k.2 e))]
end
end Rt
end Go.Proofs.YtahbiajdgealnaaGreatDoor
namespace Go.Proofs.YtahbiajdgealnaaGreatDoor
open Go.RowKit Go
set_option linter.unusedVariables false
set_option maxRecDepth 20000
namespace Rt
section
variable {m:dK} {k:Int} {i:Nat}
theorem dK.CZ(b:m.T.ok)(c:m.T.has k=true):m.idx k<m.T.n/\m.T.x (m.idx k)=k:=by
 obtain⟨j,a,e⟩:=gM c;have:m.idx k=j:=mG b.inj a e;rw[this]; exact⟨a,e⟩
theorem K4(x:Nat->Int)(id:Int) : ∀ n,(∀ i,i<n->x i≠id)->yV (Fx.aM x n id) (n+1) id=n:=fun n _=>by
 unfold yV;rw[d_];unfold Fx.aM;rw[d_ rfl]
theorem Ht{x y:Nat->Int}{k:Int} : ∀ {n:Nat},(∀ i,i<n->x i=y i)->yV x n k=yV y n k
 | 0,_=>rfl
 | n+1,h=>by unfold yV; rw[h n (by omega),Ht (n:=n) fun i a=>h i (by omega)]
theorem K5(x:Nat->Int){id k:Int}(n:Nat)(b:id≠k):yV (Fx.aM x n id) (n+1) k=yV x n k:=by
 have a:Fx.aM x n id n=id:=by unfold Fx.aM; rw[d_ rfl]
 show(if Fx.aM x n id n=k then n else yV (Fx.aM x n id) n k)=_;rw[a,b_ b];exact Ht fun i c=>by unfold Fx.aM; rw[b_ (by omega)]
theorem Hu{f g:Nat->Int}{o:Int} : ∀ {n:Nat},(∀ i,i<n->f i=g i)->nL f o n=nL g o n
 | 0,_=>rfl
 | n+1,h=>by unfold nL; rw[Hu (n:=n) fun i a=>h i (by omega),h n (by omega)]
theorem K6{f:Nat->Int}{o v:Int}{k:Nat} : ∀ n,k<=n->nL (Fx.cB f k v) o (n+1)=nL f o n+if v / 1099511627776=o then 1 else 0
 | 0,h=>by
   obtain rfl:k=0:=(by omega);show 0+(if Fx.cB f 0 v 0 / 1099511627776=o then 1 else 0)=0+_;rw[dG]
 | n+1,h=>by
   by_cases e:k=n+1
   ·subst e;show nL (Fx.cB f (n+1) v) o (n+1)+(if Fx.cB f (n+1) v (n+1) / 1099511627776=o then 1 else 0)=_;rw[dG,Hu (g:=f) fun i a=>DW a]
   ·show nL (Fx.cB f k v) o (n+1)+(if Fx.cB f k v (n+1) / 1099511627776=o then 1 else 0)=nL f o n+(if f n / 1099511627776=o then 1 else 0)+_;rw[K6 n (by omega),DX (by omega)];show _+(if f n / 1099511627776=o then 1 else 0)=_;omega
theorem OU{f:Nat->Int}{o:Int} : ∀ n,nL f o n<=n
 | 0=>z_ _
 | n+1=>by have:=OU (f:=f) (o:=o) n; unfold nL; split <;> omega
theorem Ca{P:Nat->Bool}{n:Nat}:0<=gX P n <-> ∃ j,j<n/\P j=true:=by
 rcases jH P n with ⟨k,c,e,a⟩|⟨e,h⟩
 ·rw[e]; exact⟨fun _=>⟨k,c,a⟩,fun _=>by omega⟩
 rw[e]; exact⟨fun h=>by omega,fun⟨j,b,a⟩=>by rw[h j b]at a; cases a⟩
end
structure fT(m:dK)(L:fJ):Prop where
 T:BZ m.T L
 inn:m.inn=L.inn
 left:m.left=L.left
 known:m.known=L.known
 row : ∀ i,i<L.nn->CW m (L.id i)=L.R i
 own : ∀ a,a<6->m.own a=((nL L.id ((a:Int)+1) L.nn:Nat):Int)
 gi : ∀ i j,i<m.gn->j<m.gn->m.g i 0=m.g j 0->m.g i 1=m.g j 1->i=j
 gn:m.gn=L.gn
 g1 : ∀ q,q<L.gn -> ∃ j,j<m.gn/\m.g j=L.g q
 g2 : ∀ j,j<m.gn -> ∃ q,q<L.gn/\L.g q=m.g j
 ask : ∀(a:Nat) (r:Int),a<6->(gQ m ((a:Int)+1) r=true <-> ∃ j,j<L.rn a/\L.rq a j=r)
 ga:Qz m
 li : ∀ p q,p<L.gn->q<L.gn->L.g p 0=L.g q 0->L.g p 1=L.g q 1->p=q
section
variable {m:dK} {L:fJ} {N:Nat} {v:EvM} {x:Int}
theorem fT.node(h:fT m L)(a:Inv0 L N)(x:Int):m.T.has x=true<->0<=L.node x:=by rw[h.T.find a,a.node]
theorem fT.K7(h:fT m L)(a:Inv0 L N)(x:Int):m.T.has x=false<->L.node x<0:=by rw[h.T.findF a,a.node]
theorem Inv0.Yt(a:Inv0 L N)(hx:0<=L.node x):(L.node x).toNat<L.nn/\L.id (L.node x).toNat=x:=by
 rw[a.node]at hx ⊢;obtain⟨j,b,e,c⟩:=uG hx;rw[e];rw[a.BK]at b;exact⟨b,by show L.id j=x; rw[<- (a.tid j b).1]; exact c⟩
theorem fT.rk(h:fT m L)(c:Inv0 L N)(hx:0<=L.node x):CW m x=L.R (L.node x).toNat:=by
 obtain⟨a,b⟩:=c.Yt hx;rw[<- h.row _ a,b]
theorem fT.BO(h:fT m L)(f:m.T.ok)(a:Inv0 L N)(hx:m.T.has x=true)(r:Nat->Int):fT (BO m x r) { L with R:=aH L.R (L.node x).toNat r }:=by
 have l:=(h.node a x).1 hx;obtain⟨j,c⟩:=a.Yt l;refine { h with row:=fun i b => ?_,T:=⟨h.T.has,h.T.n,h.T.par⟩ };show Fx.aM m.R (m.idx x) r (m.idx (L.id i))=aH L.R (L.node x).toNat r i;unfold Fx.aM aH;by_cases e:i=(L.node x).toNat
 ·subst e; rw[c,d_ rfl,d_ rfl]
 rw[b_ e,b_]
 ·exact h.row i b
 intro g;have d:=(dK.CZ f ((h.T.has _).2 ⟨i,b,rfl⟩)).2;have k:=(dK.CZ f hx).2;rw[g,k]at d;exact e (a.inj i _ b j (by rw[c]; exact d.symm))
theorem fT.along(h:fT m L)(l:m.T.ok)(g:Inv0 L N)(f:(Nat->Int)->(Nat->Int) × Int)(x:Int) :
 dA m f (m.T.path x)=(dz f (nU L x) L.R (fu L.t L.tn x)).2/\((dz f (nU L x) L.R (fu L.t L.tn x)).2=0 -> ∀ i,i<L.nn->(oF m f (m.T.path x)).R (m.idx (L.id i))=(dz f (nU L x) L.R (fu L.t L.tn x)).1 i):=by
 obtain⟨z,p⟩:=h.T.path l g x;have w:(m.T.path x).Nodup:=dL.zV l x;have o : ∀ i,i<fu L.t L.tn x->0<=L.node (bF L.t L.tn i x):=fun i c=>by rw[g.node]; exact AP c
 have y : ∀ i j,i<fu L.t L.tn x->j<fu L.t L.tn x->nU L x i=nU L x j->i=j:=fun i j c v e=>by
  have a:=g.Yt (o i c);have b:=g.Yt (o j v);have e:(L.node (bF L.t L.tn i x)).toNat=(L.node (bF L.t L.tn j x)).toNat:=e;rw[e]at a;have k:bF L.t L.tn i x=bF L.t L.tn j x:=a.2.symm.trans b.2;rw[<- p i (by omega),<- p j (by omega)]at k;exact BU w (by omega) (by omega) k
 obtain⟨A,B⟩:=Fw (f:=f) (idx:=nU L x) (R:=L.R) y;refine⟨?_,fun s i c => ?_⟩
 ·rw[A];unfold dA;rw[z];exact CY fun i c=>by
   rw[p i (by omega)];exact h.rk g (o i c)
 have u:=(dK.CZ l ((h.T.has _).2 ⟨i,c,rfl⟩)).2;show(if m.T.x (m.idx (L.id i))∈m.T.path x then(f (m.R (m.idx (L.id i)))).1 else m.R (m.idx (L.id i)))=_;rw[u,show m.R (m.idx (L.id i))=L.R i from h.row i c];have r:L.id i∈m.T.path x <-> ∃ q,q<fu L.t L.tn x/\nU L x q=i:=by
  rw[h.T.mem l g];constructor
  ·rintro ⟨q,d,e⟩;exact⟨q,d,(DY g c d).2 e⟩
  ·rintro ⟨q,d,e⟩;exact⟨q,d,(DY g c d).1 e⟩
 rcases B s i with ⟨n,k⟩|⟨n,q,d,k⟩
 ·rw[n,b_];rw[r]; rintro ⟨q,d,e⟩; exact k q d e
 rw[n,d_ (r.2 ⟨q,d,k⟩)]
theorem fT.asked(h:fT m L)(f:bS v=true)(r:Int):gQ m v.o r=true<->0<=L.kM (aL v) r:=by
 obtain⟨a,c,d⟩:=fq (iK f);have:aL v=a:=by unfold aL; omega
 rw[this,d,h.ask a r c];unfold fJ.kM;rw[Ca];constructor
 ·rintro ⟨j,b,e⟩; exact⟨j,b,f_ e⟩
 rintro ⟨j,b,e⟩; exact⟨j,b,h_ e⟩
theorem fT.grant(h:fT m L)(o r:Int):(iF m o r=true<->0<=L.grant o r)/\(0<=L.grant o r->(L.grant o r).toNat<L.gn/\eP m o r<m.gn/\m.g (eP m o r)=L.g (L.grant o r).toNat/\L.g (L.grant o r).toNat 0=o/\L.g (L.grant o r).toNat 1=r):=by
 have k1:iF m o r=true <-> ∃ j,j<m.gn/\m.g j 0=o/\m.g j 1=r:=kR;have k2:0<=L.grant o r <-> ∃ q,q<L.gn/\L.g q 0=o/\L.g q 1=r:=by
  unfold fJ.grant;rw[Ca];constructor
  ·rintro ⟨j,a,e⟩; rw[R_]at e; exact⟨j,a,h_ e.1,h_ e.2⟩
  ·rintro ⟨j,a,b,c⟩; exact⟨j,a,by rw[f_ b,f_ c]; rfl⟩
 refine⟨?_,fun l => ?_⟩
 ·rw[k1,k2];constructor
  ·rintro ⟨j,a,b,c⟩;obtain⟨q,d,e⟩:=h.g2 j a;exact⟨q,d,by rw[e]; exact b,by rw[e]; exact c⟩
  rintro ⟨q,d,b,c⟩;obtain⟨j,a,e⟩:=h.g1 q d;exact⟨j,a,by rw[e]; exact b,by rw[e]; exact c⟩
 have : ∃ q,q<L.gn/\L.grant o r=(q:Int)/\L.g q 0=o/\L.g q 1=r:=by
  unfold fJ.grant at l ⊢
  rcases jH (fun i=>decide (L.g i 0=o)&&decide (L.g i 1=r)) L.gn with ⟨q,d,e,k⟩|⟨e,_⟩
  ·rw[R_]at k; exact⟨q,d,e,h_ k.1,h_ k.2⟩
  ·omega
 obtain⟨q,d,e,b,c⟩:=this;rw[e];obtain⟨j,a,f⟩:=h.g1 q d;have:eP m o r=j:=yE h.gi a (by show m.g j 0=o; rw[f]; exact b) (by show m.g j 1=r; rw[f]; exact c);rw[this];exact⟨d,a,f,b,c⟩
theorem fT.agQ(h:fT m L)(i:m.T.ok)(g:Inv0 L N)(e:bS v=true)(l:v.kind=1):iU m v=jY L v:=by
 obtain⟨a,j,d⟩:=fq (iK e);have k:aL v=a:=by unfold aL; omega
 unfold iU jY;rw[k,h.own a j,d];have b:(5<=((nL L.id ((a:Int)+1) L.nn:Nat):Int)\/140737488355328<v.aT)<->(5<=nL L.id ((a:Int)+1) L.nn\/140737488355328<v.aT):=by omega
 have f:ng v=iY ((a:Int)+1) v.seq:=by rw[<- d,qJ e]; rfl
 by_cases c:5<=nL L.id ((a:Int)+1) L.nn\/140737488355328<v.aT
 ·rw[d_ c,d_ (b.2 c)]
 rw[b_ c,b_ (fun q=>c (b.1 q)),h.T.err i g,f]
theorem fT.make(h:fT m L)(A:m.T.ok)(r:Inv0 L N)(l:bS v=true)(D:v.kind=1)(z:jY L v=0):fT (CV m v) (qc L v):=by
 obtain⟨k,g,H,I,J,K,M,y,P,Q,G⟩:=wm r l D z;have t:=qJ l;have O:=nN l;have f:ng v=iY v.o v.seq:=by rw[t]; rfl
 have w:m.T.has (ng v)=false:=by
  rw[h.T.findF r,f,uM];exact G.no
 have E : ∀ i,i<m.T.n->m.T.x i≠ng v:=fun i d e=>by
  have:=dL.zu d; rw[e,w]at this; cases this
 rw[y];have C : ∀ q,(m.T.put (ng v) v.node).has q=true<->(m.T.has q=true\/q=ng v):=fun q=>by
  rw[dL.jr,Bool.or_eq_true,O_];exact⟨fun h=>h.imp id Eq.symm,fun h=>h.imp id Eq.symm⟩
 have u : ∀ q,q<L.nn->L.id q≠ng v:=fun q F e=>by
  have:=(h.T.has _).2 ⟨q,F,rfl⟩; rw[e,w]at this; cases this
 refine {
  T:=⟨fun q => ?_,?_,fun i d => ?_⟩
  inn:=h.inn
  left:=h.left
  known:=h.known
  row:=fun i d => ?_
  own:=fun a s => ?_
  gi:=h.gi
  gn:=h.gn
  g1:=h.g1
  g2:=h.g2
  ask:=h.ask
  ga:=h.ga
  li:=h.li }
 ·show(m.T.put (ng v) v.node).has q=true <-> ∃ i,i<L.nn+1/\Fx.cB L.id k (iY v.o v.seq) i=q;rw[C,h.T.has];constructor
  ·rintro (⟨i,d,e⟩|e)
   ·obtain⟨j,b,_,c⟩:=AO (k:=k) d;exact⟨j,b,by rw[c]; exact e⟩
   exact⟨k,by omega,by rw[dG,e,f]⟩
  rintro ⟨i,d,e⟩
  rcases dU g d with rfl|⟨j,b,c,_,_⟩
  ·rw[dG]at e; exact .inr (by rw[<- e,f])
  rw[c]at e; exact .inl ⟨j,b,e⟩
 ·show m.T.n+1=L.nn+1;rw[h.T.n]
 ·show(m.T.put (ng v) v.node).par (Fx.cB L.id k (iY v.o v.seq) i)=Fx.cB L.par k v.node i;rw[dL.sG]
  rcases dU g d with rfl|⟨j,b,c,_,_⟩
  ·rw[dG,dG,d_ f]
  rw[c,c,b_ (fun e=>u j b e.symm)]; exact h.T.par j b
 ·show Fx.aM m.R m.T.n _ (yV (Fx.aM m.T.x m.T.n (ng v)) (m.T.n+1) (Fx.cB L.id k (iY v.o v.seq) i))=Fx.cB L.R k _ i
  rcases dU g d with rfl|⟨j,b,c,_,_⟩
  ·rw[dG,dG,<- f,K4 _ _ _ E]; unfold Fx.aM; rw[d_ rfl]
  rw[c,c,K5 _ _ (fun e=>u j b e.symm)];have p:=(dK.CZ A ((h.T.has _).2 ⟨j,b,rfl⟩)).1;have p:yV m.T.x m.T.n (L.id j)<m.T.n:=p;unfold Fx.aM;rw[b_ (by omega)];exact h.row j b
 show aH m.own (aL v) (m.own (aL v)+1) a=((nL (Fx.cB L.id k (iY v.o v.seq)) ((a:Int)+1) (L.nn+1):Nat):Int);rw[K6 _ g,t];have B:(1099511627776*v.o+v.seq) / 1099511627776=v.o:=by omega
 rw[B];unfold aH;by_cases e:a=aL v
 ·rw[d_ e,<- e,h.own a s,d_ (by unfold aL at e; omega)]; rfl
 rw[b_ e,h.own a s,b_ (by unfold aL at e; omega)]; rfl
attribute [local irreducible] fu dz dA in
theorem fT.qp(h:fT m L)(d:m.T.ok)(g:Inv0 L N)(i:bS v=true):jO m v=iR L v:=by
 unfold jO iR;by_cases c:gQ m v.o v.req=true
 ·rw[d_ c,d_ ((h.asked i _).1 c)]
 rw[b_ c,b_ (fun e=>c ((h.asked i _).2 e))];obtain⟨j,_⟩:=h.T.path d g v.node;have f:m.T.has v.node=false<->fu L.t L.tn v.node=0:=by
  rw[<- j];constructor
  ·intro b; rw[show m.T.path v.node = []from kI b]; rfl
  ·intro b
   cases e:m.T.has v.node with
   | false=>rfl
   | true=>rw[dL.step d e]at b; simp at b
 by_cases a:m.T.has v.node=false
 ·rw[d_ a,d_ (f.1 a)]
 rw[b_ a,b_ (fun e=>a (f.2 e))];exact(h.along d g _ _).1
theorem Fy{k1 k2:Nat->Int}{n:Nat}{a b o r:Int}:A8 (Fx.aM k1 n a) (Fx.aM k2 n b) (n+1) o r=true<->(A8 k1 k2 n o r=true\/(a=o/\b=r)):=by
 rw[kR,kR];unfold Fx.aM;constructor
 ·rintro ⟨j,f,c,d⟩;by_cases e:j=n
  ·subst e; rw[d_ rfl]at c d; exact .inr ⟨c,d⟩
  rw[b_ e]at c d; exact .inl ⟨j,by omega,c,d⟩
 rintro (⟨j,f,c,d⟩|⟨c,d⟩)
 ·exact⟨j,by omega,by rw[b_ (by omega)]; exact c,by rw[b_ (by omega)]; exact d⟩
 exact⟨n,by omega,by rw[d_ rfl]; exact c,by rw[d_ rfl]; exact d⟩
theorem fT.OV(h:fT m L)(w:bS v=true)(d:dK)(f:fJ)(i:d.an=m.an+1)(k:d.ao=Fx.aM m.ao m.an v.o)(l:d.ar=Fx.aM m.ar m.an v.req)(n:f.rn=aH L.rn (aL v) (L.rn (aL v)+1))(p:f.rq=aH L.rq (aL v) (aH (L.rq (aL v)) (L.rn (aL v)) v.req)) :
 (∀(a:Nat) (r:Int),a<6->(gQ d ((a:Int)+1) r=true <-> ∃ j,j<f.rn a/\f.rq a j=r))/\(∀ o r,gQ m o r=true->gQ d o r=true)/\gQ d v.o v.req=true:=by
 obtain⟨b,x,t⟩:=fq (iK w);have u:aL v=b:=by unfold aL; omega
 have g : ∀ o r,gQ d o r=true<->(gQ m o r=true\/(v.o=o/\v.req=r)):=fun o r=>by
  unfold gQ; rw[i,k,l]; exact Fy
 refine⟨fun a r q => ?_,fun o r h=>(g o r).2 (.inl h),(g _ _).2 (.inr ⟨rfl,rfl⟩)⟩;rw[g,h.ask a r q,n,p,u];unfold aH;by_cases e:a=b
 ·subst e;rw[d_ rfl,d_ rfl];constructor
  ·rintro (⟨j,s,e⟩|⟨_,e⟩)
   ·exact⟨j,by omega,by show(if j=L.rn a then v.req else L.rq a j)=r; rw[b_ (by omega)]; exact e⟩
   exact⟨L.rn a,by omega,by show(if L.rn a=L.rn a then v.req else _)=r; rw[d_ rfl]; exact e⟩
  rintro ⟨j,s,e⟩;have e:(if j=L.rn a then v.req else L.rq a j)=r:=e;by_cases c:j=L.rn a
  ·rw[d_ c]at e; exact .inr ⟨t,e⟩
  rw[b_ c]at e; exact .inl ⟨j,by omega,e⟩
 rw[b_ e,b_ e];exact⟨fun h=>h.elim id fun h=>by omega,.inl⟩
attribute [local irreducible] fu dz dA in
theorem fT.take(h:fT m L)(F:m.T.ok)(E:Inv0 L N)(D:bS v=true)(t:iR L v=0):fT (ko m v) (lQ L v):=by
 unfold iR at t;split at t
 ·cases t
 rename_i c1;split at t
 ·cases t
 have I:=(h.along F E (fun x=>bB x v.o v.aT) v.node).2 t;have G : ¬ gQ m v.o v.req=true:=fun e=>c1 ((h.asked D _).1 e);obtain⟨k1,k2,J⟩:=h.OV D (ko m v) (lQ L v) rfl rfl rfl rfl rfl;have s : ∀ j,(ko m v).g j=if j=m.gn then pV v else m.g j:=fun j=>rfl;have A:pV v 0=v.o:=rfl;have B:pV v 1=v.req:=rfl;have y : ∀ j,j<m.gn -> ¬ (m.g j 0=v.o/\m.g j 1=v.req):=fun j d e=>G (by have:=h.ga j d; rw[e.1,e.2]at this; exact this);have u:=Fx.yh (fun i=>EO v (L.g i)) L.gn
 refine {
  T:=⟨h.T.has,h.T.n,h.T.par⟩
  inn:=h.inn
  left:=h.left
  known:=h.known
  row:=I
  own:=h.own
  gi:=fun i j r d b a => ?_
  gn:=by show m.gn+1=L.gn+1; rw[h.gn]
  g1:=fun q f => ?_
  g2:=fun j d => ?_
  ask:=k1
  ga:=fun i r => ?_
  li:=fun p q z f b a => ?_ }
 ·have r:i<m.gn+1:=r;have d:j<m.gn+1:=d;rw[s,s]at b a;by_cases c:i=m.gn
  ·by_cases l:j=m.gn
   ·omega
   rw[d_ c,b_ l,A]at b; rw[d_ c,b_ l,B]at a;exact L_ ⟨b.symm,a.symm⟩ (y j (by omega))
  by_cases l:j=m.gn
  ·rw[b_ c,d_ l,A]at b; rw[b_ c,d_ l,B]at a;exact L_ ⟨b,a⟩ (y i (by omega))
  rw[b_ c,b_ l]at b a; exact h.gi i j (by omega) (by omega) b a
 ·have f:q<L.gn+1:=f;show ∃ j,j<m.gn+1/\(ko m v).g j=Fx.cB L.g (Fx.down (fun i=>EO v (L.g i)) L.gn) (pV v) q
  rcases dU u f with e|⟨j,d,a,_,_⟩
  ·rw[e,dG]; exact⟨m.gn,by omega,by rw[s,d_ rfl]⟩
  rw[a];obtain⟨i,r,w⟩:=h.g1 j d;exact⟨i,by omega,by rw[s,b_ (by omega)]; exact w⟩
 ·have d:j<m.gn+1:=d;show ∃ q,q<L.gn+1/\Fx.cB L.g (Fx.down (fun i=>EO v (L.g i)) L.gn) (pV v) q=(ko m v).g j;rw[s];by_cases c:j=m.gn
  ·rw[d_ c]; exact⟨_,by omega,dG⟩
  rw[b_ c];obtain⟨q,f,e⟩:=h.g2 j (by omega);obtain⟨K,H,_,a⟩:=AO (k:=Fx.down (fun i=>EO v (L.g i)) L.gn) f;exact⟨K,H,by rw[a]; exact e⟩
 ·have r:i<m.gn+1:=r;rw[s];by_cases c:i=m.gn
  ·rw[d_ c]; exact J
  rw[b_ c]; exact k2 _ _ (h.ga i (by omega))
 have z:p<L.gn+1:=z;have f:q<L.gn+1:=f;have C : ∀ j,j<L.gn -> ¬ (L.g j 0=v.o/\L.g j 1=v.req):=fun j d e=>by
  obtain⟨i,r,w⟩:=h.g1 j d;rw[<- w]at e;exact y i r e
 have b:Fx.cB L.g (Fx.down (fun i=>EO v (L.g i)) L.gn) (pV v) p 0=Fx.cB L.g (Fx.down (fun i=>EO v (L.g i)) L.gn) (pV v) q 0:=b;have a:Fx.cB L.g (Fx.down (fun i=>EO v (L.g i)) L.gn) (pV v) p 1=Fx.cB L.g (Fx.down (fun i=>EO v (L.g i)) L.gn) (pV v) q 1:=a;generalize Fx.down (fun i=>EO v (L.g i)) L.gn=k at b a u
 rcases dU u z with c|⟨j,d,f1,f2,f3⟩
 ·rcases dU u f with l|⟨j',hj',f1',f2',f3'⟩
  ·omega
  rw[c,dG,f1']at b a; exact L_ ⟨b.symm,a.symm⟩ (C j' hj')
 rcases dU u f with l|⟨j',hj',f1',f2',f3'⟩
 ·rw[l,dG,f1]at b a; exact L_ ⟨b,a⟩ (C j d)
 rw[f1,f1']at b a;have:=h.li j j' d hj' b a;omega
attribute [local irreducible] fu dz dA in
theorem fT.qw(h:fT m L)(l:m.T.ok)(k:Inv0 L N)(f:bS v=true):jf m v=iH L v:=by
 unfold jf iH;by_cases c:gQ m v.o v.req=true
 ·rw[d_ c,d_ ((h.asked f _).1 c)]
 rw[b_ c,b_ (fun e=>c ((h.asked f _).2 e))];obtain⟨d,j⟩:=h.grant v.o v.of;by_cases b:0<=L.grant v.o v.of
 ·obtain⟨p,r,i,s,t⟩:=j b;have n:=d.2 b;have e:(iF m v.o v.of=false\/m.g (eP m v.o v.of) 4≠0)<->(L.grant v.o v.of<0\/L.g (zm L v) 4≠0):=by
   rw[i,n];show _<->_\/L.g (L.grant v.o v.of).toNat 4≠0;constructor
   ·rintro (h|h)
    ·cases h
    ·exact .inr h
   ·rintro (h|h)
    ·omega
    ·exact .inr h
  by_cases a:L.grant v.o v.of<0\/L.g (zm L v) 4≠0
  ·rw[d_ a,d_ (e.2 a)]
  rw[b_ a,b_ (fun q=>a (e.1 q)),i];exact(h.along l k _ _).1
 rw[d_ (.inl (by
  cases e:iF m v.o v.of with
  | false=>rfl
  | true=>exact L_ (d.1 e) b)),d_ (.inl (by omega))]
attribute [local irreducible] fu dz dA in
theorem fT.free(h:fT m L)(G:m.T.ok)(F:Inv0 L N)(I:bS v=true)(k:iH L v=0):fT (iB m v) (jZ L v):=by
 unfold iH at k;split at k
 ·cases k
 split at k
 ·cases k
 rename_i c2;have E:0<=L.grant v.o v.of:=by rcases ZA (L.grant v.o v.of)with h1|h1; exact L_ (.inl h1) c2; exact h1
 obtain⟨C,D,t,K,M⟩:=(h.grant v.o v.of).2 E;have H:=(h.along G F (fun x=>bE x v.o (L.g (zm L v) 3)) (L.g (zm L v) 2)).2 k;obtain⟨k1,k2,J⟩:=h.OV I (iB m v) (jZ L v) rfl rfl rfl rfl rfl;have A:zm L v=(L.grant v.o v.of).toNat:=rfl;have w : ∀ j,(iB m v).g j=if j=eP m v.o v.of then upd (m.g (eP m v.o v.of)) 4 v.req else m.g j:=fun j=>rfl;have u : ∀ q,(jZ L v).g q=if q=zm L v then aH (L.g (zm L v)) 4 v.req else L.g q:=fun q=>rfl;have B:upd (m.g (eP m v.o v.of)) 4 v.req=aH (L.g (zm L v)) 4 v.req:=by rw[t]; rfl
 have f : ∀ j p,(p=0\/p=1)->(iB m v).g j p=m.g j p:=fun j p s=>by
  rw[w];by_cases c:j=eP m v.o v.of
  ·subst c; rw[d_ rfl]; rcases s with rfl|rfl <;> rfl
  ·rw[b_ c]
 have z : ∀ j p,(p=0\/p=1)->(jZ L v).g j p=L.g j p:=fun j p s=>by
  rw[u];by_cases c:j=zm L v
  ·subst c; rw[d_ rfl]; rcases s with rfl|rfl <;> rfl
  ·rw[b_ c]
 refine {
  T:=⟨h.T.has,h.T.n,h.T.par⟩
  inn:=h.inn
  left:=h.left
  known:=h.known
  row:=fun i r => ?_
  own:=h.own
  gi:=fun i j r a l d=>h.gi i j r a (by rw[f i 0 (.inl rfl),f j 0 (.inl rfl)]at l; exact l) (by rw[f i 1 (.inr rfl),f j 1 (.inr rfl)]at d; exact d)
  gn:=h.gn
  g1:=fun q b => ?_
  g2:=fun j a => ?_
  ask:=k1
  ga:=fun i r=>by rw[f i 0 (.inl rfl),f i 1 (.inr rfl)]; exact k2 _ _ (h.ga i r)
  li:=fun p q s b l d=>h.li p q s b (by rw[z p 0 (.inl rfl),z q 0 (.inl rfl)]at l; exact l) (by rw[z p 1 (.inr rfl),z q 1 (.inr rfl)]at d; exact d) }
 ·have:=H i r;show(oF m (fun x=>bE x v.o (m.g (eP m v.o v.of) 3)) (m.T.path (m.g (eP m v.o v.of) 2))).R (m.idx (L.id i))=_;rw[t]; exact this
 ·have b:q<L.gn:=b;rw[u];by_cases c:q=zm L v
  ·rw[d_ c]; exact⟨eP m v.o v.of,D,by rw[w,d_ rfl,B]⟩
  rw[b_ c];obtain⟨j,a,y⟩:=h.g1 q b;refine⟨j,a,?_⟩;rw[w,b_]
  ·exact y
  intro e;rw[e,t]at y;exact c (h.li q _ b C (congrFun y.symm 0) (congrFun y.symm 1))
 have a:j<m.gn:=a;rw[w];by_cases c:j=eP m v.o v.of
 ·rw[d_ c]; exact⟨zm L v,C,by rw[u,d_ rfl,B]⟩
 rw[b_ c];obtain⟨q,b,e⟩:=h.g2 j a;refine⟨q,b,?_⟩;rw[u,b_]
 ·exact e
 intro d;rw[d]at e;exact c (h.gi j _ a D (by rw[t,<- e,A]) (by rw[t,<- e,A]))
theorem fT.move(h:fT m L)(i:m.T.ok)(a:Inv0 L N)(k:bS v=true)(j:v.kind=5):kg m v=oC L v/\(oC L v=0->fT (CQ m v) (EZ L v)):=by
 obtain⟨b,l,n⟩:=OB k j;unfold kg oC;by_cases c:L.node v.node<0
 ·rw[d_ c,d_ ((h.K7 a _).2 c)];exact⟨rfl,fun h=>by cases h⟩
 have f:0<=L.node v.node:=by omega
 rw[b_ c,b_ (fun e=>c ((h.K7 a _).1 e)),h.inn];have g:rJ m v=xQ L v:=by unfold rJ xQ; rw[<- h.rk a f]; rfl
 have e:(v.dst<1\/6<v.dst\/L.inn (v.dst-1).toNat=false)<->L.inn (v.dst-1).toNat=false:=⟨fun h=>by rcases h with h|h|h; omega; omega; exact h,fun h => .inr (.inr h)⟩
 by_cases d:L.inn (v.dst-1).toNat=false
 ·rw[d_ d,d_ (e.2 d)];exact⟨rfl,fun h=>by cases h⟩
 rw[b_ d,b_ (fun q=>d (e.1 q)),g];refine⟨rfl,fun _ => ?_⟩;have:=h.BO i a ((h.node a _).2 f) (xQ L v).1;unfold CQ EZ;rw[g]; exact this
theorem fT.raise(h:fT m L)(f:m.T.ok)(a:Inv0 L N):jv m v=wh L v/\(wh L v=0->fT (tX m v) (EY L v)):=by
 unfold jv wh;by_cases c:L.node v.node<0
 ·rw[d_ c,d_ ((h.K7 a _).2 c)];exact⟨rfl,fun h=>by cases h⟩
 have b:0<=L.node v.node:=by omega
 have d:m.R (m.idx v.node)=L.R (L.node v.node).toNat:=h.rk a b;rw[b_ c,b_ (fun e=>c ((h.K7 a _).1 e)),d];refine⟨rfl,fun _ => ?_⟩;unfold tX EY;rw[d];exact h.BO f a ((h.node a _).2 b) _
theorem fT.does(h:fT m L)(c:m.T.ok)(b:Inv0 L N)(d:bS v=true):fB m v=dR L v/\(dR L v=0->fT (gZ m v) (iI L v)):=by
 have j:=iW d;unfold fB dR gZ iI;by_cases k1:v.kind=1
 ·rw[d_ k1,d_ k1,d_ k1,d_ k1]; exact⟨h.agQ c b d k1,fun e=>h.make c b d k1 e⟩
 rw[b_ k1,b_ k1,b_ k1,b_ k1];by_cases k2:v.kind=2
 ·rw[d_ k2,d_ k2,d_ k2,d_ k2]; exact h.raise c b
 rw[b_ k2,b_ k2,b_ k2,b_ k2];by_cases f:v.kind=3
 ·rw[d_ f,d_ f,d_ f,d_ f]; exact⟨h.qp c b d,fun e=>h.take c b d e⟩
 rw[b_ f,b_ f,b_ f,b_ f];by_cases g:v.kind=4
 ·rw[d_ g,d_ g,d_ g,d_ g]; exact⟨h.qw c b d,fun e=>h.free c b d e⟩
 rw[b_ g,b_ g,b_ g,b_ g];by_cases a:v.kind=5
 ·rw[d_ a,d_ a,d_ a,d_ a]; exact h.move c b d a
 rw[b_ a,b_ a,b_ a,b_ a];by_cases i:v.kind=6
 ·rw[d_ i,d_ i,d_ i];exact⟨rfl,fun _ => { h with T:=⟨h.T.has,h.T.n,h.T.par⟩,inn:=by show aH m.inn _ true=aH L.inn _ true; rw[h.inn] }⟩
 rw[b_ i,b_ i,b_ i];exact⟨rfl,fun _ => { h with T:=⟨h.T.has,h.T.n,h.T.par⟩,left:=by show aH m.left _ true=aH L.left _ true; rw[h.left] }⟩
theorem fT.apply(h:fT m L)(f:m.T.ok)(d:Inv0 L N)(v:EvM):cu m v=bJ L v/\fT (fO m v) (bP L v):=by
 have e:cu m v=bJ L v:=by
  unfold cu bJ;rw[h.known,h.inn,h.left]
  cases b:bS v with
  | false=>rfl
  | true =>
    rw[(h.does f d b).1]
 refine⟨e,?_⟩;unfold fO bP;rw[e];by_cases c:bJ L v=0
 ·rw[d_ c,d_ c];have b:=(FW (jI c)).1;have g:dR L v=0:=by
   unfold bJ at c;rw[b_ (by rw[b]; decide)]at c;split at c; · cases c
   split at c; · cases c
   split at c; · cases c
   exact c
  have a:=(h.does f d b).2 g;exact { a with T:=⟨a.T.has,a.T.n,a.T.par⟩,known:=by show aH (gZ m v).known _ _=aH (iI L v).known _ _; rw[a.known] }
 rw[b_ c,b_ c]; exact h
theorem fT.sound(h:fT m L)(k:m.T.ok)(c:Inv0 L N):QlK m := {
 own:=fun a l=>by
  have b:=OU (f:=L.id) (o:=(a:Int)+1) L.nn;have d:=c.nn;rw[h.own a l]; omega
 row:=fun i g p n=>by
  obtain⟨j,hj,e⟩:=(h.T.has _).1 (dL.zu g);have b:=h.row j hj;rw[e]at b;have d:m.idx (m.T.x i)=i:=mG k.inj g rfl;unfold CW at b;rw[d]at b;rw[b];exact mD (c.may j hj) p n
 ga:=h.ga
 kn:=by rw[h.known]; exact c.kn }
end
end Rt
end Go.Proofs.YtahbiajdgealnaaGreatDoor
