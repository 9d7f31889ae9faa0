/-
  What the proof of the law rests on, part 6: walks of functions, and plain laws; each says its conditions itself.
-/
import Derived.Shelf.SlSortCmp.NoneTotal
import Derived.Shelf.SlSortCmp.WholeK
import Derived.Lib.SliceRun
import Derived.Ground.SlsfProg
import Derived.Test.YtcbedgfikejkoaaGreatDoorProg
import Derived.Test.YtcbedgfikejkoaaGreatDoorZA5
set_option maxRecDepth 20000
set_option linter.unusedVariables false
set_option maxHeartbeats 1600000
set_option linter.unusedSimpArgs false
namespace Go.Proofs.YtcbedgfikejkoaaGreatDoor
open Go.RowKit
namespace Fx
abbrev QV:=List (Nat × List Nat)
def Ih(ops:List Oper)(a:List Nat)(b:Bool)(i:Nat)(l:QV):Bool:=l.all fun x=>match a[x.1]? with|some e => !Nat.beq i e&&(if b then xQ ops i x.2 e else xQ ops e x.2 i)|none=>false
def NH(ops:List Oper)(a:List Nat)(c b:List QV):Bool:=(List.range ops.length).all fun i=>Ih ops a true i (c.getD i [])&&Ih ops a false i (b.getD i [])
def qg(a:List Nat)(b:Array Bool)(j:Nat):Bool:=match a[j]? with|some e=>b.getD e false|none=>false
def Vs(m:Nat->Bool)(j:Nat):Nat->Bool:=fun q=>bif Nat.beq q j then true else m q
section
variable {P:Program} {n:Nat} {Q:Post} {f:Nat->Value} {w:World} {ops:List Oper}
theorem QW{i e:Nat}{p:List Nat}{b:Array Bool}(hr:i∈Region.ready .any ops.toArray b)(j:JO ops.toArray .any b)(d:i≠e)(h:xQ ops i p e=true):b.getD e false=true:=by
 obtain⟨m,n,l,g⟩:=fM hr;obtain⟨f,h⟩:=jf h
 cases f with
 | zero=>unfold reach at h; exact M_ (by simpa using h) d
 | succ f =>
   unfold reach at h;rw[Bool.or_eq_true]at h
   rcases h with h|h
   ·exact M_ (by simpa using h) d
   ·rw[l]at h;simp only at h;rw[Array.any_eq_true']at h;obtain⟨c,k,a⟩:=h;rw[S_]at a;refine j.reach _ _ a.2<|g c.on ?_;unfold dI;rw[Array.any_eq_true'];exact⟨c,k,by rw[a.1,Nat.beq_refl]; rfl⟩
theorem W.masks{id:Nat}(o:List Nat)(X po:List QV)(y:Gh->Nat->Value)(S:(Nat->Bool)->Gh->World->Prop)(hm:P.follows .mixedOrders=true)(U:lX n ops=true)(hsel:Region.noSelect ops.toArray=true)(Vt:NH ops o X po=true)
 (hes:o.all (fun e=>Nat.blt e ops.length&&(match (opAt ops e).guard with|none=>true|_=>false))=true) (hnd:o.Nodup) (r0:Gh)
 (h0 : ∀ D,Below w.heap.size w D->D.heap.size=w.heap.size->S (fun _=>false) r0 D)
 (J : ∀ i,i<ops.length->o.contains i=false -> ∀ r m w,(∀ x∈X.getD i [],m x.1=true)->(∀ x∈po.getD i [],m x.1=false)->S m r w->if Region.wanted (opAt ops i) (yf ops.toArray (full ops f (y r)))then Oper.quietUpon P (S m r) w (y r i) ((execOp (ev (full ops f (y r))) (opAt ops i)).run P w)else y r i=undef)
 (I : ∀ j i,o[j]? = some i -> ∀ r m w (a:Act) (K:Act->World->Prop),(∀ x∈X.getD i [],m x.1=true)->(∀ x∈po.getD i [],m x.1=false)->m j=false->S m r w->(∀ x∈(opAt ops i).op.operands,a.eval x=ev (full ops f (y r)) x)->(∀ p C,S (Vs m j) (qP r j p) C->K (a.put (opAt ops i).dst (y (qP r j p) i)) C)->(opAt ops i).wp P a w K (lift n Q))
 (hd : ∀ i,i<ops.length -> ∀ j r p,(∀ x∈X.getD i [],x.1≠j)->o[j]? ≠ some i->j<o.length->y (qP r j p) i=y r i)
 (h : ∀ r m C,(∀ j,j<o.length->m j=true)->S m r C->Q .normal (full ops f (y r)) C):W P n (.region id ops.toArray true) Q f w:=fun a M=>by
 refine wp_region_any hm ?_;have Z : ∀ i,i<ops.length->Ih ops o true i (X.getD i [])=true/\Ih ops o false i (po.getD i [])=true:=fun i t=>by
  unfold NH at Vt;rw[List.all_eq_true]at Vt;have:=Vt i (by simpa using t)
  rwa [S_]at this
 have hpr : ∀ i,i<ops.length -> ∀ x∈X.getD i [],∃ e,o[x.1]? = some e/\i≠e/\xQ ops i x.2 e=true:=fun i t x G=>by
  have c:=(Z i t).1;unfold Ih at c;rw[List.all_eq_true]at c;have c:=c x G
  cases I:o[x.1]? with
  | none=>rw[I]at c; cases c
  | some e =>
    rw[I]at c;simp only[if_true,S_]at c;exact⟨e,rfl,fun q=>by subst q; rw[Nat.beq_refl]at c; exact M_ c.1 (by simp),c.2⟩
 have hpo : ∀ i,i<ops.length -> ∀ x∈po.getD i [],∃ e,o[x.1]? = some e/\xQ ops e x.2 i=true:=fun i t x G=>by
  have c:=(Z i t).2;unfold Ih at c;rw[List.all_eq_true]at c;have c:=c x G
  cases I:o[x.1]? with
  | none=>rw[I]at c; cases c
  | some e =>
    rw[I]at c;simp only[S_]at c;exact⟨e,rfl,by simpa using c.2⟩
 have RV : ∀ k i,o[k]? = some i->i<ops.length/\(opAt ops i).guard=none:=fun k i hk=>by
  rw[List.all_eq_true]at hes;have:=hes i (List.mem_of_getElem? hk);rw[S_]at this;refine⟨by simpa [Nat.blt_eq] using this.1,?_⟩
  cases hg:(opAt ops i).guard with
  | none=>rfl
  | some _=>rw[hg]at this; exact M_ this.2 (by simp)
 have key : ∀(O:Nat) (b:Array Bool) (a:Act) (D:World) (r:Gh),b.size=ops.length->JO ops.toArray .any b->Fr a n (over ops f (y r) b)->S (qg o b) r D ->
  (∀ N:List Nat,N=(List.range ops.length).filter (fun i => !b.getD i false)->N.length=O)->wpAny P .any ops.toArray (lift n Q) O b a D:=by
  intro O
  induction O with
  | zero =>
    intro b a D r V DC M R Y;have T : ∀ i,i<ops.length->b.getD i false=true:=fun i t=>by
     have c:=List.eq_nil_of_length_eq_zero (Y _ rfl)
     cases J:b.getD i false
     ·have:i∈(List.range ops.length).filter (fun i => !b.getD i false):=(by simp only[List.mem_filter,O_]; exact⟨t,by rw[J]; rfl⟩);rw[c]at this; cases this
     ·rfl
    have hnone:Region.ready .any ops.toArray b = []:=by
     cases J:Region.ready .any ops.toArray b with
     | nil=>rfl
     | cons i l =>
       have F:i∈Region.ready .any ops.toArray b:=(by rw[J]; exact List.mem_cons_self);obtain⟨c,E,_,_⟩:=fM F;rw[T i E]at c; cases c
    refine⟨hnone,full ops f (y r),?_,h r _ D (fun j A => ?_) R⟩
    ·have:over ops f (y r) b=full ops f (y r):=by
      funext s
      unfold over full
      cases Z:writer ops s with
      | none=>rfl
      | some i=>simp only; rw[d_ (T i (nE Z).2)]
     exact this ▸ M
    ·unfold qg;rw[o_ A];exact T _ (RV j _ (o_ A)).1
  | succ O ih =>
    intro b a D r V DC M R Y;have hcount : ∀ i,i∈Region.ready .any ops.toArray b -> ∀ N:List Nat,N=(List.range ops.length).filter (fun j => !(b.setIfInBounds i true).getD j false)->N.length=O:=by
     intro i F N aaR;obtain⟨c,E,_,_⟩:=fM F;subst aaR;have e:(List.range ops.length).filter (fun j => !(b.setIfInBounds i true).getD j false)=((List.range ops.length).filter (fun i => !b.getD i false)).erase i:=by
      rw[List.Nodup.erase_eq_filter (List.Nodup.sublist List.filter_sublist List.nodup_range),List.filter_filter];apply List.filter_congr;intro j A;by_cases e:i=j
      ·subst e; rw[set_self (by rw[V]; exact E)]; simp
      ·rw[kg e];have:(j != i)=true:=(by simp; exact fun q=>e q.symm);rw[this,Bool.true_and]
     rw[e,List.length_erase_of_mem (by simp only[List.mem_filter,O_]; exact⟨E,by rw[c]; rfl⟩),Y _ rfl];rfl
    refine⟨fun hnone => ?_,fun i F => ?_⟩
    ·exfalso;have hlen:=Y _ rfl;exact(by
      have : ∃ i,i∈Region.ready .any ops.toArray b:=by
       obtain⟨q,J⟩ : ∃ q,q∈(List.range ops.length).filter (fun i => !b.getD i false):=by
        cases hfe:(List.range ops.length).filter (fun i => !b.getD i false)with
        | nil=>rw[hfe]at hlen; cases hlen
        | cons q l=>exact⟨q,List.mem_cons_self⟩
       have MG : ∀ m q,q<=m->q<ops.length->b.getD q false=false -> ∃ i,i<ops.length/\b.getD i false=false /\ ∀ j,j<i->b.getD j false=true:=by
        intro m
        induction m with
        | zero=>intro q hm B hq2; exact⟨q,B,hq2,fun j A=>by omega⟩
        | succ m ihm =>
          intro q hm B hq2;by_cases T : ∀ j,j<q->b.getD j false=true
          ·exact⟨q,B,hq2,T⟩
          ·obtain⟨j,A⟩:=Classical.not_forall.1 T;obtain⟨hj1,hj2⟩:=Classical.not_imp.1 A;exact ihm j (by omega) (by omega) (by simpa using hj2)
       simp only[List.mem_filter,O_]at J;obtain⟨i,t,hi1,hi2⟩:=MG q q (A_ _) J.1 (by simpa using J.2);refine⟨i,mem_ready.2 ⟨getD_in (by rw[V]; exact t) hi1,opAt ops i,?_,fun e I hb=>hi2 e.on ((fF U t).2.2.2 e.on ?_)⟩⟩
       ·unfold opAt; rw[List.getElem?_toArray,r_,o_ t]; rfl
       ·unfold dI; rw[Array.any_eq_true']; exact⟨e,I,by rw[hb,Nat.beq_refl]; rfl⟩
      obtain⟨i,t⟩:=this;rw[hnone]at t; cases t)
    ·obtain⟨c,t,hop,T⟩:=fM F;have hsz':(b.setIfInBounds i true).size=ops.length:=(by simpa using V);have J8:=DC.set F;have hev:=Oj (f:=f) U (v:=y r) F;have hae : ∀ x∈(opAt ops i).op.operands,a.eval x=ev (full ops f (y r)) x:=fun x G=>by rw[M.ev]; exact hev x G
     have hex:execOp a.eval (opAt ops i)=execOp (ev (full ops f (y r))) (opAt ops i):=execOp_congr _ (Region.noSelect_spec hsel i _ · · hop) hae;have hwant:Region.wanted (opAt ops i) (yielded ops.toArray a.tmps)=Region.wanted (opAt ops i) (yf ops.toArray (full ops f (y r))):=(by rw[M.yf]; exact CY U F);have hpre : ∀ x∈X.getD i [],qg o b x.1=true:=fun x G=>by
      obtain⟨e,E,h3,H⟩:=hpr i t x G;unfold qg;rw[E]; exact QW F DC h3 H
     have hpost : ∀ x∈po.getD i [],qg o b x.1=false:=fun x G=>by
      obtain⟨e,E,H⟩:=hpo i t x G;unfold qg;rw[E]
      cases hle:b.getD e false with
      | false=>exact hle
      | true =>
        obtain⟨mm,H⟩:=jf H;have:=DC.reach _ _ H hle;rw[c]at this; cases this
     unfold wpOp;simp only[hop];rw[hwant];by_cases hne:o.contains i=true
     ·have hmem:i∈o:=(by simpa using hne);obtain⟨j,A⟩:=List.getElem?_of_mem hmem;have hg:=(RV j i A).2;have hjl:j<o.length:=(List.getElem?_eq_some_iff.1 A).1;rw[d_ (by unfold Region.wanted; rw[hg])];refine .inl<|I j i A r _ D a _ hpre hpost (by unfold qg; rw[A]; exact c) R hae fun p C hS' => ?_;have hsame:over ops f (y r) b=over ops f (y (qP r j p)) b:=by
       funext s
       unfold over
       cases Z:writer ops s with
       | none=>rfl
       | some q =>
         simp only
         cases hlq:b.getD q false
         ·rfl
         ·simp only[if_true];have hqi:=(nE Z).2;refine(hd q hqi j r p (fun x G e => ?_) (fun e => ?_) hjl).symm
          ·obtain⟨L,E,h3,H⟩:=hpr q hqi x G;obtain⟨mm,H⟩:=jf H;have h5:=DC.reach _ _ H hlq;rw[e,A]at E;rw[<- C_ E,c]at h5; cases h5
          ·rw[A]at e;rw[<- C_ e,c]at hlq; cases hlq
      refine ih _ _ _ (qP r j p) hsz' J8 ?_ ?_ (hcount i F)
      ·have:=(hsame ▸ M).put (d:=(opAt ops i).dst) (by
        cases hd:(opAt ops i).dst with
        | none=>rfl
        | some d=>simp[inn,Nat.blt_eq,((fF U t).1 d hd).2]) (y (qP r j p) i)
       rwa [AP U V t]at this
      ·have e:qg o (b.setIfInBounds i true)=Vs (qg o b) j:=by
        funext q
        unfold Vs
        cases hb:Nat.beq q j with
        | true =>
          have:=B_ hb;subst this;unfold qg;rw[A]; exact set_self (by rw[V]; exact t)
        | false =>
          have hqj:q≠j:=fun z=>by rw[z,Nat.beq_refl]at hb; cases hb
          unfold qg
          cases hqe:o[q]? with
          | none=>rfl
          | some L =>
            have:i≠L:=fun z=>by
             subst z;have h9:=List.getElem?_eq_some_iff.1 hqe;have h10:=List.getElem?_eq_some_iff.1 A;exact hqj ((List.getElem_inj hnd).1 (h9.2.trans h10.2.symm))
            exact kg this
       rw[e]; exact hS'
     ·have hne':o.contains i=false:=(by simpa using hne);have B:=J i t hne' r _ D hpre hpost R;have hfin : ∀ C,S (qg o b) r C->wpAny P .any ops.toArray (lift n Q) O (b.setIfInBounds i true) (a.put (opAt ops i).dst (y r i)) C:=fun C hS'=>by
       refine ih _ _ _ r hsz' J8 ?_ ?_ (hcount i F)
       ·have:=M.put (d:=(opAt ops i).dst) (by
         cases hd:(opAt ops i).dst with
         | none=>rfl
         | some d=>simp[inn,Nat.blt_eq,((fF U t).1 d hd).2]) (y r i)
        rwa [AP U V t]at this
       ·have e:qg o (b.setIfInBounds i true)=qg o b:=by
         funext q
         unfold qg
         cases hqe:o[q]? with
         | none=>rfl
         | some L =>
           have:i≠L:=fun z=>by subst z; exact M_ (show o.contains i=true by simpa using List.mem_of_getElem? hqe) hne
           exact kg this
        rw[e]; exact hS'
      by_cases hwt:Region.wanted (opAt ops i) (yf ops.toArray (full ops f (y r)))=true
      ·rw[d_ hwt]at B ⊢;refine .inl ?_;unfold Oper.wp;rw[hex];generalize (execOp (ev (full ops f (y r))) (opAt ops i)).run P D=res at B
       cases res with
       | ok nx C =>
         cases nx <;> simp only[Oper.quietUpon]at B <;> simp only[Oper.upon]
         case value u=>obtain⟨e1,L⟩:=B; subst e1 L; exact hfin _ R
         case skip=>obtain⟨e1,L⟩:=B; subst e1; rw[<- L]; exact hfin _ R
         case enter g args =>
          obtain⟨e1,hc⟩:=B;subst e1;exact hc.mono fun e w'' ⟨he',hw''⟩=>by subst he'; exact hfin _ hw''
       | halt x C=>simp only[Oper.quietUpon]at B
      ·rw[b_ hwt]at B ⊢;rw[<- B];exact hfin _ R
 have hrep : ∀ i,(Array.replicate ops.toArray.size false).getD i false=false:=fun i=>by
  rw[Array.getD_eq_getD_getElem?];by_cases t:i<ops.length
  ·simp[t]
  ·simp[t]
 have hstart:over ops f (y r0) (Array.replicate ops.toArray.size false)=f:=by
  funext s
  unfold over
  cases writer ops s with
  | none=>rfl
  | some i=>simp only; rw[hrep]; simp
 have hdn:qg o (Array.replicate ops.toArray.size false)=fun _=>false:=by
  funext j
  unfold qg
  cases o[j]? with
  | none=>rfl
  | some e=>exact hrep e
 have:=key ops.toArray.size (Array.replicate ops.toArray.size false) a { w with drawn:=w.drawn+1 } r0 (by simp) (JO.start _ _ _) (by rw[hstart]; exact M) (by rw[hdn]; exact h0 _ (Below.refl _ _).drew rfl) (fun N Y=>by
  subst Y;rw[List.filter_eq_self.2 (fun i _=>by rw[hrep]; rfl)];simp)
 simpa using this
theorem eB{r:Gh}{k j:Nat}{p:Nat × Nat}(h:j≠k):qP r k p j=r j:=by
 unfold qP;have:Nat.beq j k=false:=by
  cases hq:Nat.beq j k
  ·rfl
  ·exact M_ (B_ hq) h
 rw[this]; rfl
theorem Lm{o:Oper}{ρ:Operand->Value}{T:TypeId}{m:Nat}{z:Nat->Value}(d:o.op = .alloc T)(e:((P.info? T).bind (·.zero)).map (·.cells)=some (aA m z))(a:World) : ∃ b,(execOp ρ o).run P a = .ok (.value (.pointer (some ⟨a.heap.size,0,none⟩))) b/\aR b a.heap.size m z T/\Stp a.heap.size a b:=by
 obtain⟨i,f,g⟩:=Option.map_eq_some_iff.1 e;obtain⟨j,c,h⟩:=Option.bind_eq_some_iff.1 f;refine⟨a.alloc (.cells i.cells T),?_,?_,Stp.alloc _ _⟩
 ·unfold execOp;simp[d,Instr.alloc,zeroValue,typeInfo,c,h,newVar,newRow]
 show(a.alloc _).heap[a.heap.size]? = _;rw[alloc_at,d_ rfl,g]
theorem Lp{o:Oper}{ρ:Operand->Value}{T T':TypeId}{a v:Operand}{m g:Nat}{x y:Nat->Value}{u:Value}(A:o.op = .store T' a v)(l:(P.info? T').map (·.size)=some m)(n:ρ a = .pointer (some ⟨g,0,none⟩))(p:ρ v=u)(D:u.cells=aA m y)(h1 : ∀ j,j<m->(y j).oneCell'=true){b:World}(t:aR b g m x T) : ∃ d,(execOp ρ o).run P b = .ok .skip d/\aR d g m y T/\Stp g b d:=by
 have h:b.heap[g]? = some (.cells (aA m x) T (0,0)):=t;have s:(aA m y).all (·.oneCell')=true:=by
  rw[Array.all_eq_true_iff_forall_mem];intro q B;obtain⟨j,i,z⟩:=Array.getElem_of_mem B;have k:j<m:=by simpa [bY] using i
  have e:=fK y k;rw[Array.getElem?_eq_getElem i,z]at e;rw[C_ e]; exact h1 j k
 have C:(storeVar T' ⟨g,0,none⟩ u).run P b = .ok () (b.setRow g (aA m y)):=by
  have f:=run_storeCells_at (P:=P) g 0 T (aA m y).toList 0 (aA m x) b h (by simp[bY]) (fun q c=>(Array.all_eq_true_iff_forall_mem.1 s) q (by simpa using c));have r:((aA m x).toList.take (0+0)++(aA m y).toList++(aA m x).toList.drop (0+0+(aA m y).toList.length)).toArray=aA m y:=by
   rw[List.drop_eq_nil_of_le (by simp[bY])]; simp
  rw[r]at f
  cases c:P.info? T' with
  | none=>simp[c]at l
  | some ti =>
    have E:ti.size=m:=(by simp[c]at l; omega);simp only[storeVar,sizeOf,typeInfo,Sem.run_bind,run_program,c,D,bY,E,ne_eq,not_true_eq_false,if_false,Result.andThen_ok,Sem.run_pure,f]
 obtain⟨F,G,H⟩:=zO (w:=b) (cs:=aA m y) h;refine⟨_,?_,G,F⟩;unfold execOp;simp only[A,n,p,Instr.storeAt,Instr.sureAddr,Sem.run_bind,Sem.run_pure,Result.andThen_ok,C]
def Cy(c d:Nat)(vs:Array Value)(a b:Nat):Nat->Value:=fun i=>bif Nat.beq i c then .pointer (some ⟨a,0,none⟩)else bif Nat.beq i d then .pointer (some ⟨b,0,none⟩)else vs.getD i undef
def Jz(ops:List Oper)(f:Nat->Value)(c d:Nat)(vs:Array Value)(a b:Nat):Nat->Value:=full ops f (Cy c d vs a b)
structure YH(w:World)(m1 m2:Nat)(z1 y1 z2 y2:Nat->Value)(T1 T2:TypeId)(m:Nat->Bool)(r:Gh)(v:World):Prop where
 b:Below w.heap.size w v
 a:m 0=true->w.heap.size<=(r 0).1/\aR v (r 0).1 m1 (if m 2=true then y1 else z1) T1
 c:m 1=true->w.heap.size<=(r 1).1/\aR v (r 1).1 m2 (if m 3=true then y2 else z2) T2
 ne:m 0=true->m 1=true->(r 0).1≠(r 1).1
theorem YH.up{m1 m2:Nat}{z1 y1 z2 y2:Nat->Value}{T1 T2:TypeId}{m:Nat->Bool}{r:Gh}{v e:World}(h:YH w m1 m2 z1 y1 z2 y2 T1 T2 m r v)(d:Below v.heap.size v e):YH w m1 m2 z1 y1 z2 y2 T1 T2 m r e :=
 ⟨JN h.b d,fun q=>⟨(h.a q).1,(h.a q).2.cO (Sb d) (u_ (h.a q).2.lt)⟩,fun q=>⟨(h.c q).1,(h.c q).2.cO (Sb d) (u_ (h.c q).2.lt)⟩,h.ne⟩
def NI(P:Program)(a:Nat->Value)(ops:Array Oper)(w:World)(b:List Nat)(vs:Array Value):List Oper->Nat->Prop
 | [],_=>True
 | o::l,i=>(b.contains i=true\/(if Region.wanted o (yf ops a)then QB P (ev a) o w (vs.getD i undef)else vs.getD i undef=undef))/\NI P a ops w b vs l (i+1)
theorem Ii{a:Nat->Value}{c:Array Oper}{b:List Nat}{vs:Array Value} : ∀ {l:List Oper} {k:Nat},NI P a c w b vs l k -> ∀ i,i<l.length->(b.contains (k+i)=true\/(if Region.wanted (opAt l i) (yf c a)then QB P (ev a) (opAt l i) w (vs.getD (k+i) undef)else vs.getD (k+i) undef=undef))
 | [],_,_,i,hi=>M_ hi (by simp)
 | o::l,k,h,0,_=>h.1
 | o::l,k,h,i+1,hi=>by
   have:=Ii h.2 i (by simpa using hi)
   rwa [show k+1+i=k+(i+1) by omega]at this
theorem FN{i j:Nat}(h:i≠j):Nat.beq i j=false:=by
 cases hq:Nat.beq i j
 ·rfl
 exact M_ (B_ hq) h
def CB(l:QV)(j:Nat):Bool:=l.any fun x=>Nat.beq x.1 j
theorem wT{l:QV}{j:Nat}(h:CB l j=true) : ∃ x∈l,x.1=j:=by
 unfold CB at h;rw[List.any_eq_true]at h;obtain⟨x,a,b⟩:=h;exact⟨x,a,B_ b⟩
theorem GA{id:Nat}{T1 T2 T1' T2':TypeId}{a1 v1 a2 v2:Operand}{m1 m2:Nat}{z1 y1 z2 y2:Nat->Value}{u1 u2:Value}(k l y z:Nat)(O N:List QV)(vs:Array Value)(hm:P.follows .mixedOrders=true)(hok:lX n ops=true)(hsel:Region.noSelect ops.toArray=true)(Vt:NH ops [k,l,y,z] O N=true)
 (hes : [k,l,y,z].all (fun e=>Nat.blt e ops.length&&(match (opAt ops e).guard with|none=>true|_=>false))=true) (hnd:decide [k,l,y,z].Nodup=true)
 (hw1:CB (O.getD y []) 0=true) (hw2:CB (O.getD z []) 1=true) (hw3:CB (N.getD k []) 2=true) (hw4:CB (N.getD l []) 3=true)
 (o1:(opAt ops k).op = .alloc T1) (o2:(opAt ops l).op = .alloc T2) (n1:((P.info? T1).bind (·.zero)).map (·.cells)=some (aA m1 z1)) (n2:((P.info? T2).bind (·.zero)).map (·.cells)=some (aA m2 z2))
 (V:(opAt ops y).op = .store T1' a1 v1) (X:(opAt ops z).op = .store T2' a2 v2) (Y:(opAt ops y).dst=none) (Z:(opAt ops z).dst=none) (e1:(P.info? T1').map (·.size)=some m1) (e2:(P.info? T2').map (·.size)=some m2)
 (ha1 : ∀ o s,ev (Jz ops f k l vs o s) a1 = .pointer (some ⟨o,0,none⟩)) (ha2 : ∀ o s,ev (Jz ops f k l vs o s) a2 = .pointer (some ⟨s,0,none⟩)) (hv1 : ∀ o s,ev (Jz ops f k l vs o s) v1=u1) (hv2 : ∀ o s,ev (Jz ops f k l vs o s) v2=u2)
 (hu1:u1.cells=aA m1 y1) (hu2:u2.cells=aA m2 y2) (h11 : ∀ j,j<m1->(y1 j).oneCell'=true) (h12 : ∀ j,j<m2->(y2 j).oneCell'=true)
 (hq : ∀ o s,NI P (Jz ops f k l vs o s) ops.toArray w [k,l,y,z] vs ops 0)
 (h : ∀ o s F f',f'=Jz ops f k l vs o s->w.heap.size<=o->w.heap.size<=s->o≠s->aR F o m1 y1 T1->aR F s m2 y2 T2->Below w.heap.size w F->Q .normal f' F):W P n (.region id ops.toArray true) Q f w:=by
 have hn:=h_ hnd;simp only[List.nodup_cons,List.mem_cons,List.not_mem_nil,or_false,not_or]at hn;obtain⟨⟨x12,x1s,x1t⟩,⟨x2s,x2t⟩,xst,_⟩:=hn;refine W.masks [k,l,y,z] O N (fun r=>Cy k l vs (r 0).1 (r 1).1) (YH w m1 m2 z1 y1 z2 y2 T1 T2) hm hok hsel Vt hes (h_ hnd) (fun _=>(0,0)) (fun w1 A _=>⟨A,fun h=>(nomatch h),fun h=>(nomatch h),fun h=>(nomatch h)⟩) ?_ ?_ ?_ ?_
 ·intro i hi U r m v _ _ d
  rcases Ii (hq (r 0).1 (r 1).1) i hi with h2|h2
  ·rw[G_]at h2; rw[h2]at U; cases U
  rw[G_]at h2;have hni':i≠k/\i≠l/\i≠y/\i≠z:=by simpa using U
  have I:Cy k l vs (r 0).1 (r 1).1 i=vs.getD i undef:=by unfold Cy; rw[FN hni'.1,FN hni'.2.1]; rfl
  show if Region.wanted (opAt ops i) (yf ops.toArray (Jz ops f k l vs (r 0).1 (r 1).1))then Oper.quietUpon P _ v (Cy k l vs (r 0).1 (r 1).1 i) ((execOp (ev (Jz ops f k l vs (r 0).1 (r 1).1)) (opAt ops i)).run P v)else Cy k l vs (r 0).1 (r 1).1 i=undef;rw[I];by_cases hw:Region.wanted (opAt ops i) (yf ops.toArray (Jz ops f k l vs (r 0).1 (r 1).1))=true
  ·rw[d_ hw]at h2 ⊢
   rcases h2 v d.b with h3|⟨g,args,h3,h4⟩
   ·rw[h3]; exact⟨rfl,rfl⟩
   rw[h3]; exact⟨rfl,h4.mono fun e w2 ⟨he,hb2⟩=>⟨he,d.up hb2⟩⟩
  rw[b_ hw]at h2 ⊢; exact h2
 ·intro j i t r m v a K hpr hpo hmj d B L
  match j,t with
  | 0,t =>
    obtain rfl:k=i:=(by simpa using t);obtain⟨v2,E,A,u⟩:=Lm (ρ:=a.eval) o1 n1 v;unfold Oper.wp;rw[E];obtain⟨x,C,D⟩:=wT hw3;have hm2:m 2=false:=(by rw[<- D]; exact hpo x C);have:=L (v.heap.size,0) v2 ⟨JN d.b u.old,fun _=>by
     rw[oJ];exact⟨d.b.size,by show aR v2 v.heap.size m1 (if m 2=true then y1 else z1) T1; rw[hm2]; exact A⟩,fun q=>by
     have q:m 1=true:=q;rw[eB (by decide)];exact⟨(d.c q).1,(d.c q).2.cO u (u_ (d.c q).2.lt)⟩,fun _ q=>by
     have q:m 1=true:=q;rw[oJ,eB (by decide)];exact Nat.ne_of_gt (d.c q).2.lt⟩
    have I:Cy k l vs (qP r 0 (v.heap.size,0) 0).1 (qP r 0 (v.heap.size,0) 1).1 k = .pointer (some ⟨v.heap.size,0,none⟩):=(by unfold Cy; rw[Nat.beq_refl,oJ]; rfl);rw[I]at this;exact this
  | 1,t =>
    obtain rfl:l=i:=(by simpa using t);obtain⟨v2,E,A,u⟩:=Lm (ρ:=a.eval) o2 n2 v;unfold Oper.wp;rw[E];obtain⟨x,C,D⟩:=wT hw4;have hm3:m 3=false:=(by rw[<- D]; exact hpo x C);have:=L (v.heap.size,0) v2 ⟨JN d.b u.old,fun q=>by
     have q:m 0=true:=q;rw[eB (by decide)];exact⟨(d.a q).1,(d.a q).2.cO u (u_ (d.a q).2.lt)⟩,fun _=>by
     rw[oJ];exact⟨d.b.size,by show aR v2 v.heap.size m2 (if m 3=true then y2 else z2) T2; rw[hm3]; exact A⟩,fun q _=>by
     have q:m 0=true:=q;rw[oJ,eB (by decide)];exact u_ (d.a q).2.lt⟩
    have I:Cy k l vs (qP r 1 (v.heap.size,0) 0).1 (qP r 1 (v.heap.size,0) 1).1 l = .pointer (some ⟨v.heap.size,0,none⟩):=(by unfold Cy; rw[FN (fun e=>x12 e.symm),Nat.beq_refl,oJ]; rfl);rw[I]at this;exact this
  | 2,t =>
    obtain rfl:y=i:=(by simpa using t);obtain⟨x,C,D⟩:=wT hw1;have G:m 0=true:=(by rw[<- D]; exact hpr x C);have R:a.eval a1 = .pointer (some ⟨(r 0).1,0,none⟩):=(B a1 (by rw[V]; simp[Op.operands])).trans (ha1 (r 0).1 (r 1).1);have S:a.eval v1=u1:=(B v1 (by rw[V]; simp[Op.operands])).trans (hv1 (r 0).1 (r 1).1);obtain⟨J,E,A,u⟩:=Lp V e1 R S hu1 h11 (d.a G).2;unfold Oper.wp;rw[E];show K (a.put (opAt ops y).dst undef) _;rw[Y];have:=L (0,0) J ⟨u.below d.b d.b.size (d.a G).1,fun _=>by
     rw[eB (by decide)];exact⟨(d.a G).1,by show aR J (r 0).1 m1 (if Vs m 2 2=true then y1 else z1) T1; exact A⟩,fun q=>by
     have q:m 1=true:=q;rw[eB (by decide)];exact⟨(d.c q).1,(d.c q).2.cO u (fun e=>d.ne G q e.symm)⟩,fun _ q=>by
     have q:m 1=true:=q;rw[eB (by decide),eB (by decide)];exact d.ne G q⟩
    rw[Y]at this;exact this
  | 3,t =>
    obtain rfl:z=i:=(by simpa using t);obtain⟨x,C,D⟩:=wT hw2;have H:m 1=true:=(by rw[<- D]; exact hpr x C);have R:a.eval a2 = .pointer (some ⟨(r 1).1,0,none⟩):=(B a2 (by rw[X]; simp[Op.operands])).trans (ha2 (r 0).1 (r 1).1);have S:a.eval v2=u2:=(B v2 (by rw[X]; simp[Op.operands])).trans (hv2 (r 0).1 (r 1).1);obtain⟨J,E,A,u⟩:=Lp X e2 R S hu2 h12 (d.c H).2;unfold Oper.wp;rw[E];show K (a.put (opAt ops z).dst undef) _;rw[Z];have:=L (0,0) J ⟨u.below d.b d.b.size (d.c H).1,fun q=>by
     have q:m 0=true:=q;rw[eB (by decide)];exact⟨(d.a q).1,(d.a q).2.cO u (d.ne q H)⟩,fun _=>by
     rw[eB (by decide)];exact⟨(d.c H).1,by show aR J (r 1).1 m2 (if Vs m 3 3=true then y2 else z2) T2; exact A⟩,fun q _=>by
     have q:m 0=true:=q;rw[eB (by decide),eB (by decide)];exact d.ne q H⟩
    rw[Z]at this;exact this
  | j+4,t=>simp at t
 ·intro i hi j r p C hne hjl;have t:j=0\/j=1\/j=2\/j=3:=by simp at hjl; omega
  show Cy k l vs (qP r j p 0).1 (qP r j p 1).1 i=Cy k l vs (r 0).1 (r 1).1 i;unfold Cy
  rcases t with rfl|rfl|rfl|rfl
  ·have:i≠k:=fun e=>hne (by rw[e]; rfl);rw[FN this]; simp only[cond_false]; rw[eB (by decide)]
  ·have:i≠l:=fun e=>hne (by rw[e]; rfl);rw[FN this]; simp only[cond_false]; rw[eB (by decide)]
  ·rw[eB (by decide),eB (by decide)]
  rw[eB (by decide),eB (by decide)]
 intro r m F M d;have m0:=M 0 (by simp); have m1':=M 1 (by simp); have m2':=M 2 (by simp); have m3:=M 3 (by simp);have B:=d.a m0; have T:=d.c m1';rw[m2']at B; rw[m3]at T;exact h (r 0).1 (r 1).1 F _ rfl B.1 T.1 (d.ne m0 m1') B.2 T.2 d.b
end
end Fx
end Go.Proofs.YtcbedgfikejkoaaGreatDoor
namespace Go.Proofs.YtcbedgfikejkoaaGreatDoor
open Go.RowKit Rt
open Fx (bC Lv sN Ln Ws Rp Wr Sb Wk rC sR Rs Rn Rk GA gP uH rv aA aR aN ev Stp aS Mp iO jV cells_one)
namespace Rt
def nR(v:EvM):Int:=1099511627776*v.o+v.seq
def jc(m:dO)(v:EvM):Int:=if 5<=m.own (aL v)\/140737488355328<v.aQ then 6 else m.T.err (nR v) v.node
def Dp(m:dO)(v:EvM):dO := { m with T:=m.T.put (nR v) v.node,R:=aN m.R m.T.n (upd (fun _=>0) (aL v) v.aQ),own:=aI m.own (aL v) (m.own (aL v)+1) }
theorem Vu{T:dN}{pa:Int}{id:Int}{w:World}{b n:Nat}{x:Nat->Int}(h:Mp w b n x (aN (DV T) T.n (aC pa))):Mp w b n x (DV (T.put id pa)):=h.uQ fun i _=>⟨rfl,by show aN (DV T) T.n _ i=aC (aN T.p T.n pa i); unfold aN DV; split <;> rfl⟩
theorem YI{R:Nat->Nat->Int}{j n b:Nat}{r:Nat->Int}{x:Nat->Int}{w:World}(h:Mp w b n x (aN (wS R) j (.agg (aA 54 (rv .i64 r))))):Mp w b n x (wS (aN R j r)):=En _ _ _ _ h
end Rt
theorem ahA(o q:Int)(w:World)(b:1<=o/\o<=6)(c:1<=q/\q<1099511627776):Calls Tryz.prog 214 #[au o,aC q] w fun e a=>e = .returned (aC (1099511627776*o+q))/\a=w:=by
 have h:=aol o.toNat q.toNat w (by omega) (by omega);rw[show((o.toNat:Nat):Int)=o by omega,show((q.toNat:Nat):Int)=q by omega]at h;exact h
theorem Vv(m:dO)(b B:Nat)(w:World)(h:lN w B b m)(v:EvM)(hv:bQ v=true)(J:m.T.err (nR v) v.node=0)(a:Nat)(ha:a<6)(hra:aL v=a)(hob:0<=m.own a/\m.own a<=1000)(hid:0<=nR v/\nR v<=18446744073709551615)(I:Nat)(G:Nat)(l:Nat)(H:Nat)(S:aR w I 1 (fun _=>(pt b)) 28)(hi:aR w G 1 (fun _=>aC (nR v)) 23)(P:aR w l 14 (bM v) 37)(Q:aR w H 1 (fun _=>au (a:Int)) 3) :
 Calls Tryz.prog 216 #[(pt I),(pt G),(pt l),(pt H)] w fun e w'=>e = .returned (.tuple #[])/\lN w' B b (Dp m v)/\jV (FJ m b) w w':=by
 have hC:=h.c;have hT:=h.t;have hP:=h.p;have hR:=h.r;have hG:=h.g;have hA:=h.a;have d:=h.ne;have lC:=h.c.lt;have lT:=h.t.lt;have lP:=h.p.lt;have lR:=h.r.lt;have lG:=h.g.lt;have lA:=h.a.lt;have ZX:=S.lt;have lgi:=hi.lt;have lge:=P.lt;have lgk:=Q.lt;have U : ∀ i,i<m.T.n->m.T.x i≠nR v:=fun i hi e=>by have:=(EO J).2.1; rw[jN hi e]at this; cases this
 refine Kent Tryz.func216 42 ?_;refine Ws ?_;refine jW [5,0,1,2,3,4,6,7] [4,0,0,4,4,0,4,3] [(7,0,[3,2,1,0]),(7,3,[3]),(7,4,[4]),(7,6,[6])] fun qA K iE => ?_;have s1:Stp w.heap.size w qA:=Sb K;have⟨W,m2,m3,m4,m5,m6,m7,m8,m9,m10⟩:=uP K hC hT hP hR hG hA S hi P Q;have b1:=(uH (FJ m b) w).then s1 (.inr (uH (FJ m b) w).size);refine aY (pf l 9)<|Rs (pt b) (aM m7.aH 0) ?_;refine aY (pt b)<|aY (pf b 18)<|Rs (pt m.tp) (aM W.aH 18) ?_;refine Rs (aC (nR v)) (aM m8.aH 0) ?_;refine Rs (aC v.node) (aM m9.aH 9) ?_;refine gQ<|dJ (KD (nR v) v.node m2 hid) _ rfl ?_;rintro y ⟨m11,s2⟩;have j:=m2.BN s2;have m12:=W.dX j;have m13:=m3.dX j (Ne.symm d.mp);have m14:=m4.dX j (Ne.symm d.mr);have m15:=m5.dX j (Ne.symm d.mg);have m16:=m6.dX j (Ne.symm d.ma);have m17:=m7.dX j;have m18:=m8.dX j;have m19:=m9.dX j;have m20:=m10.dX j;have C:=b1.then s2 (.inl (.inr (.inl rfl)));have m21:sj y B m.tp m.mb (m.T.put (nR v) v.node):=by rw[<- dN.Eo J]; exact m11
 refine Ln<|bS<|Ws ?_;refine jW [5,0,1,2,3,4,6,7] [4,0,0,4,4,0,4,3] [(7,0,[0]),(7,3,[3]),(7,4,[4]),(7,6,[6])] fun Da M nU => ?_;have s3:Stp y.heap.size y Da:=Sb M;have⟨m22,m23,m24,mQ,nH,oq,oL,oM,oC,mI⟩:=uP M m12 m13 m14 m15 m16 m17 m18 m19 m20 m21;have b3:=C.then s3 (.inr C.size);refine aY (pf l 9)<|Rs (pt b) (aM oq.aH 0) ?_;refine aY (pt b)<|aY (pf b 19)<|Rs (.map (some m.pb)) (aM m22.aH 19) ?_;refine Rs (aC (nR v)) (aM oL.aH 0) ?_;refine Rs (aC v.node) (aM oM.aH 9) ?_;refine gQ<|Fx.L.PZ (by rfl) rfl rfl rfl rfl rfl m23 Tryz.underlying108 Tryz.underlying23 U fun z m32 s4 z1 => ?_;have k:=m23.BN s4;have qB:=m22.dX k;have nV:=m24.dX k (Ne.symm d.pr);have qC:=mQ.dX k (Ne.symm d.pg);have oN:=nH.dX k (Ne.symm d.pa);have sP:=oq.dX k;have qX:=oL.dX k;have qY:=oM.dX k;have uI:=oC.dX k;have nI:=mI.dX k (d.mp);have D:=b3.then s4 (.inl (.inr (.inr (.inl rfl))));have nJ:Mp z m.pb ((m.T.put (nR v) v.node).n) ((m.T.put (nR v) v.node).x) (DV (m.T.put (nR v) v.node)):=Vu m32;refine Ln<|bS<|Ws ?_;refine jW [0,2,3,7,8,1,4,5,6,9,10] [4,4,0,0,0,4,0,0,0,0,3] [(10,0,[0]),(10,1,[1]),(10,5,[5])] fun Rv N AX => ?_;have s5:Stp z.heap.size z Rv:=Sb N;have⟨s,rY,qK,oO,sQ,xE,uh,tL,xq,wC⟩:=uP N qB nV qC oN sP qX qY uI nI nJ;have b5:=D.then s5 (.inr D.size);refine Rs (pt b) (aM sQ.aH 0) ?_;refine aY (pt b)<|aY (pf b 21)<|aY (pt b)<|aY (pf b 21)<|Rs (au a) (aM tL.aH 0) ?_;refine Rp (pf b (a+21)) (fun _=>jM 6 1)<|Rs (au (m.own a)) (aM s.aH (a+21) (Jt (p:=a) (by omega) (by omega))) ?_;refine Rp (au ((m.own a)+1)) (fun _=>fC)<|Rp (pf b (a+21)) (fun _=>jM 6 1)<|gQ<|jg s (a+21) (au ((m.own a)+1)) fun w3 uJ s6 z2 => ?_;have wD:aR w3 b 29 (vG { m with own:=aI m.own a (m.own a+1) }) 114:=uJ.to (Yw ha (by omega) _);have gV:=gP s6 s.ty;have⟨xY,uK,sU,tN,xZ,qZ,vN,oD,uj⟩:=abj gV rY qK oO sQ xE uh tL xq wC;have q:=b5.then s6 (.inl (.inl rfl));refine Ln<|bS<|ay<|av (.agg (aA 54 (rv .i64 (fun _=>0))))<|rR 54 (rv .i64 (fun _=>0)) fun o w4 F u s7 z3 => ?_;have⟨xG,xu,vO,xH,sV,vP,uT,vQ,vR,zJ⟩:=uP s7.old xY uK sU tN xZ qZ vN oD uj wD;have b7:=q.then s7 (.inr q.size);have V:=iQ F q.size;have⟨aoz,aoA,aoB,aoC,aoD,aoE,aoF,aoG,aoH⟩:=Xu F xY.lt uK.lt sU.lt tN.lt xZ.lt qZ.lt vN.lt uj.lt wD.lt;have ug:=u.lt;refine eP u 0 fun w5 xw s8 z4 => ?_;have zq:aR w5 o 54 (rv .i64 (fun _=>0)) 82:=aS xw;have ku:=gP s8 u.ty;have⟨zu,yP,xA,wE,wF,yc,zW,yg,AZ,Ay⟩:=Ou ku xG xu vO xH sV vP uT vQ vR zJ;have b8:=b7.then s8 (.inr V);refine aD<|ay<|Lv (au a) (aM zW.aH 0)<|av (pf l 11)<|Lv (au v.aQ) (aM yc.aH 11)<|av (pt o)<|Lv (pf o a) (jM 6 1)<|jg zq a (au v.aQ) fun A Az s9 z5 => ?_;have zX:aR A o 54 (rv .i64 (upd (fun _=>0) a v.aQ)) 82:=Az.to (Fx.yJ _ _ _ _);have rX:=gP s9 zq.ty;have⟨zY,A8,ET,DT,Ce,Dc,Ae,Gj,Ef,Gl⟩:=Ou rX zu yP xA wE wF yc zW yg AZ Ay;have E:=b8.then s9 (.inr V);refine aD ?_;refine jW [0,1,2,3,4,5,6] [4,0,0,4,4,4,3] [(6,0,[0]),(6,3,[3]),(6,4,[4]),(6,5,[5])] fun wt4 O G9 => ?_;have s10:Stp A.heap.size A wt4:=Sb O;have⟨Gu,wN,yj,X,Y,pX,oV,qE,pY,Z,aa⟩:=EJ O zY A8 ET DT Ce Dc Ae Gj Ef Gl zX;have b10:=E.then s10 (.inr E.size);refine Rs (pt b) (aM X.aH 0) ?_;refine aY (pt b)<|aY (pf b 20)<|Rs (.map (some m.rb)) (aM Z.aH 20) ?_;refine Rs (aC (nR v)) (aM Y.aH 0) ?_;refine Rs (.agg (aA 54 (rv .i64 (upd (fun _=>0) a v.aQ)))) (fD aa.aH 0) ?_;refine gQ<|Fx.L.PZ (by rfl) rfl rfl rfl rfl rfl Gu Tryz.underlying109 Tryz.underlying23 U fun w7 vg s11 z6 => ?_;have f:=Gu.BN s11;have rA:=wN.dX f (Ne.symm d.rg);have uq:=yj.dX f (Ne.symm d.ra);have zw:=X.dX f;have vk:=Y.dX f;have zx:=pX.dX f;have Cg:=oV.dX f;have xI:=qE.dX f (d.mr);have uw:=pY.dX f (d.pr);have qF:=Z.dX f;have yt:=aa.dX f;have b11:=b10.then s11 (.inl (.inr (.inr (.inr (.inl rfl)))));have yu:Mp w7 m.rb ((m.T.put (nR v) v.node).n) ((m.T.put (nR v) v.node).x) (wS (aN m.R m.T.n (upd (fun _=>0) a v.aQ))):=YI vg;refine Ln (Rn (⟨.tuple #[],iO Tryz.results216,?_⟩));unfold Dp; rw[hra];exact⟨rfl,{ c:=qF,t:=xI,p:=uw,r:=yu,g:=rA,a:=uq,ne:=⟨d.mp,d.mr,d.mg,d.ma,d.pr,d.pg,d.pa,d.rg,d.ra,d.ga⟩,lB:=h.lB,pB:=h.pB,rB:=h.rB,gB:=h.gB,aB:=h.aB },b11⟩
theorem YJ(m:dO)(j B:Nat)(w:World)(h:lN w B j m)(v:EvM)(L:bQ v=true)(ab : ∀ a,a<6->0<=m.own a/\m.own a<=1000) :
 Calls Tryz.prog 207 #[(pt j),.agg (aA 14 (bM v))] w fun e w'=>Rx w B j m (Dp m v) (jc m v) e w':=by
 have Z:=h.c;have hT:=h.t;have hP:=h.p;have hR:=h.r;have hG:=h.g;have hA:=h.a;have hN:=h.ne;have lC:=h.c.lt;have lT:=h.t.lt;have lP:=h.p.lt;have lR:=h.r.lt;have lG:=h.g.lt;have lA:=h.a.lt;obtain⟨a,J,ho⟩ : ∃ a:Nat,a<6/\v.o=(a:Int)+1:=eU (iV L);have z:aL v=a:=by unfold aL; omega
 have hbd:=oh L;have aa:0<=nR v/\nR v<=18446744073709551615:=by unfold nR; omega
 have hoa:=ab a J;refine Kent Tryz.func207 38 ?_;refine ay<|xV (pt j) fun n w1 X M s1 z1 => ?_;have⟨m2,U⟩:=fq s1.old Z (Below.refl w.heap.size w);have sM:=gT X;have nG:=cK X Z.lt;have ug:=M.lt;refine pR fun b w2 Y l s2 z2 => ?_;have⟨P,Q,H⟩:=iy s2.old m2 M U;have ru:=iQ Y U.size;have⟨ahk,OM⟩:=wh Y m2.lt M.lt;have zK:=l.lt;refine av (.nilFunc)<|av (au 0)<|aD<|Ws ?_;refine GA (T1:=23) (T2:=3) (T1':=23) (T2':=3) (a1 := .tmp 6) (v1 := .tmp 13) (a2 := .tmp 7) (v2 := .tmp 16) (m1:=1) (m2:=1) (z1:=rv .u64 (fun _=>0)) (y1:=fun _=>aC (nR v)) (z2:=rv .i64 (fun _=>0)) (y2:=fun _=>au (a:Int)) (u1:=aC (nR v)) (u2:=au (a:Int)) 8 9 10 11 [[],[],[],[],[],[],[],[],[],[],[(0,[8]),(1,[9])],[(0,[8]),(1,[9]),(2,[10])]] [[(2,[0]),(3,[0])],[(2,[1]),(3,[1])],[(2,[2]),(3,[2])],[(2,[3]),(3,[3])],[(2,[4]),(3,[4])],[(3,[5])],[(3,[6])],[(3,[7])],[(2,[8]),(3,[8])],[(2,[9]),(3,[9])],[(3,[10])],[]] #[(pt b),au v.o,(pf b 1),aC v.seq,aC (nR v),(pt b),au v.o,au (a:Int),undef,undef,undef,undef] (by kernel_rfl) (by kernel_rfl) (by kernel_rfl) (by kernel_rfl) (by kernel_rfl) (by kernel_rfl) (by kernel_rfl) (by kernel_rfl) (by kernel_rfl) (by kernel_rfl) rfl rfl (by kernel_rfl) (by kernel_rfl) rfl rfl rfl rfl (by kernel_rfl) (by kernel_rfl) (fun d f=>(show ev _ (.tmp 6)=(pt d)from by kernel_rfl)) (fun d f=>(show ev _ (.tmp 7)=(pt f)from by kernel_rfl)) (fun d f=>(show ev _ (.tmp 13)=aC (nR v)from by kernel_rfl)) (fun d f=>(show ev _ (.tmp 16)=au (a:Int)from by kernel_rfl)) (cells_one (by rfl)) (cells_one (by rfl)) (fun _ _=>rfl) (fun _ _=>rfl) (fun d f => ?_) ?_
 ·refine⟨?_,?_,?_,?_,?_,?_,?_,?_,?_,?_,?_,?_,trivial⟩
  ·exact .inr qw
  ·exact .inr (sS (au v.o) fun D q=>bC (x:=bM v) rfl (show ev _ (.tmp 9)=(pt b)from by kernel_rfl) (by kernel_rfl) (l.aH.below q (by have:=l.lt; omega)) (i:=0) (by omega) (by omega) rfl)
  ·exact .inr qw
  ·exact .inr (sS (aC v.seq) fun D q=>bC (x:=bM v) rfl (show ev _ (.tmp 11)=(pf b 1)from by kernel_rfl) (by kernel_rfl) (l.aH.below q (by have:=l.lt; omega)) (i:=1) (by omega) (by omega) rfl)
  ·exact .inr (Fx.IL (v:=aC (nR v)) (by kernel_rfl) (by kernel_rfl) (Fx.qbC (fun D q=>rC (args := [au v.o,aC v.seq]) rfl (Fx.args2 (show ev _ (.tmp 10)=au v.o from by kernel_rfl) (show ev _ (.tmp 12)=aC v.seq from by kernel_rfl)) Tryz.func214 rfl rfl) (fun D q=>(ahA v.o v.seq _ (by omega) (by omega)).mono fun e v2 h=>⟨h.1,(by rw[h.2]; exact Below.refl _ _)⟩)))
  ·exact .inr qw
  ·exact .inr (sS (au v.o) fun D q=>bC (x:=bM v) rfl (show ev _ (.tmp 14)=(pt b)from by kernel_rfl) (by kernel_rfl) (l.aH.below q (by have:=l.lt; omega)) (i:=0) (by omega) (by omega) rfl)
  ·exact .inr (sS (au a) fun D q=>Fx.ZI rfl (show ev _ (.tmp 15)=au v.o from by kernel_rfl) (show ev _ (.const (au 1))=au 1 from by kernel_rfl) Fx.io)
  ·exact .inl rfl
  ·exact .inl rfl
  ·exact .inl rfl
  exact .inl rfl
 rintro d f w3 G y A C ne1 m6 m7 hb1;have asF:j≠d:=u_ (n_ (P.lt) A);have agp:n≠d:=u_ (n_ (Q.lt) A);have asG:b≠d:=u_ (n_ (l.lt) A);have asH:j≠f:=u_ (n_ (P.lt) C);have asI:n≠f:=u_ (n_ (Q.lt) C);have asJ:b≠f:=u_ (n_ (l.lt) C);have⟨m8,m9,m10,b3⟩:=kV hb1 P Q l H;have A:w.heap.size<=d:=m_ H.size A;have JR:=m6.lt;have C:w.heap.size<=f:=m_ H.size C;have QF:=m7.lt;have R:G 2=(pt n):=by rw[y]; kernel_rfl
 have S:G 3=(pt b):=by rw[y]; kernel_rfl
 have q5:G 6=(pt d):=by rw[y]; kernel_rfl
 have q6:G 7=(pt f):=by rw[y]; kernel_rfl
 clear y;refine sN<|Ws<|Ws ?_;refine jW [0,2,3,1,4,5,6,7,8,9,10,11] [4,4,0,0,0,4,0,0,0,4,0,0] [] fun qA dP iE => ?_;have⟨m11,N,O,ac,ad,E⟩:=rT dP m8 m9 m10 m6 m7 b3;refine Rs (pt j) (aM N.aH 0 (ha:=R)) ?_;refine aY (pt j)<|aY (pf j 21)<|Rs (au a) (aM ad.aH 0 (ha:=q6)) ?_;refine Rp (pf j (a+21)) (fun _=>jM 6 1)<|Rs (au (m.own a)) (aM m11.aH (a+21) (Jt (p:=a) (by omega) (by omega))) ?_;by_cases V:5<=(m.own a)
 ·refine Rp aG (fun _=>kP V)<|aY aG<|Rk (by rfl)<|Rk (by rfl)<|Rk (by rfl)<|aY aG<|bS<|aO<|ay<|av (.nilFunc)<|av (au 6)<|aD<|Wr<|sR<|aJ (.tuple #[.nilFunc,au 6]) ?_;have k:jc m v=6:=by unfold jc; rw[z]; exact d_ (.inl (by omega))
  exact⟨⟨.nilFunc,0,#[],by rw[k],rfl,fun u=>M_ (k.symm.trans u) (by first|decide|omega|assumption)⟩,E⟩
 refine Rp aF (fun _=>kr V)<|aY aF<|Rp (pf b 11) (fun _=>jD S 11)<|Rs (au v.aQ) (aM O.aH 11) ?_;by_cases W:140737488355328<v.aQ
 ·refine Rp aG (fun _=>ng W)<|aY aG<|bS<|aO<|ay<|av (.nilFunc)<|av (au 6)<|aD<|Wr<|sR<|aJ (.tuple #[.nilFunc,au 6]) ?_;have k:jc m v=6:=by unfold jc; rw[z]; exact d_ (.inr (by omega))
  exact⟨⟨.nilFunc,0,#[],by rw[k],rfl,fun u=>M_ (k.symm.trans u) (by first|decide|omega|assumption)⟩,E⟩
 refine Rp aF (fun _=>ni W)<|aY aF<|bS<|aK<|Wk<|sN<|Ws<|ay<|Lv (pt j) (aM N.aH 0 (ha:=R))<|Lv (aC (nR v)) (aM ac.aH 0 (ha:=q5))<|Lv (pf b 9) (jD S 9)<|Lv (aC v.node) (aM O.aH 9)<|dJ (adK m j B _ (h.up E) (nR v) v.node aa) _ rfl ?_;intro w4 s;have⟨ae,af,ag,m20,I⟩:=qU s N O ac ad E;refine av (au (m.T.err (nR v) v.node))<|aD<|ay<|av (au (m.T.err (nR v) v.node)) ?_;by_cases F:(m.T.err (nR v) v.node)=0
 ·refine Lv aF (jQ F)<|aD<|aK<|Wk<|sN<|ay<|Lv (.func (.func 216) #[] #[(pt n),(pt d),(pt b),(pt f)]) (Fx.mX (us := []) (vs := [(pt n),(pt d),(pt b),(pt f)]) rfl rfl (Fx.RF R q5 S q6))<|av (.func (.func 216) #[] #[(pt n),(pt d),(pt b),(pt f)])<|av (au 0)<|aD<|Wr<|aJ (.tuple #[.func (.func 216) #[] #[(pt n),(pt d),(pt b),(pt f)],au 0]) ?_;have k:jc m v=0:=by unfold jc; rw[z,b_ (by omega)]; exact F
  exact⟨⟨_,216,#[(pt n),(pt d),(pt b),(pt f)],by rw[k],rfl,fun _=>⟨rfl,⟨_,_,Tryz.func216,rfl,rfl⟩,fun w2 s=>(Vv m j B w2 ((h.up I).up s) v L F a J z (ab a J) aa _ _ _ _ (ae.cO (Sb s) (u_ ae.lt)) (ag.cO (Sb s) (u_ ag.lt)) (af.cO (Sb s) (u_ af.lt)) (m20.cO (Sb s) (u_ m20.lt))).mono fun _ _ K=>⟨K.1,K.2.1,K.2.2.mono fun _ hk => .inl hk⟩⟩⟩,I⟩
 refine Lv aG (nk F)<|aD<|aO<|ay<|av (au (m.T.err (nR v) v.node))<|av (.nilFunc)<|av (au (m.T.err (nR v) v.node))<|aD<|Wr<|sR<|aJ (.tuple #[.nilFunc,au (m.T.err (nR v) v.node)]) ?_;have k:jc m v=m.T.err (nR v) v.node:=by unfold jc; rw[z,b_ (by omega)]
 exact⟨⟨.nilFunc,0,#[],by rw[k],rfl,fun u=>M_ (k.symm.trans u) (by first|decide|omega|assumption)⟩,I⟩
end Go.Proofs.YtcbedgfikejkoaaGreatDoor
namespace Go.Proofs.YtcbedgfikejkoaaGreatDoor
open Go.RowKit Go
namespace Rt
section
variable {x p:Nat->Int} {n d e:Nat} {k v:Int}
theorem JA : ∀ {d:Nat} {v:Int},jE x p n d v -> ∀ k,k∈jG x p n d v->(jG x p n d k).length<=(jG x p n d v).length
 | 0,v,h,k,hk=>by cases hk
 | d+1,v,h,k,hk=>by
   cases hv:dS x n v with
   | false=>rw[kW hv]at hk; cases hk
   | true =>
     have e:jG x p n (d+1) v=v::jG x p n d (iH x p n v):=(by show(if _ then _ else _)=_; rw[d_ hv]);have a:jE x p n d (iH x p n v):=h hv;rw[e]at hk
     rcases List.mem_cons.1 hk with rfl|hk
     ·exact A_ _
     ·have b:=JA a k hk;have c:jE x p n d k:=by
       refine AV (d:=d) ?_ (m_ b yO);exact FP a k hk
      have f:=(I5 c (Nat.le_succ d)).1;rw[f,e,List.length_cons]; omega
where FP : ∀ {d:Nat} {v:Int},jE x p n d v -> ∀ k,k∈jG x p n d v->jE x p n d k
 | 0,v,h,k,hk=>by cases hk
 | d+1,v,h,k,hk=>by
   cases hv:dS x n v with
   | false=>rw[kW hv]at hk; cases hk
   | true =>
     have e:jG x p n (d+1) v=v::jG x p n d (iH x p n v):=(by show(if _ then _ else _)=_; rw[d_ hv]);have hs:jE x p n d (iH x p n v):=h hv;rw[e]at hk
     rcases List.mem_cons.1 hk with rfl|hk
     ·exact h
     ·exact(I5 (FP hs k hk) (Nat.le_succ d)).2
theorem Ij : ∀ {d:Nat} {v:Int},jE x p n d v->(jG x p n d v).Nodup
 | 0,v,h=>List.nodup_nil
 | d+1,v,h=>by
   cases hv:dS x n v with
   | false=>rw[kW hv]; exact List.nodup_nil
   | true =>
     have e:jG x p n (d+1) v=v::jG x p n d (iH x p n v):=(by show(if _ then _ else _)=_; rw[d_ hv]);have a:jE x p n d (iH x p n v):=h hv;rw[e,List.nodup_cons];refine⟨fun c => ?_,Ij a⟩;have f:=JA a v c;have b:=(I5 (JA.FP a v c) (Nat.le_succ d)).1;rw[e]at b;rw[<- b,List.length_cons]at f;omega
end
section
variable {T:dN} {l:List Int} {k:Int}
theorem dN.Ao(h:T.ok)(k:Int):(T.path k).Nodup:=Ij (h.stop k)
theorem dN.lK(h:T.ok)(e:l=T.path k) : ∀ v,v∈l->T.has v=true:=fun v c=>by
 obtain⟨i,a,b⟩:=List.getElem_of_mem c;have:=dN.NC h e a;rw[r_,o_ a]at this;rw[<- b]; exact this
theorem CF(h:l.Nodup){i j:Nat}(hi:i<l.length)(a:j<l.length)(e:l.getD i 0=l.getD j 0):i=j:=by
 rw[r_,r_,o_ hi,o_ a]at e;exact(List.getElem_inj h).1 e
end
def gK(f:(Nat->Int)->(Nat->Int) × Int)(r:Nat->Nat->Int):Nat->Int
 | 0=>0
 | i+1=>if gK f r i=0 then(f (r i)).2 else gK f r i
section
variable {f:(Nat->Int)->(Nat->Int) × Int} {r:Nat->Nat->Int} {i n:Nat}
theorem CG(h:gK f r i=0)(a:(f (r i)).2=0):gK f r (i+1)=0:=by unfold gK; rw[d_ h,a]
theorem Ap(h:gK f r i=0)(a : ¬ (f (r i)).2=0) : ∀ n,i<n->gK f r n=(f (r i)).2
 | 0,hn=>M_ hn (z_ _)
 | n+1,hn=>by
   unfold gK;by_cases e:i=n
   ·subst e; rw[d_ h]
   ·rw[Ap h a n (by omega),b_ a]
theorem FQ : ∀ {n:Nat},gK f r n=0 -> ∀ i,i<n->(f (r i)).2=0
 | 0,_,i,hi=>M_ hi (z_ _)
 | n+1,h,i,hi=>by
   unfold gK at h;by_cases a:gK f r n=0
   ·rw[d_ a]at h;by_cases e:i=n
    ·rw[e]; exact h
    ·exact FQ a i (by omega)
   ·rw[b_ a]at h; exact M_ h a
end
def AB(m:dO)(k:Int):Nat->Int:=m.R (m.idx k)
def dA(m:dO)(f:(Nat->Int)->(Nat->Int) × Int)(l:List Int):Int:=gK f (fun i=>AB m (l.getD i 0)) l.length
open Classical in
noncomputable def qH(m:dO)(f:(Nat->Int)->(Nat->Int) × Int)(l:List Int):dO := { m with R:=fun i=>if m.T.x i∈l then(f (m.R i)).1 else m.R i }
def Dq(l:List Int)(S:Nat->Bool)(v:Int):Nat->Bool
 | 0=>false
 | n+1=>Dq l S v n || (S n&&decide (l.getD n 0=v))
theorem rJ{l:List Int}{S:Nat->Bool}{v:Int} : ∀ {n:Nat},Dq l S v n=true <-> ∃ q,q<n/\S q=true/\l.getD q 0=v
 | 0=>⟨fun h=>(nomatch h),fun⟨q,h,_⟩=>M_ h (z_ _)⟩
 | n+1=>by
   unfold Dq;rw[Bool.or_eq_true,rJ,S_,P_];constructor
   ·rintro (⟨q,c,a,b⟩|⟨c,a⟩)
    ·exact⟨q,by omega,a,b⟩
    ·exact⟨n,by omega,c,a⟩
   ·rintro ⟨q,c,a,b⟩;by_cases e:q=n
    ·subst e; exact .inr ⟨a,b⟩
    ·exact .inl ⟨q,by omega,a,b⟩
def yF(m:dO)(f:(Nat->Int)->(Nat->Int) × Int)(l:List Int)(S:Nat->Bool):Nat->Nat->Int:=fun i=>if Dq l S (m.T.x i) l.length=true then(f (m.R i)).1 else m.R i
theorem NJ(m:dO)(f:(Nat->Int)->(Nat->Int) × Int)(l:List Int):yF m f l (fun _=>false)=m.R:=by
 funext i
 unfold yF;rw[b_];rw[rJ];rintro ⟨q,_,h,_⟩; cases h
theorem QX{m:dO}(o:m.T.ok){f:(Nat->Int)->(Nat->Int) × Int}{l:List Int}{S:Nat->Bool}{q j:Nat}(t:q<l.length)(s:j<m.T.n)(g:m.T.x j=l.getD q 0) : ∀ i,i<m.T.n->Fx.aN (yF m f l S) j (f (m.R j)).1 i=yF m f l (Fx.aN S q true) i:=fun i p=>by
 unfold Fx.aN;by_cases e:i=j
 ·subst e;rw[d_ rfl];unfold yF;rw[d_];rw[rJ];exact⟨q,t,by show(if q=q then true else S q)=true; rw[d_ rfl],g.symm⟩
 ·rw[b_ e];unfold yF;have:Dq l S (m.T.x i) l.length=true<->Dq l (fun i=>if i=q then true else S i) (m.T.x i) l.length=true:=by
   rw[rJ,rJ];constructor
   ·rintro ⟨r,d,a,b⟩;exact⟨r,d,by show(if r=q then true else S r)=true; split <;> first|rfl|exact a,b⟩
   ·rintro ⟨r,d,a,b⟩;by_cases k:r=q
    ·subst k;exact M_ (o.inj i j p s (by rw[g,<- b])) e
    ·exact⟨r,d,by have a:(if r=q then true else S r)=true:=a; rw[b_ k]at a; exact a,b⟩
  by_cases c:Dq l S (m.T.x i) l.length=true
  ·rw[d_ c,d_ (this.1 c)]
  ·rw[b_ c,b_ (fun h=>c (this.2 h))]
theorem Vw{m:dO}{f:(Nat->Int)->(Nat->Int) × Int}{l:List Int}{S:Nat->Bool}(h : ∀ q,q<l.length->S q=true):yF m f l S=(qH m f l).R:=by
 funext i
 show _=if m.T.x i∈l then(f (m.R i)).1 else m.R i;unfold yF;have:Dq l S (m.T.x i) l.length=true<->m.T.x i∈l:=by
  rw[rJ];constructor
  ·rintro ⟨q,b,_,d⟩;rw[<- d,r_,o_ b]; exact Q_ b
  ·intro g;obtain⟨q,a,e⟩:=List.getElem_of_mem g;exact⟨q,a,h q a,by rw[r_,o_ a]; exact e⟩
 by_cases c:m.T.x i∈l
 ·rw[d_ (this.2 c),d_ c]
 rw[b_ (fun h=>c (this.1 h)),b_ c]
def sJ(m:dO)(f:(Nat->Int)->(Nat->Int) × Int)(l:List Int):Nat->Value:=fun q => .agg (Fx.aA 54 (Fx.rv .i64 (f (AB m (l.getD q 0))).1))
theorem Ik{m:dO}{f:(Nat->Int)->(Nat->Int) × Int}{l:List Int}{w:World}{b i:Nat}{r:Nat->Int}(h:Fx.Mp w b (i+1) (Fx.aN (fun q=>l.getD q 0) i (l.getD i 0)) (Fx.aN (sJ m f l) i (.agg (Fx.aA 54 (Fx.rv .i64 r)))))(e:r=(f (AB m (l.getD i 0))).1):Fx.Mp w b (i+1) (fun q=>l.getD q 0) (sJ m f l):=h.uQ fun q a=>by
 unfold Fx.aN;by_cases c:q=i
 ·subst c; rw[d_ rfl,d_ rfl,e]; exact⟨rfl,rfl⟩
 ·rw[b_ c,b_ c]; exact⟨rfl,rfl⟩
end Rt
end Go.Proofs.YtcbedgfikejkoaaGreatDoor
namespace Go.Proofs.YtcbedgfikejkoaaGreatDoor
open Go.RowKit Rt
open Fx (bC eG fU Lv sN Ln Ws Wl Rp Wr Sb Wk rV sR Rs Rn Rd Wb Wx Wo DI GA Au BI Dy gP tZ uH rv aA aR bK aN ev Stp aS dD Mp aW iD iN bG iO jV bI cells_one bP unseen jP dG bL bR bZ cu gL ig pO gy)
theorem Vx(x:Nat->Int)(v:EvM)(a:Nat)(w:World)(F:1<=v.o/\v.o<=6)(b:aR w a 14 (bM v) 37) :
 Calls Tryz.prog 220 #[.agg (aA 54 (rv .i64 x)),(pt a)] w fun e C=>e = .returned (.tuple #[.agg (aA 54 (rv .i64 (bD x v.o v.aQ).1)),au (bD x v.o v.aQ).2])/\Below w.heap.size w C:=by
 have I:=b.lt;refine Kent Tryz.func220 13 ?_;refine ay<|pR fun E Q i c A T => ?_;have⟨k,g⟩:=fq A.old b (Below.refl w.heap.size w);have G:=gT i;have L:=cK i b.lt;have O:=c.lt;refine rR 54 (rv .i64 (fun _=>0)) fun q R j l B U => ?_;have⟨d,m,n⟩:=iy B.old k c g;have H:=iQ j g.size;have⟨M,N⟩:=wh j k.lt c.lt;have P:=l.lt;refine av (au 0)<|aD<|ay<|Lv (.agg (aA 54 (rv .i64 x))) (fD m.aH 0)<|av (pt a)<|Lv (au v.o) (aM d.aH 0)<|av (pf a 11)<|Lv (au v.aQ) (aM d.aH 11)<|dJ (adk (x) v.o v.aQ _ (by omega)) _ rfl ?_;intro S r;have⟨t,u,y,h⟩:=kV r d m l n;refine av (.agg (aA 54 (rv .i64 ((bD (x) v.o v.aQ).1))))<|av (au ((bD (x) v.o v.aQ).2))<|eP y 0 fun D z f V => ?_;have s:aR D q 54 (rv .i64 ((bD (x) v.o v.aQ).1)) 82:=aS z;have J:=t.cO f (by omega);have K:=u.cO f (by omega);have p:=f.below h h.size (by omega);refine av (au ((bD (x) v.o v.aQ).2)) (aD (Wr (⟨.tuple #[.agg (aA 54 (rv .i64 ((bD (x) v.o v.aQ).1))),au ((bD (x) v.o v.aQ).2)],gy Tryz.results220 ⟨_,rfl,aW s.aH (by kernel_rfl) (by kernel_rfl)⟩ (by exact rfl),?_⟩)));exact⟨rfl,p⟩
theorem Vy(x:Nat->Int)(v:EvM)(g:Nat->Int)(b c:Nat)(w:World)(L:1<=v.o/\v.o<=6)(d:aR w b 14 (bM v) 37)(f:aR w c 5 (jm g) 106) :
 Calls Tryz.prog 223 #[.agg (aA 54 (rv .i64 x)),(pt b),(pt c)] w fun e I=>e = .returned (.tuple #[.agg (aA 54 (rv .i64 (bH x v.o (g 3)).1)),au (bH x v.o (g 3)).2])/\Below w.heap.size w I:=by
 have O:=d.lt;have P:=f.lt;refine Kent Tryz.func223 14 ?_;refine ay<|pR fun K w1 k h G z1 => ?_;have⟨m,n,i⟩:=iy G.old d f (Below.refl w.heap.size w);have M:=gT k;have⟨T,U⟩:=wh k d.lt f.lt;have Y:=h.lt;refine rR 54 (rv .i64 (fun _=>0)) fun y w2 l p H z2 => ?_;have⟨q,r,s,t⟩:=kV H.old m n h i;have N:=iQ l i.size;have⟨V,W,X⟩:=EK l m.lt n.lt h.lt;have Z:=p.lt;refine av (au 0)<|aD<|ay<|Lv (.agg (aA 54 (rv .i64 x))) (fD s.aH 0)<|av (pt b)<|Lv (au v.o) (aM q.aH 0)<|av (pf c 3)<|Lv (au (g 3)) (aM r.aH 3)<|dJ (adl (x) v.o (g 3) _ (by omega)) _ rfl ?_;intro w3 z;have⟨E,F,A,B,j⟩:=qU z q r s p t;refine av (.agg (aA 54 (rv .i64 ((bH (x) v.o (g 3)).1))))<|av (au ((bH (x) v.o (g 3)).2))<|eP B 0 fun J C a z3 => ?_;have D:aR J y 54 (rv .i64 ((bH (x) v.o (g 3)).1)) 82:=aS C;have Q:=E.cO a (by omega);have R:=F.cO a (by omega);have S:=A.cO a (by omega);have u:=a.below j j.size (by omega);refine av (au ((bH (x) v.o (g 3)).2)) (aD (Wr (⟨.tuple #[.agg (aA 54 (rv .i64 ((bH (x) v.o (g 3)).1))),au ((bH (x) v.o (g 3)).2)],gy Tryz.results223 ⟨_,rfl,aW D.aH (by kernel_rfl) (by kernel_rfl)⟩ (by exact rfl),?_⟩)));exact⟨rfl,u⟩
theorem Lr(m:dO)(j B:Nat)(w:World)(h:lN w B j m)(o:(Nat->Int)->(Nat->Int) × Int)(l:List Int)(s:Nat)(hgM:m.rb≠s/\m.mb≠s/\m.pb≠s/\m.gb≠s/\m.ab≠s)(hlh : ∀ k,k∈l->m.T.has k=true)(I:Mp w s l.length (fun q=>l.getD q 0) (sJ m o l))(z:Nat)(A:Nat)(H:aR w z 1 (fun _ => .map (some s)) 109)(Z:aR w A 1 (fun _=>(pt j)) 28) :
 Calls Tryz.prog 232 #[(pt z),(pt A)] w fun e w'=>e = .returned (.tuple #[])/\lN w' B j (qH m o l)/\jV (FJ m j) w w':=by
 have hC:=h.c;have hT:=h.t;have hP:=h.p;have hR:=h.r;have hG:=h.g;have hA:=h.a;have b:=h.ne;have lC:=h.c.lt;have lT:=h.t.lt;have lP:=h.p.lt;have lR:=h.r.lt;have lG:=h.g.lt;have lA:=h.a.lt;have lg8:=H.lt;have ZX:=Z.lt;have lF:=I.lt;obtain⟨hg1,hg2,hg3,hg4,hg5⟩:=hgM;refine Kent Tryz.func232 17 ?_;refine ay<|Lv (.map (some s)) (aM H.aH 0)<|Fx.L.range (by rfl) rfl rfl rfl I Tryz.underlying109 fun F w1 mo m1 s1 z1 => ?_;have⟨m2,m3,m4,m5,m6,m7,m8,m9,m10⟩:=BL s1.old hC hT hP hR hG hA I H Z;have b1:=(uH (FJ m j) w).then s1 (.inr (uH (FJ m j) w).size);have sM:w.heap.size<=F:=by rw[mo]; exact(uH (FJ m j) w).size
 have ug:=m1.lt;refine aD<|Wb ?_;have m11:Mp w1 m.rb m.T.n m.T.x (wS (yF m o l (fun _=>false))):=by rw[NJ]; exact m5
 refine DI (fun kE f v => ∃ S:Nat->Bool,∃ K:Nat,K=unseen S l.length/\K=kE/\f 0=(pt z)/\f 1=(pt A)/\f 5=(pt F)/\aR v j 29 (vG m) 114/\sj v B m.tp m.mb m.T/\Mp v m.pb m.T.n m.T.x (DV m.T)/\iD v m.gb m.gn (fun i=>m.g i 0) (fun i=>m.g i 1) (uD m.g)/\iD v m.ab m.an m.ao m.ar DW/\Mp v s l.length (fun q=>l.getD q 0) (sJ m o l)/\aR v z 1 (fun _ => .map (some s)) 109/\aR v A 1 (fun _=>(pt j)) 28/\Mp v m.rb m.T.n m.T.x (wS (yF m o l S))/\Fx.It v F s l.length S/\jV (FJ m j) w v) (unseen (fun _=>false) l.length) ⟨(fun _=>false),(unseen (fun _=>false) l.length),rfl,rfl,(by rfl),(by rfl),(by rfl),m2,m3,m4,m6,m7,m8,m9,m10,m11,m1,b1⟩ ?_;rintro kE f1 w2 ⟨S,K,hkk,hkE,W,X,G,m12,m13,m14,m15,m16,m17,m18,m19,m20,M,Q⟩;refine ay<|Fx.L.next (by rfl) rfl rfl G m17 M (fun rZ => ?_)<|fun d w3 C hS1 m22 mc1 s2 z2 => ?_
 ·skip
  refine av aF (aD (Ws (aK (Wx (bZ (gL (cu (⟨.tuple #[],iO Tryz.results232,?_⟩))))))));have m23:Mp w2 m.rb m.T.n m.T.x (wS (qH m o l).R):=by rw[<- Vw rZ]; exact m20
  exact⟨rfl,{ c:=m12,t:=m13,p:=m14,r:=m23,g:=m15,a:=m16,ne:=⟨b.mp,b.mr,b.mg,b.ma,b.pr,b.pg,b.pa,b.rg,b.ra,b.ga⟩,lB:=h.lB,pB:=h.pB,rB:=h.rB,gB:=h.gB,aB:=h.aB },Q⟩
 skip
 have y:=M.BN s2;have m24:=m12.dX y;have mQ:=m13.dX y (by omega);have nH:=m14.dX y (by omega);have oq:=m15.dX y (by omega);have oL:=m16.dX y (by omega);have N:=m17.dX y (M.rb.symm);have oC:=m18.dX y;have mI:=m19.dX y;have m32:=m20.dX y (by omega);have D:=Q.then s2 (.inr sM);refine av aG<|aD<|Ws<|aO<|Wk<|sN<|Wb<|ay<|Lv (.tuple #[aC (l.getD d 0),.agg (aA 54 (rv .i64 ((o (AB m (l.getD d 0))).1)))]) (Fx.Ow (key:=fun q=>l.getD q 0) (val:=sJ m o l) (i:=d) rfl G N mc1 C)<|av (aC (l.getD d 0))<|av (.agg (aA 54 (rv .i64 ((o (AB m (l.getD d 0))).1))))<|rR 54 (rv .i64 (fun _=>0)) fun g2 w4 V O s3 z3 => ?_;have⟨nV,qC,oN,sP,qX,qY,uI,nI,nJ,nK,rY⟩:=EJ s3.old m24 mQ nH oq oL N oC mI m32 mc1 m22;have b4:=D.then s3 (.inr D.size);have ru:=iQ V D.size;have⟨aoI,aoJ,aoK,aoL,aoM,aoN,aoO,aoP⟩:=Xt V m24.lt nH.lt oq.lt oL.lt N.lt oC.lt mI.lt m32.lt;have zK:=O.lt;refine av (aC (l.getD d 0))<|eP O 0 fun P qK s4 z4 => ?_;have oO:aR P g2 54 (rv .i64 ((o (AB m (l.getD d 0))).1)) 82:=aS qK;have gV:=gP s4 O.ty;have⟨sQ,xE,uh,tL,xq,wC,uJ,wD,xY,uK,sU⟩:=ZU gV nV qC oN sP qX qY uI nI nJ nK rY;have U:=b4.then s4 (.inr ru);refine aD ?_;obtain⟨jz,J,E⟩:=gU (hlh _ (uS C rfl));have ejx:AB m (l.getD d 0)=m.R jz:=by unfold AB dO.idx; rw[mR h.t.inv.inj J E]
 refine jW [4,0,1,2,3,5,6] [4,0,0,4,0,4,3] [(6,0,[0]),(6,3,[3]),(6,5,[5])] fun qA Y iE => ?_;have s5:Stp P.heap.size P qA:=Sb Y;have⟨tN,xZ,qZ,vN,oD,uj,m64,xG,xu,vO,xH,sV⟩:=Ot Y sQ xE uh tL xq wC uJ wD xY uK sU oO;have b6:=U.then s5 (.inr U.size);refine aY (aC (l.getD d 0))<|Rs (pt j) (aM xG.aH 0 (ha:=X)) ?_;refine aY (pt j)<|aY (pf j 20)<|Rs (.map (some m.rb)) (aM tN.aH 20) ?_;refine Rs (.agg (aA 54 (rv .i64 ((o (AB m (l.getD d 0))).1)))) (fD sV.aH 0) ?_;refine gQ<|Fx.L.abk (by rfl) rfl rfl rfl rfl rfl xu Tryz.underlying109 Tryz.underlying23 J E fun w6 vP s6 z5 => ?_;have u:=xu.BN s6;have uT:=tN.dX u;have vQ:=xZ.dX u (b.mr);have vR:=qZ.dX u (b.pr);have zJ:=vN.dX u (Ne.symm b.rg);have xw:=oD.dX u (Ne.symm b.ra);have zq:=uj.dX u (by omega);have zu:=m64.dX u;have yP:=xG.dX u;have xA:=vO.dX u (by omega) (by omega);have wE:=xH.dX u (by omega) (by omega);have wF:=sV.dX u;have b7:=b6.then s6 (.inl (.inr (.inr (.inr (.inl rfl)))));have yc:Mp w6 m.rb m.T.n m.T.x (wS (yF m o l (aN S d true))):=by have q9:=En _ _ _ _ vP; rw[ejx]at q9; exact q9.uQ fun i hi=>⟨rfl,by unfold wS; rw[QX h.t.inv C J E i hi]⟩
 refine Ln (Rn (bR (ig ⟨unseen (aN S d true) l.length,(by have W:=Fx.oK hS1 l.length C; omega),(aN S d true),(unseen (aN S d true) l.length),rfl,rfl,W,X,G,uT,vQ,vR,zJ,xw,zq,zu,yP,yc,wE,b7⟩ (by decide))))
theorem Vz(m:dO)(j B:Nat)(w:World)(h:lN w B j m)(C:Int)(v:EvM)(ho:1<=v.o/\v.o<=6)(E:Nat)(u:aR w E 14 (bM v) 37) :
 Calls Tryz.prog 219 #[(pt j),aC C,.func (.func 220) #[] #[(pt E)]] w fun e w'=>Rx w B j m (qH m (fun x=>bD x v.o v.aQ) (m.T.path C)) (dA m (fun x=>bD x v.o v.aQ) (m.T.path C)) e w':=by
 have hC:=h.c;have hT:=h.t;have hP:=h.p;have hR:=h.r;have hG:=h.g;have hA:=h.a;have hN:=h.ne;have lC:=h.c.lt;have lT:=h.t.lt;have lP:=h.p.lt;have lR:=h.r.lt;have lG:=h.g.lt;have lA:=h.a.lt;have lge:=u.lt;refine Kent Tryz.func219 44 ?_;refine ay<|xV (pt j) fun A w1 mo Y s1 z1 => ?_;have⟨m2,m3,m4,m5,m6,m7,m8,b1⟩:=ny s1.old hC hT hP hR hG hA u (Below.refl w.heap.size w);have sM:=gT mo;have⟨nG,yD,xC,Bq,zL,KN⟩:=IZ mo hC.lt hP.lt hR.lt hG.lt hA.lt u.lt;have ug:=Y.lt;refine av (.nilFunc)<|av (au 0)<|aD<|ay<|Fx.L.Kh (by rfl) rfl rfl fun d w2 AA m9 s2 z2 => ?_;have⟨m10,m11,m12,m13,m14,m15,m16,m17,b2⟩:=BL s2.old m2 m3 m4 m5 m6 m7 m8 Y b1;have ru:=iQ AA b1.size;have⟨FT,FK,Am,FL,BS,TG,TH⟩:=MO AA m2.lt m4.lt m5.lt m6.lt m7.lt m8.lt Y.lt;have zK:=m9.lt;refine rR 1 (fun _ => .map none) fun y w3 zZ Z s3 z3 => ?_;have⟨m19,m20,m21,m22,m23,m24,mQ,nH,oq,b3⟩:=uP s3.old m10 m11 m12 m13 m14 m15 m16 m17 m9 b2;have C9:=iQ zZ b2.size;have⟨adO,VA,adP,VB,VD,Nz,adQ,NA⟩:=Xt zZ m10.lt m12.lt m13.lt m14.lt m15.lt m16.lt m17.lt m9.lt;have JR:=Z.lt;refine jg Z 0 (.map (some d)) fun O oL s4 z4 => ?_;have oM:aR O y 1 (fun _ => .map (some d)) 109:=dG oL;have gV:=gP s4 Z.ty;have⟨oC,mI,m32,qB,nV,qC,oN,sP,qX⟩:=abj gV m19 m20 m21 m22 m23 m24 mQ nH oq;have b4:=s4.below b3 b3.size (by omega);refine aD<|Ws<|ay<|Lv (pt j) (aM sP.aH 0)<|av (pt j)<|av (pf j 18)<|Lv (pt m.tp) (aM oC.aH 18)<|av (aC C)<|mh (I9 C mI) ?_;rintro e9 w5 ⟨ZY,D,u,qY,hb1⟩;refine⟨_,u,?_⟩;clear u;have⟨uI,nI,nJ,nK,rY,qK,oO,sQ,xE,uh,b5⟩:=EJ hb1 oC mI m32 qB nV qC oN sP qX oM b4;obtain⟨l,H⟩ : ∃ q,q=dN.path m.T C:=⟨_,rfl⟩;rw[<- H]at qY ⊢;have hl4:l.length<=4:=by rw[H]; exact dN.yX
 refine av (au l.length)<|av (au 0)<|aD<|Wb ?_;have tL:Mp w5 d 0 (fun q=>l.getD q 0) (sJ m (fun x=>bD x v.o v.aQ) l):=xE.uQ fun i hi=>M_ hi (z_ _);refine Wo (fun f k => ∃ i:Nat,i<=l.length/\gK (fun x=>bD x v.o v.aQ) (fun i=>AB m (l.getD i 0)) i=0/\f 2 = .func (.func 220) #[] #[(pt E)]/\f 3=(pt A)/\f 8=(pt y)/\f 19 = .slice ZY (l.length) (D)/\f 20=au (l.length:Int)/\f 21=au (i:Int)/\aR k j 29 (vG m) 114/\sj k B m.tp m.mb m.T/\Mp k m.pb m.T.n m.T.x (DV m.T)/\Mp k m.rb m.T.n m.T.x (wS m.R)/\iD k m.gb m.gn (fun i=>m.g i 0) (fun i=>m.g i 1) (uD m.g)/\iD k m.ab m.an m.ao m.ar DW/\aR k E 14 (bM v) 37/\aR k A 1 (fun _=>(pt j)) 28/\aR k y 1 (fun _ => .map (some d)) 109/\Fx.Own k O.heap.size 23 1 (.slice ZY (l.length) (D)) l.length (xO l)/\Mp k d i (fun q=>l.getD q 0) (sJ m (fun x=>bD x v.o v.aQ) l)/\Below w.heap.size w k) (fun f _=>((l.length:Int)-intOf (f 21)).toNat) ⟨0,(by omega),rfl,(by rfl),(by rfl),(by rfl),(by rfl),Fx.ic,Fx.ic,uI,nI,nJ,nK,rY,qK,oO,sQ,uh,qY,tL,b5⟩ ?_;rintro f1 w6 ⟨i,hi,K,h1,U,V,h4,W,G,xq,wC,uJ,wD,xY,uK,sU,N,aa,qZ,ac,P⟩;refine ay ?_;by_cases c22:(i:Int)<(l.length:Int)
 ·refine Lv aG (iq c22 (hx:=G) (hy:=W))<|aD<|Ws<|aO<|Wk<|sN<|Ws<|Wb<|ay ?_;obtain⟨Gm,S⟩:=qZ.addr (by omega);have oD:Fx.Own w6 O.heap.size 23 1 (bO Gm l.length D) l.length (xO l):=qZ.fH (L_ (fun q=>Value.slice q l.length D) S);refine Lv (pf Gm i) (dh 1 (hx:=(h4.trans (L_ (fun q=>Value.slice q (l.length) (D)) S))) (hi:=G))<|Lv (aC (l.getD i 0)) (aM oD.aH i)<|av (aC (l.getD i 0))<|aD<|Ws ?_;obtain⟨b,hjz,ejz⟩:=gU (dN.lK h.t.inv H _ (uS (show i<l.length by omega) rfl));have J:AB m (l.getD i 0)=m.R b:=by unfold AB dO.idx; rw[mR h.t.inv.inj hjz ejz]
  refine Wl<|bf h1<|Lv (pt j) (aM N.aH 0 (ha:=U))<|av (pt j)<|av (pf j 20)<|Lv (.map (some m.rb)) (aM xq.aH 20)<|av (aC (l.getD i 0))<|Lv (.agg (aA 54 (rv .i64 (m.R b)))) (Fx.wm (z := .agg (aA 54 (rv .i64 (fun _=>0)))) rfl rfl rfl wD Tryz.underlying109 Tryz.underlying23 (by kernel_rfl) hjz ejz rfl)<|Au (by rfl) (Fx.ED (args := [.agg (aA 54 (rv .i64 (m.R b)))]) rfl rfl rfl (all := #[.agg (aA 54 (rv .i64 (m.R b))),(pt E)]) rfl Tryz.func220 rfl rfl) rfl<|(Vx (m.R b) v E _ ho sU).mono ?_;rintro e w7 ⟨u,F⟩;refine⟨.tuple #[.agg (aA 54 (rv .i64 ((bD (m.R b) v.o v.aQ).1))),au ((bD (m.R b) v.o v.aQ).2)],by rw[u],?_⟩;clear u;have⟨uj,m64,xG,xu,vO,xH,sV,vP,uT,vQ,vR,b7⟩:=Ot F xq wC uJ wD xY uK sU N aa ac oD P;refine av (.tuple #[.agg (aA 54 (rv .i64 ((bD (m.R b) v.o v.aQ).1))),au ((bD (m.R b) v.o v.aQ).2)])<|av (.agg (aA 54 (rv .i64 ((bD (m.R b) v.o v.aQ).1))))<|av (au ((bD (m.R b) v.o v.aQ).2))<|rR 54 (rv .i64 (fun _=>0)) fun g4 w8 MS ad s7 z5 => ?_;have⟨xw,zq,zu,yP,xA,wE,wF,yc,zW,yg,AZ,b8⟩:=Ot s7.old uj m64 xG xu vO xH sV vP uT vQ vR b7;have Rw:=iQ MS b7.size;have⟨adv,adw,adx,ady,aoR,aoS,adR,aoT,adS,adT⟩:=ZV MS uj.lt xG.lt xu.lt vO.lt xH.lt sV.lt vP.lt uT.lt vQ.lt vR.lt;have QF:=ad.lt;refine eP ad 0 fun w9 Ay s8 z6 => ?_;have Az:aR w9 g4 54 (rv .i64 ((bD (m.R b) v.o v.aQ).1)) 82:=aS Ay;have ku:=gP s8 ad.ty;have⟨zX,zY,A8,ET,DT,Ce,Dc,Ae,Gj,Ef,Gl⟩:=ZU ku xw zq zu yP xA wE wF yc zW yg AZ;have Q:=s8.below b8 b8.size (by omega);refine av (au ((bD (m.R b) v.o v.aQ).2))<|aD<|Ws<|ay<|av (au ((bD (m.R b) v.o v.aQ).2)) ?_;by_cases I:((bD (m.R b) v.o v.aQ).2)=0
  ·refine Lv aF (jQ I)<|aD<|aK<|Wk<|sN ?_;have hnd:l.Nodup:=(by rw[H]; exact dN.Ao h.t.inv C);have hny : ∀ q,q<i->(fun q=>l.getD q 0) q≠l.getD i 0:=fun q hq e=>by have:=CF hnd (show q<l.length by omega) (show i<l.length by omega) e; omega
   refine Wl<|Lv (.map (some d)) (aM Gj.aH 0 (ha:=V))<|av (aC (l.getD i 0))<|Lv (.agg (aA 54 (rv .i64 ((bD (m.R b) v.o v.aQ).1)))) (fD Az.aH 0)<|Fx.L.PZ (by rfl) rfl rfl rfl rfl rfl Ef Tryz.underlying109 Tryz.underlying23 hny fun sO Gu s9 z7 => ?_;have s:=Ef.BN s9;have wN:=zX.dX s;have yj:=zY.dX s (by omega);have wO:=A8.dX s (by omega);have uo:=ET.dX s (by omega);have pX:=DT.dX s (by omega);have oV:=Ce.dX s (by omega);have qE:=Dc.dX s;have pY:=Ae.dX s;have rz:=Gj.dX s;have sH:=Gl.dX s;have vg:=Az.dX s;have b10:=s9.below Q Q.size (by omega);have rA:Mp sO d (i+1) (fun q=>l.getD q 0) (sJ m (fun x=>bD x v.o v.aQ) l):=Ik Gu (by rw[J]);refine Ln<|bR<|sN<|Wl<|Lv (au ((i:Int)+1)) (fC (hx:=G))<|av (au ((i:Int)+1))<|Ln ?_;have uq:Fx.Own sO O.heap.size 23 1 (.slice ZY (l.length) (D)) l.length (xO l):=sH.fH (L_ (fun q=>Value.slice q l.length D) S.symm);refine ig ⟨i+1,(by omega),(CG K (by rw[J]; exact I)),h1,U,V,h4,(W.trans Fx.ic),Fx.ic,wN,yj,wO,uo,pX,oV,qE,pY,rz,uq,rA,b10⟩ ?_;show((l.length:Int)-intOf (au ((i:Int)+1))).toNat<_;simp only[G,intOf]; omega
  refine Lv aG (nk I)<|aD<|aO<|ay<|av (au ((bD (m.R b) v.o v.aQ).2))<|av (.nilFunc)<|av (au ((bD (m.R b) v.o v.aQ).2))<|aD<|Wr<|sR<|bL<|sR<|pO<|bL<|sR<|aJ (.tuple #[.nilFunc,au ((bD (m.R b) v.o v.aQ).2)]) ?_;have M:dA m (fun x=>bD x v.o v.aQ) l=(bD (m.R b) v.o v.aQ).2:=by unfold dA; rw[Ap K (by rw[J]; exact I) _ (by omega),J]
  exact⟨⟨.nilFunc,0,#[],by rw[M],rfl,fun e0=>M_ (M.symm.trans e0) (by first|decide|omega|assumption)⟩,Q⟩
 refine Lv aF (iw c22 (hx:=G) (hy:=W))<|aD<|Ws<|aK<|Wx<|bZ<|gL<|cu<|sN<|ay<|Lv (.func (.func 232) #[] #[(pt y),(pt A)]) (Fx.mX (us := []) (vs := [(pt y),(pt A)]) rfl rfl (Fx.args2 V U))<|av (.func (.func 232) #[] #[(pt y),(pt A)])<|av (au 0)<|aD<|Wr<|aJ (.tuple #[.func (.func 232) #[] #[(pt y),(pt A)],au 0]) ?_;have hil:i=l.length:=by omega
 rw[hil]at ac K;have hgm:m.rb≠d/\m.mb≠d/\m.pb≠d/\m.gb≠d/\m.ab≠d:=⟨by omega,by omega,by omega,by omega,by omega⟩;have M:dA m (fun x=>bD x v.o v.aQ) l=0:=K;exact⟨⟨_,232,#[(pt y),(pt A)],by rw[M],rfl,fun _=>⟨rfl,⟨_,_,Tryz.func232,rfl,rfl⟩,fun w2 F=>(Lr m j B w2 ((h.up P).up F) (fun x=>bD x v.o v.aQ) l d hgm (dN.lK h.t.inv H) (ac.up F) _ _ (aa.cO (Sb F) (u_ aa.lt)) (N.cO (Sb F) (u_ N.lt))).mono fun _ _ X=>⟨X.1,X.2.1,X.2.2.mono fun _ hk => .inl hk⟩⟩⟩,P⟩
theorem VE(m:dO)(j B:Nat)(w:World)(h:lN w B j m)(C:Int)(v:EvM)(g:Nat->Int)(ho:1<=v.o/\v.o<=6)(E F:Nat)(u:aR w E 14 (bM v) 37)(Z:aR w F 5 (jm g) 106) :
 Calls Tryz.prog 219 #[(pt j),aC C,.func (.func 223) #[] #[(pt E),(pt F)]] w fun e w'=>Rx w B j m (qH m (fun x=>bH x v.o (g 3)) (m.T.path C)) (dA m (fun x=>bH x v.o (g 3)) (m.T.path C)) e w':=by
 have hC:=h.c;have hT:=h.t;have hP:=h.p;have hR:=h.r;have hG:=h.g;have hA:=h.a;have hN:=h.ne;have lC:=h.c.lt;have lT:=h.t.lt;have lP:=h.p.lt;have lR:=h.r.lt;have lG:=h.g.lt;have lA:=h.a.lt;have lge:=u.lt;have lgg:=Z.lt;refine Kent Tryz.func219 44 ?_;refine ay<|xV (pt j) fun A w1 mo m1 s1 z1 => ?_;have⟨m2,m3,m4,m5,m6,m7,m8,m9,b1⟩:=BL s1.old hC hT hP hR hG hA u Z (Below.refl w.heap.size w);have sM:=gT mo;have⟨nG,yD,xC,Bq,zL,KN,agx⟩:=MO mo hC.lt hP.lt hR.lt hG.lt hA.lt u.lt Z.lt;have ug:=m1.lt;refine av (.nilFunc)<|av (au 0)<|aD<|ay<|Fx.L.Kh (by rfl) rfl rfl fun d w2 AA m10 s2 z2 => ?_;have⟨m11,m12,m13,m14,m15,m16,m17,m18,m19,b2⟩:=uP s2.old m2 m3 m4 m5 m6 m7 m8 m9 m1 b1;have ru:=iQ AA b1.size;have⟨Cw,Am,FL,BS,TG,TH,adL,aoU⟩:=Xt AA m2.lt m4.lt m5.lt m6.lt m7.lt m8.lt m9.lt m1.lt;have zK:=m10.lt;refine rR 1 (fun _ => .map none) fun y w3 zZ m20 s3 z3 => ?_;have⟨m21,m22,m23,m24,mQ,nH,oq,oL,oM,oC,b3⟩:=EJ s3.old m11 m12 m13 m14 m15 m16 m17 m18 m19 m10 b2;have C9:=iQ zZ b2.size;have⟨VA,VB,VD,Nz,adQ,NA,Vg,Vh,Vi⟩:=Xu zZ m11.lt m13.lt m14.lt m15.lt m16.lt m17.lt m18.lt m19.lt m10.lt;have JR:=m20.lt;refine jg m20 0 (.map (some d)) fun P mI s4 z4 => ?_;have m32:aR P y 1 (fun _ => .map (some d)) 109:=dG mI;have gV:=gP s4 m20.ty;have⟨qB,nV,qC,oN,sP,qX,qY,uI,nI,nJ⟩:=Ou gV m21 m22 m23 m24 mQ nH oq oL oM oC;have b4:=s4.below b3 b3.size (by omega);refine aD<|Ws<|ay<|Lv (pt j) (aM nI.aH 0)<|av (pt j)<|av (pf j 18)<|Lv (pt m.tp) (aM qB.aH 18)<|av (aC C)<|mh (I9 C nV) ?_;rintro e9 w5 ⟨ZY,D,u,nK,hb1⟩;refine⟨_,u,?_⟩;clear u;have⟨rY,qK,oO,sQ,xE,uh,tL,xq,wC,uJ,wD,b5⟩:=Ot hb1 qB nV qC oN sP qX qY uI nI nJ m32 b4;obtain⟨l,I⟩ : ∃ q,q=dN.path m.T C:=⟨_,rfl⟩;rw[<- I]at nK ⊢;have hl4:l.length<=4:=by rw[I]; exact dN.yX
 refine av (au l.length)<|av (au 0)<|aD<|Wb ?_;have xY:Mp w5 d 0 (fun q=>l.getD q 0) (sJ m (fun x=>bH x v.o (g 3)) l):=uJ.uQ fun i hi=>M_ hi (z_ _);refine Wo (fun f k => ∃ i:Nat,i<=l.length/\gK (fun x=>bH x v.o (g 3)) (fun i=>AB m (l.getD i 0)) i=0/\f 2 = .func (.func 223) #[] #[(pt E),(pt F)]/\f 3=(pt A)/\f 8=(pt y)/\f 19 = .slice ZY (l.length) (D)/\f 20=au (l.length:Int)/\f 21=au (i:Int)/\aR k j 29 (vG m) 114/\sj k B m.tp m.mb m.T/\Mp k m.pb m.T.n m.T.x (DV m.T)/\Mp k m.rb m.T.n m.T.x (wS m.R)/\iD k m.gb m.gn (fun i=>m.g i 0) (fun i=>m.g i 1) (uD m.g)/\iD k m.ab m.an m.ao m.ar DW/\aR k E 14 (bM v) 37/\aR k F 5 (jm g) 106/\aR k A 1 (fun _=>(pt j)) 28/\aR k y 1 (fun _ => .map (some d)) 109/\Fx.Own k P.heap.size 23 1 (.slice ZY (l.length) (D)) l.length (xO l)/\Mp k d i (fun q=>l.getD q 0) (sJ m (fun x=>bH x v.o (g 3)) l)/\Below w.heap.size w k) (fun f _=>((l.length:Int)-intOf (f 21)).toNat) ⟨0,(by omega),rfl,(by rfl),(by rfl),(by rfl),(by rfl),Fx.ic,Fx.ic,rY,qK,oO,sQ,xE,uh,tL,xq,wC,wD,nK,xY,b5⟩ ?_;rintro f1 w6 ⟨i,hi,M,h1,V,W,h4,X,H,uK,sU,tN,xZ,qZ,vN,oD,uj,O,xG,xu,vO,Q⟩;refine ay ?_;by_cases c22:(i:Int)<(l.length:Int)
 ·refine Lv aG (iq c22 (hx:=H) (hy:=X))<|aD<|Ws<|aO<|Wk<|sN<|Ws<|Wb<|ay ?_;obtain⟨Gm,U⟩:=xu.addr (by omega);have xH:Fx.Own w6 P.heap.size 23 1 (bO Gm l.length D) l.length (xO l):=xu.fH (L_ (fun q=>Value.slice q l.length D) U);refine Lv (pf Gm i) (dh 1 (hx:=(h4.trans (L_ (fun q=>Value.slice q (l.length) (D)) U))) (hi:=H))<|Lv (aC (l.getD i 0)) (aM xH.aH i)<|av (aC (l.getD i 0))<|aD<|Ws ?_;obtain⟨b,hjz,ejz⟩:=gU (dN.lK h.t.inv I _ (uS (show i<l.length by omega) rfl));have K:AB m (l.getD i 0)=m.R b:=by unfold AB dO.idx; rw[mR h.t.inv.inj hjz ejz]
  refine Wl<|bf h1<|Lv (pt j) (aM O.aH 0 (ha:=V))<|av (pt j)<|av (pf j 20)<|Lv (.map (some m.rb)) (aM uK.aH 20)<|av (aC (l.getD i 0))<|Lv (.agg (aA 54 (rv .i64 (m.R b)))) (Fx.wm (z := .agg (aA 54 (rv .i64 (fun _=>0)))) rfl rfl rfl xZ Tryz.underlying109 Tryz.underlying23 (by kernel_rfl) hjz ejz rfl)<|Au (by rfl) (Fx.ED (args := [.agg (aA 54 (rv .i64 (m.R b)))]) rfl rfl rfl (all := #[.agg (aA 54 (rv .i64 (m.R b))),(pt E),(pt F)]) rfl Tryz.func223 rfl rfl) rfl<|(Vy (m.R b) v g E F _ ho oD uj).mono ?_;rintro e w7 ⟨u,G⟩;refine⟨.tuple #[.agg (aA 54 (rv .i64 ((bH (m.R b) v.o (g 3)).1))),au ((bH (m.R b) v.o (g 3)).2)],by rw[u],?_⟩;clear u;have⟨sV,vP,uT,vQ,vR,zJ,xw,zq,zu,yP,xA,wE,b7⟩:=ZT G uK sU tN xZ qZ vN oD uj O xG vO xH Q;refine av (.tuple #[.agg (aA 54 (rv .i64 ((bH (m.R b) v.o (g 3)).1))),au ((bH (m.R b) v.o (g 3)).2)])<|av (.agg (aA 54 (rv .i64 ((bH (m.R b) v.o (g 3)).1))))<|av (au ((bH (m.R b) v.o (g 3)).2))<|rR 54 (rv .i64 (fun _=>0)) fun g4 w8 MS wF s7 z5 => ?_;have⟨yc,zW,yg,AZ,Ay,Az,zX,zY,A8,ET,DT,Ce,b8⟩:=ZT s7.old sV vP uT vQ vR zJ xw zq zu yP xA wE b7;have Rw:=iQ MS b7.size;have⟨adR,adS,adT,aoV,aoW,aoX,aoY,aoZ,apa,apb,apc⟩:=afD MS sV.lt uT.lt vQ.lt vR.lt zJ.lt xw.lt zq.lt zu.lt yP.lt xA.lt wE.lt;have QF:=wF.lt;refine eP wF 0 fun w9 Dc s8 z6 => ?_;have Ae:aR w9 g4 54 (rv .i64 ((bH (m.R b) v.o (g 3)).1)) 82:=aS Dc;have ku:=gP s8 wF.ty;have⟨Gj,Ef,Gl,Gu,wN,yj,wO,uo,pX,oV,qE,pY⟩:=afC ku yc zW yg AZ Ay Az zX zY A8 ET DT Ce;have S:=s8.below b8 b8.size (by omega);refine av (au ((bH (m.R b) v.o (g 3)).2))<|aD<|Ws<|ay<|av (au ((bH (m.R b) v.o (g 3)).2)) ?_;by_cases J:((bH (m.R b) v.o (g 3)).2)=0
  ·refine Lv aF (jQ J)<|aD<|aK<|Wk<|sN ?_;have hnd:l.Nodup:=(by rw[I]; exact dN.Ao h.t.inv C);have hny : ∀ q,q<i->(fun q=>l.getD q 0) q≠l.getD i 0:=fun q hq e=>by have:=CF hnd (show q<l.length by omega) (show i<l.length by omega) e; omega
   refine Wl<|Lv (.map (some d)) (aM oV.aH 0 (ha:=W))<|av (aC (l.getD i 0))<|Lv (.agg (aA 54 (rv .i64 ((bH (m.R b) v.o (g 3)).1)))) (fD Ae.aH 0)<|Fx.L.PZ (by rfl) rfl rfl rfl rfl rfl qE Tryz.underlying109 Tryz.underlying23 hny fun sO rz s9 z7 => ?_;have s:=qE.BN s9;have sH:=Gj.dX s;have vg:=Ef.dX s (by omega);have rA:=Gl.dX s (by omega);have uq:=Gu.dX s (by omega);have zw:=wN.dX s (by omega);have vk:=yj.dX s (by omega);have zx:=wO.dX s;have Cg:=uo.dX s;have xI:=pX.dX s;have uw:=oV.dX s;have qF:=pY.dX s;have yt:=Ae.dX s;have b10:=s9.below S S.size (by omega);have yu:Mp sO d (i+1) (fun q=>l.getD q 0) (sJ m (fun x=>bH x v.o (g 3)) l):=Ik rz (by rw[K]);refine Ln<|bR<|sN<|Wl<|Lv (au ((i:Int)+1)) (fC (hx:=H))<|av (au ((i:Int)+1))<|Ln ?_;have uy:Fx.Own sO P.heap.size 23 1 (.slice ZY (l.length) (D)) l.length (xO l):=qF.fH (L_ (fun q=>Value.slice q l.length D) U.symm);refine ig ⟨i+1,(by omega),(CG M (by rw[K]; exact J)),h1,V,W,h4,(X.trans Fx.ic),Fx.ic,sH,vg,rA,uq,zw,vk,zx,Cg,xI,uw,uy,yu,b10⟩ ?_;show((l.length:Int)-intOf (au ((i:Int)+1))).toNat<_;simp only[H,intOf]; omega
  refine Lv aG (nk J)<|aD<|aO<|ay<|av (au ((bH (m.R b) v.o (g 3)).2))<|av (.nilFunc)<|av (au ((bH (m.R b) v.o (g 3)).2))<|aD<|Wr<|sR<|bL<|sR<|pO<|bL<|sR<|aJ (.tuple #[.nilFunc,au ((bH (m.R b) v.o (g 3)).2)]) ?_;have N:dA m (fun x=>bH x v.o (g 3)) l=(bH (m.R b) v.o (g 3)).2:=by unfold dA; rw[Ap M (by rw[K]; exact J) _ (by omega),K]
  exact⟨⟨.nilFunc,0,#[],by rw[N],rfl,fun e0=>M_ (N.symm.trans e0) (by first|decide|omega|assumption)⟩,S⟩
 refine Lv aF (iw c22 (hx:=H) (hy:=X))<|aD<|Ws<|aK<|Wx<|bZ<|gL<|cu<|sN<|ay<|Lv (.func (.func 232) #[] #[(pt y),(pt A)]) (Fx.mX (us := []) (vs := [(pt y),(pt A)]) rfl rfl (Fx.args2 W V))<|av (.func (.func 232) #[] #[(pt y),(pt A)])<|av (au 0)<|aD<|Wr<|aJ (.tuple #[.func (.func 232) #[] #[(pt y),(pt A)],au 0]) ?_;have hil:i=l.length:=by omega
 rw[hil]at vO M;have hgm:m.rb≠d/\m.mb≠d/\m.pb≠d/\m.gb≠d/\m.ab≠d:=⟨by omega,by omega,by omega,by omega,by omega⟩;have N:dA m (fun x=>bH x v.o (g 3)) l=0:=M;exact⟨⟨_,232,#[(pt y),(pt A)],by rw[N],rfl,fun _=>⟨rfl,⟨_,_,Tryz.func232,rfl,rfl⟩,fun w2 G=>(Lr m j B w2 ((h.up Q).up G) (fun x=>bH x v.o (g 3)) l d hgm (dN.lK h.t.inv I) (vO.up G) _ _ (xG.cO (Sb G) (u_ xG.lt)) (O.cO (Sb G) (u_ O.lt))).mono fun _ _ Y=>⟨Y.1,Y.2.1,Y.2.2.mono fun _ hk => .inl hk⟩⟩⟩,Q⟩
section
namespace Rt
def Bt(k1 k2:Nat->Int):Nat->Int->Int->Bool
 | 0,_,_=>false
 | n+1,a,b=>(decide (k1 n=a)&&decide (k2 n=b)) || Bt k1 k2 n a b
def wU(k1 k2:Nat->Int):Nat->Int->Int->Nat
 | 0,_,_=>0
 | n+1,a,b=>if k1 n=a/\k2 n=b then n else wU k1 k2 n a b
section
variable {k1 k2:Nat->Int} {a b:Int}
theorem lM : ∀ {n:Nat},Bt k1 k2 n a b=true <-> ∃ j,j<n/\k1 j=a/\k2 j=b
 | 0=>⟨fun h=>(nomatch h),fun⟨j,h,_⟩=>M_ h (z_ _)⟩
 | n+1=>by
   unfold Bt;rw[Bool.or_eq_true,S_,P_,P_,lM];constructor
   ·rintro (⟨f,c⟩|⟨j,f,c,d⟩)
    ·exact⟨n,by omega,f,c⟩
    ·exact⟨j,by omega,c,d⟩
   ·rintro ⟨j,f,c,d⟩;by_cases e:j=n
    ·subst e; exact .inl ⟨c,d⟩
    ·exact .inr ⟨j,by omega,c,d⟩
theorem sK{n j:Nat}(e:j<n)(c:k1 j=a)(d:k2 j=b):Bt k1 k2 n a b=true:=lM.2 ⟨j,e,c,d⟩
theorem pK{n:Nat}(h : ∀ i,i<n -> ¬ (k1 i=a/\k2 i=b)):Bt k1 k2 n a b=false:=by
 cases e:Bt k1 k2 n a b with
 | false=>rfl
 | true=>obtain⟨j,f,c,d⟩:=lM.1 e; exact M_ ⟨c,d⟩ (h j f)
theorem yY{j:Nat} : ∀ {n:Nat},(∀ p q,p<n->q<n->k1 p=k1 q->k2 p=k2 q->p=q)->j<n->k1 j=a->k2 j=b->wU k1 k2 n a b=j
 | 0,_,h,_,_=>M_ h (z_ _)
 | n+1,hi,hj,e1,e2=>by
   unfold wU;by_cases c:k1 n=a/\k2 n=b
   ·rw[d_ c]; exact hi n j (by omega) hj (c.1.trans e1.symm) (c.2.trans e2.symm)
   ·rw[b_ c];refine yY (fun p q d f=>hi p q (by omega) (by omega)) ?_ e1 e2;by_cases e:j=n
    ·subst e; exact M_ ⟨e1,e2⟩ c
    ·omega
end
theorem Ep{v:EvM}(h:bQ v=true)(a:gu v):Fx.DJ v.o v.req/\Fx.DJ v.o v.of:=by
 have d:=oh h;have b:=a.req;have c:=a.of;unfold iA at b c;exact⟨⟨by omega,by omega⟩,⟨by omega,by omega⟩⟩
theorem YK{w:World}{b k n:Nat}{g:Nat->Nat->Int}{o r:Int}{y:Nat->Value}(h:iD w b k (aN (fun i=>g i 0) n o) (aN (fun i=>g i 1) n r) (aN (uD g) n (.agg (aA 5 y))))(x:Nat->Int)(e0:x 0=o)(a:x 1=r)(d : ∀ j,j<5->y j=jm x j) :
 iD w b k (fun i=>aN g n x i 0) (fun i=>aN g n x i 1) (uD (aN g n x)):=h.uQ fun i _=>by
 unfold aN uD;by_cases c:i=n
 ·subst c;refine⟨?_,?_,?_⟩
  ·show(if i=i then o else g i 0)=(if i=i then x else g i) 0;rw[d_ rfl,d_ rfl,e0]
  ·show(if i=i then r else g i 1)=(if i=i then x else g i) 1;rw[d_ rfl,d_ rfl,a]
  ·show(if i=i then Value.agg (aA 5 y)else _)=Value.agg (aA 5 (jm (if i=i then x else g i)));rw[d_ rfl,d_ rfl,Fx.dW d]
 ·refine⟨?_,?_,?_⟩
  ·show(if i=n then o else g i 0)=(if i=n then x else g i) 0;rw[b_ c,b_ c]
  ·show(if i=n then r else g i 1)=(if i=n then x else g i) 1;rw[b_ c,b_ c]
  ·show(if i=n then Value.agg (aA 5 y)else Value.agg (aA 5 (jm (g i))))=Value.agg (aA 5 (jm (if i=n then x else g i)));rw[b_ c,b_ c]
theorem YL{w:World}{b n j:Nat}{g:Nat->Nat->Int}{x:Nat->Int}(h:iD w b n (fun i=>g i 0) (fun i=>g i 1) (aN (uD g) j (.agg (aA 5 (jm x)))))(e0:x 0=g j 0)(a:x 1=g j 1) :
 iD w b n (fun i=>aN g j x i 0) (fun i=>aN g j x i 1) (uD (aN g j x)):=h.uQ fun i _=>by
 unfold aN uD;show g i 0=(if i=j then x else g i) 0/\g i 1=(if i=j then x else g i) 1/\_=Value.agg (aA 5 (jm (if i=j then x else g i)));by_cases c:i=j
 ·subst c; rw[d_ rfl,d_ rfl]; exact⟨e0.symm,a.symm,rfl⟩
 ·rw[b_ c,b_ c]; exact⟨rfl,rfl,rfl⟩
theorem Pn{w:World}{b k n:Nat}{o r:Nat->Int}{x y:Int}(h:iD w b k (aN o n x) (aN r n y) (aN DW n (.bool true))):iD w b k (aN o n x) (aN r n y) DW:=h.uQ fun i _=>⟨rfl,rfl,by unfold aN DW; split <;> rfl⟩
theorem ahE(x:Nat->Int)(r:Int):dD (jm x) 4 (aC r)=jm (upd x 4 r):=by
 funext p
 unfold dD;by_cases c:p=4
 ·subst c; rw[d_ rfl]; rfl
 rw[b_ c]; unfold jm upd;by_cases a:p=0
 ·rw[d_ a,d_ a]; rfl
 rw[b_ a,b_ a];by_cases b:p=3
 ·rw[d_ b,d_ b]; rfl
 rw[b_ b,b_ b,b_ c]
def Gp(a b:Int):Nat->Value:=fun p=>if p=0 then au a else aC b
def VF(m:dO)(a:Nat->Nat->Int)(v:EvM):dO := { m with R:=a,an:=m.an+1,ao:=aN m.ao m.an v.o,ar:=aN m.ar m.an v.req,gn:=m.gn+1,g:=aN m.g m.gn (pJ v) }
def Po(m:dO)(a:Nat->Nat->Int)(v:EvM)(j:Nat):dO := { m with R:=a,an:=m.an+1,ao:=aN m.ao m.an v.o,ar:=aN m.ar m.an v.req,g:=aN m.g j (upd (m.g j) 4 v.req) }
structure Bw(w0 w:World):Prop where
 b:Below w0.heap.size w0 w
theorem Bw.up{a w w':World}(h:Bw a w)(c:Below w.heap.size w w'):Bw a w':=⟨JN h.b c⟩
instance {a w w':World}:Rt.Tr w w' (Bw a w) (Bw a w'):=⟨fun b h=>h.up b⟩
end Rt
theorem adU{y:Nat->Value}{a b:Int}(c:y 0=au a)(h1:y 1=aC b){w:World}{g:Nat}(h:aR w g 2 y 117):aR w g 2 (Gp a b) 117:=h.congr fun j d=>by
 rcases(show j=0\/j=1 by omega)with rfl|rfl
 ·exact c
 ·exact h1
structure LtT(gl gq ge b:Nat):Prop where
 gl:gl<b
 gq:gq<b
 ge:ge<b
structure LtF(gl gq ge gg go b:Nat):Prop where
 gl:gl<b
 gq:gq<b
 ge:ge<b
 gg:gg<b
 go:go<b
theorem VG(m:dO)(l B:Nat)(w:World)(h:lN w B l m)(v:EvM)(hv:bQ v=true)(hwf:gu v)(I:Nat->Nat->Int)(D J G:Nat)(adV:J<=D)(cap:Array Value)(U:U2 w B l m { m with R:=I } D (.func (.func G) #[] cap) G cap)(S:Nat)(K:Nat)(M:Nat)(A:Nat)(Y:aR w S 1 (fun _ => .func (.func G) #[] cap) 123)(hl:aR w K 1 (fun _=>(pt l)) 28)(hq:aR w M 2 (Gp v.o v.req) 117)(E:aR w A 14 (bM v) 37)(N:LtT K M A D)(hnz : ∀ i,i<m.an -> ¬ (m.ao i=v.o/\m.ar i=v.req))(hny : ∀ i,i<m.gn -> ¬ ((fun i=>m.g i 0) i=v.o/\(fun i=>m.g i 1) i=v.req)) :
 Calls Tryz.prog 222 #[(pt S),(pt K),(pt M),(pt A)] w fun e w'=>e = .returned (.tuple #[])/\lN w' B l (VF m I v)/\jV (U1 m l J) w w':=by
 have hC:=h.c;have hT:=h.t;have hP:=h.p;have hR:=h.r;have hG:=h.g;have hA:=h.a;have d:=h.ne;have lC:=h.c.lt;have lT:=h.t.lt;have lP:=h.p.lt;have lR:=h.r.lt;have lG:=h.g.lt;have lA:=h.a.lt;have lgd:=Y.lt;have ZX:=hl.lt;have lgq:=hq.lt;have lge:=E.lt;have Z:=Ep hv hwf;refine Kent Tryz.func222 25 ?_;refine ay<|Lv (.func (.func G) #[] cap) (aM Y.aH 0)<|Au (by rfl) (Fx.O7 (args := []) rfl rfl rfl (by simp) U.f) rfl<|(U.s _ (Below.refl _ _)).mono ?_;rintro e9 z ⟨E,C,H⟩;refine⟨_,E,?_⟩;clear E;have V:=H.mono (S':=U1 m l J) fun k hk=>hk.imp id (m_ adV);have m1:aR z l 29 (vG m) 114:=C.c;have lm1:=m1.lt;have m2:sj z B m.tp m.mb m.T:=C.t;have lm2:=m2.lt;have m3:Mp z m.pb m.T.n m.T.x (DV m.T):=C.p;have lm3:=m3.lt;have m4:Mp z m.rb m.T.n m.T.x (wS (I)):=C.r;have lm4:=m4.lt;have m5:iD z m.gb m.gn (fun i=>m.g i 0) (fun i=>m.g i 1) (uD m.g):=C.g;have lm5:=m5.lt;have m6:iD z m.ab m.an m.ao m.ar DW:=C.a;have lm6:=m6.lt;have m7:=h.Ju hl (by decide) H N.gl;have lm7:=m7.lt;have m8:=h.Ju hq (by decide) H N.gq;have lm8:=m8.lt;have m9:=h.Ju E (by decide) H N.ge;have lm9:=m9.lt;refine aD<|Ws ?_;refine jW [0,1,2,3,4,5] [4,0,0,4,4,3] [(5,0,[0]),(5,3,[3]),(5,4,[4])] fun qA W iE => ?_;have s1:Stp z.heap.size z qA:=Sb W;have⟨m10,m11,m12,m13,m14,m15,m16,m17,m18⟩:=BL W m1 m2 m3 m4 m5 m6 m7 m8 m9;have D:=V.then s1 (.inr V.size);refine Rs (pt l) (aM m16.aH 0) ?_;refine aY (pt l)<|aY (pf l 28)<|Rs (.map (some m.ab)) (aM m10.aH 28) ?_;refine Rs (.agg (aA 2 (Gp v.o v.req))) (fD m17.aH 0) ?_;refine gQ<|Fx.L.Sg (by rfl) rfl rfl rfl ((show ev _ _ = .agg (aA 2 (Gp v.o v.req))from rfl).trans (Fx.zH (y:=Gp v.o v.req) (a:=v.o) (b:=v.req) rfl rfl)) Z.1 rfl m15 Tryz.underlying112 Gz hnz fun O m19 s2 z1 => ?_;have q:=m15.BN s2;have m20:=m10.dX q;have m21:=m11.dX q (d.ma);have m22:=m12.dX q (d.pa);have m23:=m13.dX q (d.ra);have m24:=m14.dX q (d.ga);have mQ:=m16.dX q;have nH:=m17.dX q;have oq:=m18.dX q;have Q:=D.then s2 (.inl (.inl (.inr (.inr (.inr (.inr (.inr rfl)))))));have oL:iD O m.ab (m.an+1) (aN m.ao m.an v.o) (aN m.ar m.an v.req) DW:=Pn m19;refine Ln<|bS ?_;refine jW [5,7,9,11,0,1,2,3,4,6,8,10,12,13,14] [4,0,0,4,4,0,4,0,4,0,4,0,4,0,3] [(14,0,[0]),(14,3,[3]),(14,4,[4]),(14,6,[6]),(14,8,[8]),(14,10,[10]),(14,12,[12])] fun Da X nU => ?_;have s3:Stp O.heap.size O Da:=Sb X;have⟨oM,oC,mI,m32,qB,nV,qC,F,sP⟩:=BL X m20 m21 m22 m23 m24 mQ nH oq oL;have b3:=Q.then s3 (.inr Q.size);refine aY (pt A)<|aY (pf A 12)<|aY (pf A 9)<|aY (pf A 11)<|Rs (pt l) (aM nV.aH 0) ?_;refine aY (pt l)<|aY (pf l 27)<|Rs (.map (some m.gb)) (aM oM.aH 27) ?_;refine Rs (.agg (aA 2 (Gp v.o v.req))) (fD qC.aH 0) ?_;refine Rs (au v.o) (aM F.aH 0) ?_;refine Rs (aC v.req) (aM F.aH 12) ?_;refine Rs (aC v.node) (aM F.aH 9) ?_;refine Rs (au v.aQ) (aM F.aH 11) ?_;refine aY (.agg (aA 5 (bK (bK (bK (bK (fun P=>if P<1 then au 0 else if P<3 then aC 0 else if P<4 then au 0 else aC 0) 0 1 (fun _=>au v.o)) 1 1 (fun _=>aC v.req)) 2 1 (fun _=>aC v.node)) 3 1 (fun _=>au v.aQ))))<|gQ<|Fx.L.Sg (by rfl) rfl rfl rfl ((show ev _ _ = .agg (aA 2 (Gp v.o v.req))from rfl).trans (Fx.zH (y:=Gp v.o v.req) (a:=v.o) (b:=v.req) rfl rfl)) Z.1 rfl qB Tryz.underlying111 Gz hny fun w3 qX s4 z2 => ?_;have u:=qB.BN s4;have qY:=oM.dX u;have uI:=oC.dX u (d.mg);have nI:=mI.dX u (d.pg);have nJ:=m32.dX u (d.rg);have nK:=nV.dX u;have rY:=qC.dX u;have qK:=F.dX u;have oO:=sP.dX u (Ne.symm d.ga);have b4:=b3.then s4 (.inl (.inl (.inr (.inr (.inr (.inr (.inl rfl)))))));have sQ:iD w3 m.gb (m.gn+1) (fun i=>aN m.g m.gn (pJ v) i 0) (fun i=>aN m.g m.gn (pJ v) i 1) (uD (aN m.g m.gn (pJ v))):=YK qX (pJ v) rfl rfl (by intro j hj; rcases(show j=0\/j=1\/j=2\/j=3\/j=4 by omega)with rfl|rfl|rfl|rfl|rfl <;> rfl)
 refine Ln (Rn (⟨.tuple #[],iO Tryz.results222,?_⟩));unfold VF;exact⟨rfl,{ c:=qY,t:=uI,p:=nI,r:=nJ,g:=sQ,a:=oO,ne:=⟨d.mp,d.mr,d.mg,d.ma,d.pr,d.pg,d.pa,d.rg,d.ra,d.ga⟩,lB:=h.lB,pB:=h.pB,rB:=h.rB,gB:=h.gB,aB:=h.aB },b4⟩
theorem VH(m:dO)(l B:Nat)(w:World)(h:lN w B l m)(v:EvM)(hv:bQ v=true)(hwf:gu v)(K:Nat->Nat->Int)(E H I:Nat)(adV:H<=E)(cap:Array Value)(S:U2 w B l m { m with R:=K } E (.func (.func I) #[] cap) I cap)(j:Nat)(Q:Nat)(M:Nat)(N:Nat)(J:Nat)(A:Nat)(go:Nat)(X:aR w Q 1 (fun _ => .func (.func I) #[] cap) 123)(hl:aR w M 1 (fun _=>(pt l)) 28)(hq:aR w N 2 (Gp v.o v.req) 117)(F:aR w J 14 (bM v) 37)(Y:aR w A 5 (jm (m.g j)) 106)(hof:aR w go 2 (Gp v.o v.of) 117)(hgg:H<=A)(G:LtF M N J A go E)(hnz : ∀ i,i<m.an -> ¬ (m.ao i=v.o/\m.ar i=v.req))(Z:j<m.gn)(ejy:(fun i=>m.g i 0) j=v.o)(fjy:(fun i=>m.g i 1) j=v.of) :
 Calls Tryz.prog 225 #[(pt Q),(pt M),(pt N),(pt J),(pt A),(pt go)] w fun e w'=>e = .returned (.tuple #[])/\lN w' B l (Po m K v j)/\jV (U1 m l H) w w':=by
 have hC:=h.c;have hT:=h.t;have hP:=h.p;have hR:=h.r;have hG:=h.g;have hA:=h.a;have d:=h.ne;have lC:=h.c.lt;have lT:=h.t.lt;have lP:=h.p.lt;have lR:=h.r.lt;have lG:=h.g.lt;have lA:=h.a.lt;have lgd:=X.lt;have ZX:=hl.lt;have lgq:=hq.lt;have lge:=F.lt;have lgg:=Y.lt;have lgo:=hof.lt;have aa:=Ep hv hwf;have awh:=Z;refine Kent Tryz.func225 22 ?_;refine ay<|Lv (.func (.func I) #[] cap) (aM X.aH 0)<|Au (by rfl) (Fx.O7 (args := []) rfl rfl rfl (by simp) S.f) rfl<|(S.s _ (Below.refl _ _)).mono ?_;rintro e9 z ⟨F,D,C⟩;refine⟨_,F,?_⟩;clear F;have U:=C.mono (S':=U1 m l H) fun k hk=>hk.imp id (m_ adV);have m1:aR z l 29 (vG m) 114:=D.c;have lm1:=m1.lt;have m2:sj z B m.tp m.mb m.T:=D.t;have lm2:=m2.lt;have m3:Mp z m.pb m.T.n m.T.x (DV m.T):=D.p;have lm3:=m3.lt;have m4:Mp z m.rb m.T.n m.T.x (wS (K)):=D.r;have lm4:=m4.lt;have m5:iD z m.gb m.gn (fun i=>m.g i 0) (fun i=>m.g i 1) (uD m.g):=D.g;have lm5:=m5.lt;have m6:iD z m.ab m.an m.ao m.ar DW:=D.a;have lm6:=m6.lt;have m7:=h.Ju hl (by decide) C G.gl;have lm7:=m7.lt;have m8:=h.Ju hq (by decide) C G.gq;have lm8:=m8.lt;have m9:=h.Ju F (by decide) C G.ge;have lm9:=m9.lt;have m10:=h.Ju Y (by decide) C G.gg;have awi:=m10.lt;have m11:=h.Ju hof (by decide) C G.go;have awj:=m11.lt;refine aD<|Ws ?_;refine jW [0,1,2,3,4,5] [4,0,0,4,4,3] [(5,0,[0]),(5,3,[3]),(5,4,[4])] fun qA V iE => ?_;have s1:Stp z.heap.size z qA:=Sb V;have⟨m12,m13,m14,m15,m16,m17,m18,m19,m20,m21,m22⟩:=EJ V m1 m2 m3 m4 m5 m6 m7 m8 m9 m10 m11;have E:=U.then s1 (.inr U.size);refine Rs (pt l) (aM m18.aH 0) ?_;refine aY (pt l)<|aY (pf l 28)<|Rs (.map (some m.ab)) (aM m12.aH 28) ?_;refine Rs (.agg (aA 2 (Gp v.o v.req))) (fD m19.aH 0) ?_;refine gQ<|Fx.L.Sg (by rfl) rfl rfl rfl ((show ev _ _ = .agg (aA 2 (Gp v.o v.req))from rfl).trans (Fx.zH (y:=Gp v.o v.req) (a:=v.o) (b:=v.req) rfl rfl)) aa.1 rfl m17 Tryz.underlying112 Gz hnz fun w2 m23 s2 z1 => ?_;have q:=m17.BN s2;have m24:=m12.dX q;have mQ:=m13.dX q (d.ma);have nH:=m14.dX q (d.pa);have oq:=m15.dX q (d.ra);have oL:=m16.dX q (d.ga);have oM:=m18.dX q;have oC:=m19.dX q;have mI:=m20.dX q;have m32:=m21.dX q;have qB:=m22.dX q;have b2:=E.then s2 (.inl (.inl (.inr (.inr (.inr (.inr (.inr rfl)))))));have nV:iD w2 m.ab (m.an+1) (aN m.ao m.an v.o) (aN m.ar m.an v.req) DW:=Pn m23;refine Ln<|bS<|ay<|av (pf J 12)<|Lv (aC v.req) (aM mI.aH 12)<|av (pf A 4)<|jg m32 4 (aC v.req) fun O qC s3 z2 => ?_;have oN:aR O A 5 (jm (upd (m.g j) 4 v.req)) 106:=qC.to (ahE _ _);have gV:=gP s3 m32.ty;have⟨sP,qX,qY,uI,nI,nJ,nK,rY,qK,oO⟩:=Ou gV m24 mQ nH oq oL oM oC mI qB nV;have P:=b2.then s3 (.inl (.inr hgg));refine aD ?_;refine jW [0,1,2,3,4,5,6] [4,0,0,4,4,4,3] [(6,0,[0]),(6,3,[3]),(6,4,[4]),(6,5,[5])] fun Da W nU => ?_;have s4:Stp O.heap.size O Da:=Sb W;have⟨sQ,xE,uh,tL,xq,wC,uJ,wD,xY,uK,sU⟩:=EJ W sP qX qY uI nI nJ nK rY qK oO oN;have b4:=P.then s4 (.inr P.size);refine Rs (pt l) (aM wC.aH 0) ?_;refine aY (pt l)<|aY (pf l 27)<|Rs (.map (some m.gb)) (aM sQ.aH 27) ?_;refine Rs (.agg (aA 2 (Gp v.o v.of))) (fD xY.aH 0) ?_;refine Rs (.agg (aA 5 (jm (upd (m.g j) 4 v.req)))) (fD sU.aH 0) ?_;refine gQ<|Fx.L.afE (by rfl) rfl rfl rfl ((show ev _ _ = .agg (aA 2 (Gp v.o v.of))from rfl).trans (Fx.zH (y:=Gp v.o v.of) (a:=v.o) (b:=v.of) rfl rfl)) aa.2 rfl xq Tryz.underlying111 Gz Z ejy fjy fun w4 tN s5 z3 => ?_;have u:=xq.BN s5;have xZ:=sQ.dX u;have qZ:=xE.dX u (d.mg);have vN:=uh.dX u (d.pg);have oD:=tL.dX u (d.rg);have uj:=wC.dX u;have m64:=uJ.dX u;have xG:=wD.dX u;have xu:=xY.dX u;have vO:=uK.dX u (Ne.symm d.ga);have xH:=sU.dX u;have b5:=b4.then s5 (.inl (.inl (.inr (.inr (.inr (.inr (.inl rfl)))))));have sV:iD w4 m.gb m.gn (fun i=>aN m.g j (upd (m.g j) 4 v.req) i 0) (fun i=>aN m.g j (upd (m.g j) 4 v.req) i 1) (uD (aN m.g j (upd (m.g j) 4 v.req))):=YL tN rfl rfl;refine Ln (Rn (⟨.tuple #[],iO Tryz.results225,?_⟩));unfold Po;exact⟨rfl,{ c:=xZ,t:=qZ,p:=vN,r:=oD,g:=sV,a:=vO,ne:=⟨d.mp,d.mr,d.mg,d.ma,d.pr,d.pg,d.pa,d.rg,d.ra,d.ga⟩,lB:=h.lB,pB:=h.pB,rB:=h.rB,gB:=h.gB,aB:=h.aB },b5⟩
end
namespace Rt
def gH(m:dO)(o r:Int):Bool:=Bt m.ao m.ar m.an o r
def iM(m:dO)(o r:Int):Bool:=Bt (fun i=>m.g i 0) (fun i=>m.g i 1) m.gn o r
def fA(m:dO)(o r:Int):Nat:=wU (fun i=>m.g i 0) (fun i=>m.g i 1) m.gn o r
noncomputable def VI(m:dO)(v:EvM):dO:=qH m (fun x=>bD x v.o v.aQ) (m.T.path v.node)
def jd(m:dO)(v:EvM):Int:=if gH m v.o v.req=true then 14 else if m.T.has v.node=false then 9 else dA m (fun x=>bD x v.o v.aQ) (m.T.path v.node)
noncomputable def kL(m:dO)(v:EvM):dO:=VF m (VI m v).R v
noncomputable def VJ(m:dO)(v:EvM):dO:=qH m (fun x=>bH x v.o (m.g (fA m v.o v.of) 3)) (m.T.path (m.g (fA m v.o v.of) 2))
def jA(m:dO)(v:EvM):Int:=if gH m v.o v.req=true then 14 else if iM m v.o v.of=false\/m.g (fA m v.o v.of) 4≠0 then 12 else dA m (fun x=>bH x v.o (m.g (fA m v.o v.of) 3)) (m.T.path (m.g (fA m v.o v.of) 2))
noncomputable def iJ(m:dO)(v:EvM):dO:=Po m (VJ m v).R v (fA m v.o v.of)
def QY(m:dO):Prop := ∀ i,i<m.gn->gH m (m.g i 0) (m.g i 1)=true
end Rt
theorem Fx.ahF{f:Nat->Value}{x1 x2 e g h i:Operand}{v1 v2 a b c d:Value}(h1:ev f x1=v1)(j:ev f x2=v2)(k:ev f e=a)(l:ev f g=b)(m:ev f h=c)(n:ev f i=d) : [x1,x2,e,g,h,i].map (ev f) = [v1,v2,a,b,c,d]:=by rw[List.map_cons,h1,Fx.afw j k l m n]
theorem U2.up{w w':World}{B d a b:Nat}{m e:dO}{c:Value}{cap:Array Value}(h:U2 w B d m e a c b cap)(f:Below w.heap.size w w'):U2 w' B d m e a c b cap := { h with s:=fun i g=>h.s i (JN f g) }
instance {w w':World} {B e a c:Nat} {m f:dO} {d:Value} {cap:Array Value}:Rt.Tr w w' (U2 w B e m f a d c cap) (U2 w' B e m f a d c cap):=⟨fun b h=>h.up b⟩
theorem YM(m:dO)(d B:Nat)(w:World)(h:lN w B d m)(v:EvM)(M:bQ v=true)(hwf:gu v)(hga:QY m) :
 Calls Tryz.prog 209 #[(pt d),.agg (aA 14 (bM v))] w fun e w'=>Rx w B d m (kL m v) (jd m v) e w':=by
 have hC:=h.c;have hT:=h.t;have hP:=h.p;have hR:=h.r;have hG:=h.g;have hA:=h.a;have hN:=h.ne;have lC:=h.c.lt;have lT:=h.t.lt;have lP:=h.p.lt;have lR:=h.r.lt;have lG:=h.g.lt;have lA:=h.a.lt;obtain⟨a,ha,ho⟩ : ∃ a:Nat,a<6/\v.o=(a:Int)+1:=eU (iV M);have hra:aL v=a:=by unfold aL; omega
 have hko:=Ep M hwf;have hvo:1<=v.o/\v.o<=6:=by omega
 refine Kent Tryz.func209 40 ?_;refine ay<|xV (pt d) fun C w1 mo N s1 z1 => ?_;have⟨m2,m3,m4,m5,m6,m7,V⟩:=jR s1.old hC hT hP hR hG hA (Below.refl w.heap.size w);have sM:=gT mo;have⟨nG,yD,xC,Bq,zL⟩:=zS mo hC.lt hP.lt hR.lt hG.lt hA.lt;have ug:=N.lt;refine pR fun f w2 AA D s2 z2 => ?_;have⟨m9,m10,m11,m12,m13,m14,m15,W⟩:=ny s2.old m2 m3 m4 m5 m6 m7 N V;have ru:=iQ AA V.size;have⟨Lg,Cw,FK,Am,FL,BS⟩:=IZ AA m2.lt m4.lt m5.lt m6.lt m7.lt N.lt;have zK:=D.lt;refine av (.nilFunc)<|av (au 0)<|aD<|ay<|av (pt f)<|Lv (au v.o) (aM D.aH 0)<|av (pf f 12)<|Lv (aC v.req) (aM D.aH 12)<|av (.agg (aA 2 (bK (bK (fun q=>if q<1 then au 0 else aC 0) 0 1 (fun _=>au v.o)) 1 1 (fun _=>aC v.req))))<|rR 2 (fun q=>if q<1 then au 0 else aC 0) fun l w3 zZ O s3 z3 => ?_;have⟨m17,m18,m19,m20,m21,m22,m23,m24,X⟩:=BL s3.old m9 m10 m11 m12 m13 m14 m15 D W;have C9:=iQ zZ W.size;have⟨adW,adO,ape,VA,adP,VB,VD⟩:=MO zZ m9.lt m11.lt m12.lt m13.lt m14.lt m15.lt D.lt;have JR:=O.lt;refine eP O 0 (h1:=(bP (bP (fun jq _=>by show((fun q=>if q<1 then au 0 else aC 0:Nat->Value) jq).oneCell'=true; simp only[]; repeat (first|rfl|split)) (fun _ _=>rfl)) (fun _ _=>rfl))) fun w4 mQ s4 z4 => ?_
 have nH:aR w4 l 2 (bK (bK (fun q=>if q<1 then au 0 else aC 0) 0 1 (fun _=>au v.o)) 1 1 (fun _=>aC v.req)) 117:=aS mQ;have oq:aR w4 l 2 (Gp v.o v.req) 117:=adU (Fx.AO (by omega) (Fx.qy (j:=0) (by omega) (by omega) rfl)) (Fx.qy (j:=0) (by omega) (by omega) rfl) nH;have gV:=gP s4 O.ty;have⟨oL,oM,oC,mI,m32,qB,nV,qC⟩:=abh gV m17 m18 m19 m20 m21 m22 m23 m24;have b4:=s4.below X X.size (by omega);refine aD<|Ws<|Ws ?_;refine jW [0,1,2,3,4,5] [4,0,0,4,4,4] [] fun qA dP iE => ?_;have⟨oN,sP,qX,qY,uI,P,nJ,nK,rY,Y⟩:=uP dP oL oM oC mI m32 qB nV qC oq b4;refine Rs (pt d) (aM nJ.aH 0) ?_;refine aY (pt d)<|aY (pf d 28)<|Rs (.map (some m.ab)) (aM oN.aH 28) ?_;refine Rs (.agg (aA 2 (Gp v.o v.req))) (fD rY.aH 0) ?_
 rcases Fx.xW m.ao m.ar m.an v.o v.req with ⟨Vr,Dm,Dn,Ls⟩|jF
 ·refine Rs aG (Fx.Kl (z := .bool false) rfl rfl ((show ev _ _ = .agg (aA 2 (Gp v.o v.req))from rfl).trans (Fx.zH (y:=Gp v.o v.req) (a:=v.o) (b:=v.req) rfl rfl)) hko.1 P Tryz.underlying112 Gz (by rfl) Dm Dn Ls rfl) ?_;refine bS<|aO<|ay<|av (.nilFunc)<|av (au 14)<|aD<|Wr<|sR<|aJ (.tuple #[.nilFunc,au 14]) ?_;have k:jd m v=14:=by unfold jd; exact d_ (sK Dm Dn Ls)
  exact⟨⟨.nilFunc,0,#[],by rw[k],rfl,fun A=>M_ (k.symm.trans A) (by first|decide|omega|assumption)⟩,Y⟩
 refine Rs aF (Fx.Kk (z := .bool false) rfl rfl ((show ev _ _ = .agg (aA 2 (Gp v.o v.req))from rfl).trans (Fx.zH (y:=Gp v.o v.req) (a:=v.o) (b:=v.req) rfl rfl)) hko.1 P Tryz.underlying112 Gz (by rfl) jF) ?_;refine bS<|aK<|Wk<|sN<|Ws<|Ws ?_;refine jW [4,0,1,2,3,5,6,7] [4,0,0,4,0,4,3,0] [(6,0,[3,2,1,0]),(6,3,[3]),(6,5,[5]),(7,6,[6])] fun Da gG nU => ?_;have⟨qK,oO,sQ,xE,uh,tL,Q,G,uJ,I⟩:=uP gG oN sP qX qY uI P nJ nK rY Y;refine aY (pf f 9)<|Rs (pt d) (aM Q.aH 0) ?_;refine aY (pt d)<|aY (pf d 18)<|Rs (pt m.tp) (aM qK.aH 18) ?_;refine Rs (aC v.node) (aM G.aH 9) ?_;refine gQ ?_;by_cases s:(dN.has m.T v.node)=true
 ·refine lU (aah v.node oO) aG (by rw[s])<|Ln<|aY aF<|bS<|aK<|Wk<|sN<|ay<|Lv (pt d) (aM Q.aH 0)<|av (pf f 9)<|Lv (aC v.node) (aM G.aH 9)<|Lv (.func (.func 220) #[] #[(pt f)]) (Fx.mX (us := []) (vs := [(pt f)]) rfl rfl rfl)<|mh (Vz m d B _ (h.up I) v.node v hvo f G) ?_;rintro e9 H ⟨⟨F,fi1,Qa,he,ho1,hD1⟩,hb1⟩;refine⟨_,he,?_⟩;clear he;have⟨wD,uK,sU,tN,xZ,qZ,vN,oD,Z⟩:=BL hb1 qK sQ xE uh tL Q G uJ I;have bw1:Bw H H:=⟨Below.refl _ _⟩;refine av (.tuple #[F,au (dA m (fun x=>bD x v.o v.aQ) (m.T.path (v.node)))])<|av (F)<|av (au (dA m (fun x=>bD x v.o v.aQ) (m.T.path (v.node))))<|rR 1 (fun _ => .nilFunc) fun n w6 K S s8 z5 => ?_;have⟨vP,uT,vQ,vR,b8⟩:=qU s8.old qZ vN oD bw1 Z;have Rw:=iQ K Z.size;have⟨apf,adp,adq,adr,ads,adt,apg,adu⟩:=Xt K wD.lt uK.lt sU.lt tN.lt xZ.lt qZ.lt vN.lt oD.lt;have QF:=S.lt;have kg4:H.heap.size<=n:=by rw[K]; exact bw1.b.size
  refine jg S 0 F (h1:=ho1) fun w7 zJ U z6 => ?_;have xw:aR w7 n 1 (fun _=>F) 123:=dG zJ;have ku:=gP U S.ty;have⟨yc,zW,yg⟩:=DF ku vP uT vQ;have AZ:=(⟨U.below vR.b vR.b.size kg4⟩:Bw H _);have J:=U.below b8 b8.size (by omega);refine av (au (dA m (fun x=>bD x v.o v.aQ) (m.T.path (v.node))))<|aD<|Ws<|ay<|av (au (dA m (fun x=>bD x v.o v.aQ) (m.T.path (v.node)))) ?_;by_cases E:(dA m (fun x=>bD x v.o v.aQ) (m.T.path (v.node)))=0
  ·refine Lv aF (jQ E)<|aD<|aK<|Wk<|sN<|ay<|Lv (.func (.func 222) #[] #[(pt n),(pt C),(pt l),(pt f)]) (Fx.mX (us := []) (vs := [(pt n),(pt C),(pt l),(pt f)]) rfl rfl rfl)<|av (.func (.func 222) #[] #[(pt n),(pt C),(pt l),(pt f)])<|av (au 0)<|aD<|Wr<|aJ (.tuple #[.func (.func 222) #[] #[(pt n),(pt C),(pt l),(pt f)],au 0]) ?_;have hD0:=hD1 E;have hfe:=hD0.e;subst hfe;have b01:w.heap.size<=Da.heap.size:=(by omega);have k:jd m v=0:=(by unfold jd; rw[b_ (show ¬ gH m v.o v.req=true by unfold gH; rw[pK jF]; decide)]; rw[b_ (by rw[s]; decide)]; exact E);exact⟨⟨_,222,#[(pt n),(pt C),(pt l),(pt f)],by rw[k],rfl,fun _=>⟨rfl,⟨_,_,Tryz.func222,rfl,rfl⟩,fun w2 u=>(VG m d B w2 ((h.up J).up u) v M hwf (VI m v).R Da.heap.size w.heap.size _ (by omega) _ (hD0.up (JN AZ.b u)) _ _ _ _ (xw.cO (Sb u) (u_ xw.lt)) (yc.cO (Sb u) (u_ yc.lt)) (yg.cO (Sb u) (u_ yg.lt)) (zW.cO (Sb u) (u_ zW.lt)) ⟨by omega,by omega,by omega⟩ jF (fun i hi e=>by have q9:=hga i hi; obtain⟨j9,hj9,e9,f9⟩:=lM.1 q9; exact jF j9 hj9 ⟨e9.trans e.1,f9.trans e.2⟩)).mono fun _ _ L=>⟨L.1,L.2.1,L.2.2.mono fun _ hk=>hk⟩⟩⟩,J⟩
  refine Lv aG (nk E)<|aD<|aO<|ay<|av (au (dA m (fun x=>bD x v.o v.aQ) (m.T.path (v.node))))<|av (.nilFunc)<|av (au (dA m (fun x=>bD x v.o v.aQ) (m.T.path (v.node))))<|aD<|Wr<|sR<|aJ (.tuple #[.nilFunc,au (dA m (fun x=>bD x v.o v.aQ) (m.T.path (v.node)))]) ?_;have k:jd m v=dA m (fun x=>bD x v.o v.aQ) (m.T.path (v.node)):=by unfold jd; rw[b_ (show ¬ gH m v.o v.req=true by unfold gH; rw[pK jF]; decide)]; rw[b_ (by rw[s]; decide)]
  exact⟨⟨.nilFunc,0,#[],by rw[k],rfl,fun A=>M_ (k.symm.trans A) (by first|decide|omega|assumption)⟩,J⟩
 rw[T_]at s;refine lU (aah v.node oO) aF (by rw[s])<|Ln<|aY aG<|bS<|aO<|ay<|av (.nilFunc)<|av (au 9)<|aD<|Wr<|sR<|aJ (.tuple #[.nilFunc,au 9]) ?_;have k:jd m v=9:=by unfold jd; rw[b_ (show ¬ gH m v.o v.req=true by unfold gH; rw[pK jF]; decide)]; exact d_ s
 exact⟨⟨.nilFunc,0,#[],by rw[k],rfl,fun A=>M_ (k.symm.trans A) (by first|decide|omega|assumption)⟩,I⟩
theorem YN(m:dO)(A B:Nat)(w:World)(h:lN w B A m)(v:EvM)(hv:bQ v=true)(hwf:gu v) :
 Calls Tryz.prog 210 #[(pt A),.agg (aA 14 (bM v))] w fun e w'=>Rx w B A m (iJ m v) (jA m v) e w':=by
 have hC:=h.c;have hT:=h.t;have hP:=h.p;have hR:=h.r;have hG:=h.g;have hA:=h.a;have hN:=h.ne;have lC:=h.c.lt;have lT:=h.t.lt;have lP:=h.p.lt;have lR:=h.r.lt;have lG:=h.g.lt;have lA:=h.a.lt;obtain⟨a,ha,ho⟩ : ∃ a:Nat,a<6/\v.o=(a:Int)+1:=eU (iV hv);have hra:aL v=a:=by unfold aL; omega
 have ac:=Ep hv hwf;have hvo:1<=v.o/\v.o<=6:=by omega
 refine Kent Tryz.func210 56 ?_;refine ay<|xV (pt A) fun K w1 mo m1 s1 z1 => ?_;have⟨m2,m4,m5,m6,m7,b1⟩:=rT s1.old hC hP hR hG hA (Below.refl w.heap.size w);have sM:=gT mo;have⟨nG,yD,xC,Bq,zL⟩:=zS mo hC.lt hP.lt hR.lt hG.lt hA.lt;have ug:=m1.lt;refine pR fun n w2 AA E s2 z2 => ?_;have⟨m9,m11,m12,m13,m14,m15,b2⟩:=jR s2.old m2 m4 m5 m6 m7 m1 b1;have ru:=iQ AA b1.size;have⟨Lg,Cw,FK,Am,FL,BS⟩:=IZ AA m2.lt m4.lt m5.lt m6.lt m7.lt m1.lt;have zK:=E.lt;refine av (.nilFunc)<|av (au 0)<|aD<|Ws ?_;refine GA (T1:=117) (T2:=117) (T1':=117) (T2':=117) (a1 := .tmp 6) (v1 := .tmp 16) (a2 := .tmp 7) (v2 := .tmp 21) (m1:=2) (m2:=2) (z1:=fun d=>if d<1 then au 0 else aC 0) (y1:=bK (bK (fun d=>if d<1 then au 0 else aC 0) 0 1 (fun _=>au v.o)) 1 1 (fun _=>aC v.req)) (z2:=fun d=>if d<1 then au 0 else aC 0) (y2:=bK (bK (fun d=>if d<1 then au 0 else aC 0) 0 1 (fun _=>au v.o)) 1 1 (fun _=>aC v.of)) (u1 := .agg (aA 2 (bK (bK (fun d=>if d<1 then au 0 else aC 0) 0 1 (fun _=>au v.o)) 1 1 (fun _=>aC v.req)))) (u2 := .agg (aA 2 (bK (bK (fun d=>if d<1 then au 0 else aC 0) 0 1 (fun _=>au v.o)) 1 1 (fun _=>aC v.of)))) 10 11 12 13 [[],[],[],[],[],[],[],[],[],[],[],[],[(0,[10]),(1,[11])],[(0,[10]),(1,[11]),(2,[12])]] [[(2,[0]),(3,[0])],[(2,[1]),(3,[1])],[(2,[2]),(3,[2])],[(2,[3]),(3,[3])],[(2,[4]),(3,[4])],[(3,[5])],[(3,[6])],[(3,[7])],[(3,[8])],[(3,[9])],[(2,[10]),(3,[10])],[(2,[11]),(3,[11])],[(3,[12])],[]] #[(pt n),au v.o,(pf n 12),aC v.req,.agg (aA 2 (bK (bK (fun d=>if d<1 then au 0 else aC 0) 0 1 (fun _=>au v.o)) 1 1 (fun _=>aC v.req))),(pt n),au v.o,(pf n 13),aC v.of,.agg (aA 2 (bK (bK (fun d=>if d<1 then au 0 else aC 0) 0 1 (fun _=>au v.o)) 1 1 (fun _=>aC v.of))),undef,undef,undef,undef] (by kernel_rfl) (by kernel_rfl) (by kernel_rfl) (by kernel_rfl) (by kernel_rfl) (by kernel_rfl) (by kernel_rfl) (by kernel_rfl) (by kernel_rfl) (by kernel_rfl) rfl rfl (by kernel_rfl) (by kernel_rfl) rfl rfl rfl rfl (by kernel_rfl) (by kernel_rfl) (fun k l=>(show ev _ (.tmp 6)=(pt k)from by kernel_rfl)) (fun k l=>(show ev _ (.tmp 7)=(pt l)from by kernel_rfl)) (fun k l=>(show ev _ (.tmp 16) = .agg (aA 2 (bK (bK (fun d=>if d<1 then au 0 else aC 0) 0 1 (fun _=>au v.o)) 1 1 (fun _=>aC v.req)))from by kernel_rfl)) (fun k l=>(show ev _ (.tmp 21) = .agg (aA 2 (bK (bK (fun d=>if d<1 then au 0 else aC 0) 0 1 (fun _=>au v.o)) 1 1 (fun _=>aC v.of)))from by kernel_rfl)) (bI _ _) (bI _ _) (bP (bP (fun jq _=>by show((fun d=>if d<1 then au 0 else aC 0:Nat->Value) jq).oneCell'=true; simp only[]; repeat (first|rfl|split)) (fun _ _=>rfl)) (fun _ _=>rfl)) (bP (bP (fun jq _=>by show((fun d=>if d<1 then au 0 else aC 0:Nat->Value) jq).oneCell'=true; simp only[]; repeat (first|rfl|split)) (fun _ _=>rfl)) (fun _ _=>rfl)) (fun k l => ?_) ?_
 ·refine⟨?_,?_,?_,?_,?_,?_,?_,?_,?_,?_,?_,?_,?_,?_,trivial⟩
  ·exact .inr qw
  ·exact .inr (sS (au v.o) fun G u=>bC (x:=bM v) rfl (show ev _ (.tmp 12)=(pt n)from by kernel_rfl) (by kernel_rfl) (E.aH.below u (by have:=E.lt; omega)) (i:=0) (by omega) (by omega) rfl)
  ·exact .inr qw
  ·exact .inr (sS (aC v.req) fun G u=>bC (x:=bM v) rfl (show ev _ (.tmp 14)=(pf n 12)from by kernel_rfl) (by kernel_rfl) (E.aH.below u (by have:=E.lt; omega)) (i:=12) (by omega) (by omega) rfl)
  ·exact .inr (sS (.agg (aA 2 (bK (bK (fun d=>if d<1 then au 0 else aC 0) 0 1 (fun _=>au v.o)) 1 1 (fun _=>aC v.req)))) fun G u=>fU (vs := [(0,au v.o),(1,aC v.req)]) (places := #[(0,1),(1,1)]) (m:=2) (x:=fun d=>if d<1 then au 0 else aC 0) rfl (Fx.MI (show ev _ (.tmp 13)=au v.o from by kernel_rfl) (show ev _ (.tmp 15)=aC v.req from by kernel_rfl)) Tryz.underlying117 (by kernel_rfl) (by kernel_rfl) (by rw[bG (off:=0) (s:=1) (y:=fun _=>au v.o) (by kernel_rfl) (cells_one (by rfl)) (by rfl)]; rw[bG (off:=1) (s:=1) (y:=fun _=>aC v.req) (by kernel_rfl) (cells_one (by rfl)) (by rfl)]; rfl))
  ·exact .inr qw
  ·exact .inr (sS (au v.o) fun G u=>bC (x:=bM v) rfl (show ev _ (.tmp 17)=(pt n)from by kernel_rfl) (by kernel_rfl) (E.aH.below u (by have:=E.lt; omega)) (i:=0) (by omega) (by omega) rfl)
  ·exact .inr qw
  ·exact .inr (sS (aC v.of) fun G u=>bC (x:=bM v) rfl (show ev _ (.tmp 19)=(pf n 13)from by kernel_rfl) (by kernel_rfl) (E.aH.below u (by have:=E.lt; omega)) (i:=13) (by omega) (by omega) rfl)
  ·exact .inr (sS (.agg (aA 2 (bK (bK (fun d=>if d<1 then au 0 else aC 0) 0 1 (fun _=>au v.o)) 1 1 (fun _=>aC v.of)))) fun G u=>fU (vs := [(0,au v.o),(1,aC v.of)]) (places := #[(0,1),(1,1)]) (m:=2) (x:=fun d=>if d<1 then au 0 else aC 0) rfl (Fx.MI (show ev _ (.tmp 18)=au v.o from by kernel_rfl) (show ev _ (.tmp 20)=aC v.of from by kernel_rfl)) Tryz.underlying117 (by kernel_rfl) (by kernel_rfl) (by rw[bG (off:=0) (s:=1) (y:=fun _=>au v.o) (by kernel_rfl) (cells_one (by rfl)) (by rfl)]; rw[bG (off:=1) (s:=1) (y:=fun _=>aC v.of) (by kernel_rfl) (cells_one (by rfl)) (by rfl)]; rfl))
  ·exact .inl rfl
  ·exact .inl rfl
  ·exact .inl rfl
  exact .inl rfl
 rintro k l w3 Z Q H I ne1 m16 m17 hb1;have U9:A≠k:=u_ (n_ (m9.lt) H);have VK:m.pb≠k:=u_ (n_ (m11.lt) H);have VL:m.rb≠k:=u_ (n_ (m12.lt) H);have adX:m.gb≠k:=u_ (n_ (m13.lt) H);have VN:m.ab≠k:=u_ (n_ (m14.lt) H);have adY:K≠k:=u_ (n_ (m15.lt) H);have U8:n≠k:=u_ (n_ (E.lt) H);have asM:A≠l:=u_ (n_ (m9.lt) I);have aph:m.pb≠l:=u_ (n_ (m11.lt) I);have apj:m.rb≠l:=u_ (n_ (m12.lt) I);have apk:m.gb≠l:=u_ (n_ (m13.lt) I);have adZ:m.ab≠l:=u_ (n_ (m14.lt) I);have aea:K≠l:=u_ (n_ (m15.lt) I);have asN:n≠l:=u_ (n_ (E.lt) I);have⟨m18,m20,m21,m22,m23,m24,mQ,b3⟩:=ny hb1 m9 m11 m12 m13 m14 m15 E b2;have H:w.heap.size<=k:=m_ b2.size H;have JR:=m16.lt;have I:w.heap.size<=l:=m_ b2.size I;have QF:=m17.lt;have q1:Z 2=(pt K):=by rw[Q]; kernel_rfl
 have q2:Z 3=(pt n):=by rw[Q]; kernel_rfl
 have q5:Z 6=(pt k):=by rw[Q]; kernel_rfl
 have q6:Z 7=(pt l):=by rw[Q]; kernel_rfl
 clear Q;refine sN<|Ws<|Ws ?_;refine jW [0,1,2,3,4,5] [4,0,0,4,4,4] [] fun qA dP iE => ?_;have⟨nH,oL,oM,oC,mI,m32,qB,nV,qC,b4⟩:=uP dP m18 m20 m21 m22 m23 m24 mQ m16 m17 b3;refine Rs (pt A) (aM m32.aH 0 (ha:=q1)) ?_;refine aY (pt A)<|aY (pf A 28)<|Rs (.map (some m.ab)) (aM nH.aH 28) ?_;refine Rs (.agg (aA 2 (bK (bK (fun d=>if d<1 then au 0 else aC 0) 0 1 (fun _=>au v.o)) 1 1 (fun _=>aC v.req)))) (fD nV.aH 0 (ha:=q5)) ?_
 rcases Fx.xW m.ao m.ar m.an v.o v.req with ⟨Vr,Dm,Dn,Ls⟩|jF
 ·refine Rs aG (Fx.Kl (z := .bool false) rfl rfl ((show ev _ _ = .agg (aA 2 (bK (bK (fun d=>if d<1 then au 0 else aC 0) 0 1 (fun _=>au v.o)) 1 1 (fun _=>aC v.req)))from rfl).trans (Fx.zH (y:=bK (bK (fun d=>if d<1 then au 0 else aC 0) 0 1 (fun _=>au v.o)) 1 1 (fun _=>aC v.req)) (a:=v.o) (b:=v.req) (Fx.AO (by omega) (Fx.qy (j:=0) (by omega) (by omega) rfl)) (Fx.qy (j:=0) (by omega) (by omega) rfl))) ac.1 mI Tryz.underlying112 Gz (by rfl) Dm Dn Ls rfl) ?_;refine bS<|aO<|ay<|av (.nilFunc)<|av (au 14)<|aD<|Wr<|sR<|aJ (.tuple #[.nilFunc,au 14]) ?_;have C:jA m v=14:=by unfold jA; exact d_ (sK Dm Dn Ls)
  exact⟨⟨.nilFunc,0,#[],by rw[C],rfl,fun L=>M_ (C.symm.trans L) (by first|decide|omega|assumption)⟩,b4⟩
 refine Rs aF (Fx.Kk (z := .bool false) rfl rfl ((show ev _ _ = .agg (aA 2 (bK (bK (fun d=>if d<1 then au 0 else aC 0) 0 1 (fun _=>au v.o)) 1 1 (fun _=>aC v.req)))from rfl).trans (Fx.zH (y:=bK (bK (fun d=>if d<1 then au 0 else aC 0) 0 1 (fun _=>au v.o)) 1 1 (fun _=>aC v.req)) (a:=v.o) (b:=v.req) (Fx.AO (by omega) (Fx.qy (j:=0) (by omega) (by omega) rfl)) (Fx.qy (j:=0) (by omega) (by omega) rfl))) ac.1 mI Tryz.underlying112 Gz (by rfl) jF) ?_;refine bS<|aK<|Wk<|sN<|Ws ?_;refine jW [0,1,2,3,4,5,6,7,8,9,10,11] [1,0,0,1,1,1,0,0,0,2,3,0] [(10,0,[0]),(10,3,[3]),(10,4,[4]),(10,5,[5]),(10,9,[9]),(11,9,[9]),(11,10,[10])] fun Da gG nU => ?_;have⟨S,qX,qY,U,nI,V,nK,rY,W,X⟩:=uP gG nH oL oM oC mI m32 qB nV qC b4;refine Rd (v:=(pt A)) (by rfl) (by rfl) (tZ _) (fun G u=>bC (x:=fun _=>(pt A)) rfl q1 (by kernel_rfl) (V.aH.below u (by have:=V.lt; omega)) (i:=0) (by omega) (by omega) rfl) ?_;refine aY (pt A)<|aY (pf A 27)<|Rd (v := .map (some m.gb)) (by rfl) (by rfl) (tZ _) (fun G u=>bC (x:=vG m) rfl rfl (by kernel_rfl) (S.aH.below u (by have:=S.lt; omega)) (i:=27) (by omega) (by omega) rfl) ?_;refine Rd (v := .agg (aA 2 (bK (bK (fun d=>if d<1 then au 0 else aC 0) 0 1 (fun _=>au v.o)) 1 1 (fun _=>aC v.of)))) (by rfl) (by rfl) (tZ _) (fun G u=>eG (x:=bK (bK (fun d=>if d<1 then au 0 else aC 0) 0 1 (fun _=>au v.o)) 1 1 (fun _=>aC v.of)) (y:=bK (bK (fun d=>if d<1 then au 0 else aC 0) 0 1 (fun _=>au v.o)) 1 1 (fun _=>aC v.of)) rfl q6 (by kernel_rfl) (by kernel_rfl) (W.aH.below u (by have:=W.lt; omega)) (i:=0) (by omega) (by omega) (fun j _=>by rw[G_])) ?_
 rcases Fx.xW (fun i=>m.g i 0) (fun i=>m.g i 1) m.gn v.o v.of with ⟨f,P,M,N⟩|aaw
 ·refine Rd (v := .tuple #[.agg (aA 5 (jm (m.g f))),.bool true]) (by rfl) (by rfl) (tZ _) (fun G u=>Fx.P7 (z := .agg (aA 5 (fun d=>if d<1 then au 0 else if d<3 then aC 0 else if d<4 then au 0 else aC 0))) rfl rfl ((show ev _ _ = .agg (aA 2 (bK (bK (fun d=>if d<1 then au 0 else aC 0) 0 1 (fun _=>au v.o)) 1 1 (fun _=>aC v.of)))from rfl).trans (Fx.zH (y:=bK (bK (fun d=>if d<1 then au 0 else aC 0) 0 1 (fun _=>au v.o)) 1 1 (fun _=>aC v.of)) (a:=v.o) (b:=v.of) (Fx.AO (by omega) (Fx.qy (j:=0) (by omega) (by omega) rfl)) (Fx.qy (j:=0) (by omega) (by omega) rfl))) ac.2 (U.up u) Tryz.underlying111 Gz (by kernel_rfl) P M N rfl) ?_;refine aY (.tuple #[.agg (aA 5 (jm (m.g f))),.bool true])<|aY (.agg (aA 5 (jm (m.g f))))<|aY aG<|xM<|rR 5 (fun d=>if d<1 then au 0 else if d<3 then aC 0 else if d<4 then au 0 else aC 0) fun D w4 eg5 oO s6 z3 => ?_;have⟨sQ,uh,tL,xq,wC,uJ,wD,xY,uK,b6⟩:=uP s6.old S qX qY U nI V nK rY W X;have lg5:=iQ eg5 X.size;have⟨apl,apm,apn,apo,apq,apr,aps,apt,apu⟩:=Xu eg5 S.lt qX.lt qY.lt U.lt nI.lt V.lt nK.lt rY.lt W.lt;have tg5:=oO.lt;refine Ln ⟨s6.old,?_⟩;refine gQ<|eP oO 0 (h1:=(fun j hj=>by rcases j with _|_|_|_|_|_|_|_|_|_|_|_|_|_|j <;> first|rfl|omega)) fun w5 sU s7 z4 => ?_
  have tN:aR w5 D 5 (jm (m.g f)) 106:=aS sU;have ad:aR w5 D 5 (jm (m.g f)) 106:=tN;have gV:=gP s7 oO.ty;have⟨qZ,oD,uj,m64,xG,xu,vO,xH,sV⟩:=abj gV sQ uh tL xq wC uJ wD xY uK;have b7:=s7.below b6 b6.size (by omega);refine Ln<|aY aG<|bS<|Ws<|ay<|av aG<|av aF<|av aF<|av (pf D 4)<|Lv (aC ((m.g f) 4)) (aM ad.aH 4) ?_;by_cases SK:((m.g f) 4)=0
  ·refine Lv aF (jQ SK)<|av aF<|aD<|aK<|Wk<|sN<|ay<|Lv (pt A) (aM xu.aH 0 (ha:=q1))<|av (pf D 2)<|Lv (aC ((m.g f) 2)) (aM ad.aH 2)<|Lv (.func (.func 223) #[] #[(pt n),(pt D)]) (Fx.mX (us := []) (vs := [(pt n),(pt D)]) rfl rfl (Fx.args2 q2 rfl))<|mh (VE m A B _ (h.up b7) ((m.g f) 2) v (m.g f) hvo n D vO ad) ?_;rintro e9 w6 ⟨⟨aa,fi1,Qa,he,ho1,hD1⟩,F⟩;refine⟨_,he,?_⟩;clear he;have⟨vP,vQ,vR,zJ,xw,zq,zu,yP,xA,wE,b8⟩:=EJ F qZ oD uj m64 xG xu vO xH sV ad b7;have bw1:Bw w6 w6:=⟨Below.refl _ _⟩;refine av (.tuple #[aa,au (dA m (fun x=>bH x v.o (m.g f 3)) (m.T.path ((m.g f) 2)))])<|av (aa)<|av (au (dA m (fun x=>bH x v.o (m.g f 3)) (m.T.path ((m.g f) 2))))<|rR 1 (fun _ => .nilFunc) fun O w7 eg6 wF s9 z5 => ?_;have⟨zX,zY,A8,ET,DT,Ce,b9⟩:=jR s9.old zq zu yP xA wE bw1 b8;have lg6:=iQ eg6 b8.size;have⟨apv,apw,apx,apy,apz,apA,apB,apC,apD,apE⟩:=ZV eg6 vP.lt vQ.lt vR.lt zJ.lt xw.lt zq.lt zu.lt yP.lt xA.lt wE.lt;have tg6:=wF.lt;have kg6:w6.heap.size<=O:=(by rw[eg6]; exact bw1.b.size);refine jg wF 0 aa (h1:=ho1) fun w8 Dc s10 z6 => ?_;have Ae:aR w8 O 1 (fun _=>aa) 123:=dG Dc;have ku:=gP s10 wF.ty;have⟨wO,uo,pX,oV,qE⟩:=qV ku zX zY A8 ET DT;have pY:=(⟨s10.below Ce.b Ce.b.size kg6⟩:Bw w6 _);have b10:=s10.below b9 b9.size (by omega);refine av (au (dA m (fun x=>bH x v.o (m.g f 3)) (m.T.path ((m.g f) 2))))<|aD<|Ws<|ay<|av (au (dA m (fun x=>bH x v.o (m.g f 3)) (m.T.path ((m.g f) 2)))) ?_;by_cases Y:(dA m (fun x=>bH x v.o (m.g f 3)) (m.T.path ((m.g f) 2)))=0
   ·refine Lv aF (jQ Y)<|aD<|aK<|Wk<|sN<|ay<|Lv (.func (.func 225) #[] #[(pt O),(pt K),(pt k),(pt n),(pt D),(pt l)]) (Fx.mX (us := []) (vs := [(pt O),(pt K),(pt k),(pt n),(pt D),(pt l)]) rfl rfl (Fx.ahF rfl q1 q5 q2 rfl q6))<|av (.func (.func 225) #[] #[(pt O),(pt K),(pt k),(pt n),(pt D),(pt l)])<|av (au 0)<|aD<|Wr<|aJ (.tuple #[.func (.func 225) #[] #[(pt O),(pt K),(pt k),(pt n),(pt D),(pt l)],au 0]) ?_;have J:fA m v.o v.of=f:=yY h.g.inj P M N;have hD0:=hD1 Y;have hfe:=hD0.e;subst hfe;have em:iJ m v=Po m (qH m (fun x=>bH x v.o (m.g f 3)) (m.T.path (m.g f 2))).R v f:=(by unfold iJ VJ; rw[J]);rw[em];have C:jA m v=0:=by unfold jA; rw[b_ (show ¬ gH m v.o v.req=true by unfold gH; rw[pK jF]; decide)]; rw[b_ (show ¬ (iM m v.o v.of=false\/m.g (fA m v.o v.of) 4≠0) by rw[J,show iM m v.o v.of=true from sK P M N]; rintro (q|q) <;> first|(exact M_ q (by decide))|omega),J]; exact Y
    exact⟨⟨_,225,#[(pt O),(pt K),(pt k),(pt n),(pt D),(pt l)],by rw[C],rfl,fun _=>⟨rfl,⟨_,_,Tryz.func225,rfl,rfl⟩,fun w2 F=>(VH m A B w2 ((h.up b10).up F) v hv hwf _ w5.heap.size w.heap.size _ (by omega) _ (hD0.up (JN pY.b F)) f _ _ _ _ _ _ (Ae.cO (Sb F) (u_ Ae.lt)) (wO.cO (Sb F) (u_ wO.lt)) (pX.cO (Sb F) (u_ pX.lt)) (uo.cO (Sb F) (u_ uo.lt)) (qE.cO (Sb F) (u_ qE.lt)) (oV.cO (Sb F) (u_ oV.lt)) lg5 ⟨by omega,by omega,by omega,by omega,by omega⟩ jF P M N).mono fun _ _ hc=>⟨hc.1,hc.2.1,hc.2.2.mono fun _ hk=>hk⟩⟩⟩,b10⟩
   refine Lv aG (nk Y)<|aD<|aO<|ay<|av (au (dA m (fun x=>bH x v.o (m.g f 3)) (m.T.path ((m.g f) 2))))<|av (.nilFunc)<|av (au (dA m (fun x=>bH x v.o (m.g f 3)) (m.T.path ((m.g f) 2))))<|aD<|Wr<|sR<|aJ (.tuple #[.nilFunc,au (dA m (fun x=>bH x v.o (m.g f 3)) (m.T.path ((m.g f) 2)))]) ?_;have J:fA m v.o v.of=f:=yY h.g.inj P M N;have C:jA m v=dA m (fun x=>bH x v.o (m.g f 3)) (m.T.path ((m.g f) 2)):=by unfold jA; rw[b_ (show ¬ gH m v.o v.req=true by unfold gH; rw[pK jF]; decide)]; rw[b_ (show ¬ (iM m v.o v.of=false\/m.g (fA m v.o v.of) 4≠0) by rw[J,show iM m v.o v.of=true from sK P M N]; rintro (q|q) <;> first|(exact M_ q (by decide))|omega),J]
   exact⟨⟨.nilFunc,0,#[],by rw[C],rfl,fun L=>M_ (C.symm.trans L) (by first|decide|omega|assumption)⟩,b10⟩
  refine Lv aG (nk SK)<|av aG<|aD<|aO<|ay<|av (.nilFunc)<|av (au 12)<|aD<|Wr<|sR<|aJ (.tuple #[.nilFunc,au 12]) ?_;have J:fA m v.o v.of=f:=yY h.g.inj P M N;have C:jA m v=12:=by unfold jA; rw[b_ (show ¬ gH m v.o v.req=true by unfold gH; rw[pK jF]; decide)]; exact d_ (.inr (by rw[J]; omega))
  exact⟨⟨.nilFunc,0,#[],by rw[C],rfl,fun L=>M_ (C.symm.trans L) (by first|decide|omega|assumption)⟩,b7⟩
 refine Rd (v := .tuple #[.agg (aA 5 (fun d=>if d<1 then au 0 else if d<3 then aC 0 else if d<4 then au 0 else aC 0)),.bool false]) (by rfl) (by rfl) (tZ _) (fun G u=>Fx.P6 (z := .agg (aA 5 (fun d=>if d<1 then au 0 else if d<3 then aC 0 else if d<4 then au 0 else aC 0))) rfl rfl ((show ev _ _ = .agg (aA 2 (bK (bK (fun d=>if d<1 then au 0 else aC 0) 0 1 (fun _=>au v.o)) 1 1 (fun _=>aC v.of)))from rfl).trans (Fx.zH (y:=bK (bK (fun d=>if d<1 then au 0 else aC 0) 0 1 (fun _=>au v.o)) 1 1 (fun _=>aC v.of)) (a:=v.o) (b:=v.of) (Fx.AO (by omega) (Fx.qy (j:=0) (by omega) (by omega) rfl)) (Fx.qy (j:=0) (by omega) (by omega) rfl))) ac.2 (U.up u) Tryz.underlying111 Gz (by kernel_rfl) aaw) ?_;refine aY (.tuple #[.agg (aA 5 (fun d=>if d<1 then au 0 else if d<3 then aC 0 else if d<4 then au 0 else aC 0)),.bool false])<|aY (.agg (aA 5 (fun d=>if d<1 then au 0 else if d<3 then aC 0 else if d<4 then au 0 else aC 0)))<|aY aF<|xM<|rR 5 (fun d=>if d<1 then au 0 else if d<3 then aC 0 else if d<4 then au 0 else aC 0) fun g7 w9 eg7 rz s11 z7 => ?_;have b11:=bE s11.old X;have lg7:=iQ eg7 X.size;have⟨ajO,ajP,ajQ,ajR,ajS,ajT,ajU,ajV,ajW⟩:=Xu eg7 S.lt qX.lt qY.lt U.lt nI.lt V.lt nK.lt rY.lt W.lt;have tg7:=rz.lt;refine Ln ⟨s11.old,?_⟩;refine gQ<|eP rz 0 (h1:=(fun j hj=>by rcases j with _|_|_|_|_|_|_|_|_|_|_|_|_|_|j <;> first|rfl|omega)) fun sO qF s12 z8 => ?_
 have yt:aR sO g7 5 (fun d=>if d<1 then au 0 else if d<3 then aC 0 else if d<4 then au 0 else aC 0) 106:=aS qF;have b12:=s12.below b11 b11.size (by omega);refine Ln<|aY aF<|bS<|Ws<|ay<|av aF<|av aG<|av aG<|dB<|dB<|dB<|av aG<|aD<|aO<|ay<|av (.nilFunc)<|av (au 12)<|aD<|Wr<|sR<|aJ (.tuple #[.nilFunc,au 12]) ?_;have C:jA m v=12:=by unfold jA; rw[b_ (show ¬ gH m v.o v.req=true by unfold gH; rw[pK jF]; decide)]; exact d_ (.inl (pK aaw))
 exact⟨⟨.nilFunc,0,#[],by rw[C],rfl,fun L=>M_ (C.symm.trans L) (by first|decide|omega|assumption)⟩,b12⟩
namespace Rt
noncomputable def iU(m:dO)(v:EvM):dO:=if v.kind=1 then Dp m v else if v.kind=2 then uF m v else if v.kind=3 then kL m v else if v.kind=4 then iJ m v else if v.kind=5 then Dl m v else if v.kind=6 then Ie m v else Cv m v
def dL(m:dO)(v:EvM):Int:=if v.kind=1 then jc m v else if v.kind=2 then jL m v else if v.kind=3 then jd m v else if v.kind=4 then jA m v else if v.kind=5 then kK m v else if v.kind=6 then 0 else 0
def bU(m:dO)(v:EvM):Int:=if bQ v=false then 1 else if jY m.known v=true then 14 else if dz m.known v=false then 13 else if m.inn (aL v)=false\/m.left (aL v)=true then 10 else dL m v
structure QlK(m:dO):Prop where
 own : ∀ a,a<6->0<=m.own a/\m.own a<=1000
 row : ∀ i,i<m.T.n -> ∀ p,p<54->0<=m.R i p/\m.R i p<=1125899906842624
 ga:QY m
 kn:BX m.known
def kfn(k:Nat):Nat:=if k=1 then 207 else if k=2 then 208 else if k=3 then 209 else if k=4 then 210 else if k=5 then 211 else if k=6 then 212 else 213
def Bu:Nat->Value:=fun p=>if p=0 then .nilFunc else .func (.func (kfn p)) #[] #[]
theorem YO{p:Nat}(h:1<=p):Bu p = .func (.func (kfn p)) #[] #[]:=b_ (by omega)
end Rt
theorem ahJ {k : Nat} (h1 : 1 ≤ k) (b : k ≤ 7) : ∃ a c, Tryz.prog.funcs[kfn k]? = some a ∧ (a.name == "runtime.NumGoroutine") = false ∧ a.body = some c := by
 rcases(show k=1\/k=2\/k=3\/k=4\/k=5\/k=6\/k=7 by omega)with rfl|rfl|rfl|rfl|rfl|rfl|rfl
 ·exact⟨_,_,Tryz.func207,rfl,rfl⟩
 ·exact⟨_,_,Tryz.func208,rfl,rfl⟩
 ·exact⟨_,_,Tryz.func209,rfl,rfl⟩
 ·exact⟨_,_,Tryz.func210,rfl,rfl⟩
 ·exact⟨_,_,Tryz.func211,rfl,rfl⟩
 ·exact⟨_,_,Tryz.func212,rfl,rfl⟩
 exact⟨_,_,Tryz.func213,rfl,rfl⟩
theorem U2.low{w:World}{B f b c d:Nat}{m g:dO}{e:Value}{cap:Array Value}(h:U2 w B f m g b e d cap)(i:c<=b):U2 w B f m g c e d cap := { h with s:=fun n j=>(h.s n j).mono fun _ _ a=>⟨a.1,a.2.1,a.2.2.mono fun k l=>l.imp id (m_ i)⟩ }
theorem YP(m:dO)(a B:Nat)(w:World)(h:lN w B a m)(v:EvM)(d:bQ v=true)(f:gu v)(e:QlK m)(k:Nat)(l:v.kind=(k:Int))(j:1<=k/\k<=7) :
 Calls Tryz.prog (kfn k) #[(pt a),.agg (aA 14 (bM v))] w (Rx w B a m (iU m v) (dL m v)):=by
 rcases(show k=1\/k=2\/k=3\/k=4\/k=5\/k=6\/k=7 by omega)with rfl|rfl|rfl|rfl|rfl|rfl|rfl
 ·have c:v.kind=1:=by omega
  rw[show iU m v=Dp m v by unfold iU; rw[d_ (by omega)],show dL m v=jc m v by unfold dL; rw[d_ (by omega)]];exact YJ m a B w h v d e.own
 ·have c:v.kind=2:=by omega
  rw[show iU m v=uF m v by unfold iU; rw[b_ (by omega),d_ (by omega)],show dL m v=jL m v by unfold dL; rw[b_ (by omega),d_ (by omega)]];exact Vf m a B w h v d c e.row
 ·have c:v.kind=3:=by omega
  rw[show iU m v=kL m v by unfold iU; rw[b_ (by omega),b_ (by omega),d_ (by omega)],show dL m v=jd m v by unfold dL; rw[b_ (by omega),b_ (by omega),d_ (by omega)]];exact YM m a B w h v d f e.ga
 ·have c:v.kind=4:=by omega
  rw[show iU m v=iJ m v by unfold iU; rw[b_ (by omega),b_ (by omega),b_ (by omega),d_ (by omega)],show dL m v=jA m v by unfold dL; rw[b_ (by omega),b_ (by omega),b_ (by omega),d_ (by omega)]];exact YN m a B w h v d f
 ·have c:v.kind=5:=by omega
  rw[show iU m v=Dl m v by unfold iU; rw[b_ (by omega),b_ (by omega),b_ (by omega),b_ (by omega),d_ (by omega)],show dL m v=kK m v by unfold dL; rw[b_ (by omega),b_ (by omega),b_ (by omega),b_ (by omega),d_ (by omega)]];exact Yy m a B w h v d c
 ·have c:v.kind=6:=by omega
  rw[show iU m v=Ie m v by unfold iU; rw[b_ (by omega),b_ (by omega),b_ (by omega),b_ (by omega),b_ (by omega),d_ (by omega)],show dL m v=0 by unfold dL; rw[b_ (by omega),b_ (by omega),b_ (by omega),b_ (by omega),b_ (by omega),d_ (by omega)]];obtain⟨b,g,i⟩:=Hw d c;exact Yz m a B w h v d b g i
 have c:v.kind=7:=by omega
 rw[show iU m v=Cv m v by unfold iU; rw[b_ (by omega),b_ (by omega),b_ (by omega),b_ (by omega),b_ (by omega),b_ (by omega)],show dL m v=0 by unfold dL; rw[b_ (by omega),b_ (by omega),b_ (by omega),b_ (by omega),b_ (by omega),b_ (by omega)]];exact Vj m a B w h v d
theorem Pp(m:dO)(b B:Nat)(w:World)(h:lN w B b m)(v:EvM)(n:gu v)(R:QlK m)(hB:1<=B)(N:iN w 0 0 8 Bu) :
 Calls Tryz.prog 52 #[(pt b),.agg (aA 14 (bM v))] w fun e w'=>Rx w B b m (iU m v) (bU m v) e w':=by
 have M:=h.c;have hT:=h.t;have hP:=h.p;have hR:=h.r;have hG:=h.g;have hA:=h.a;have hN:=h.ne;have lC:=h.c.lt;have lT:=h.t.lt;have lP:=h.p.lt;have lR:=h.r.lt;have lG:=h.g.lt;have lA:=h.a.lt;obtain⟨s,Q⟩ : ∃ s:Nat,v.kind=(s:Int):=⟨v.kind.toNat,by have:=n.kind; omega⟩;have O:Kr m.known:=fun i hi=>by have:=R.kn i hi; exact⟨by omega,by omega⟩
 refine Kent Tryz.func52 55 ?_;refine ay<|pR fun y w1 A F s1 z1 => ?_;have⟨m2,m8,H⟩:=iy s1.old M N (Below.refl w.heap.size w);have sM:=gT A;have⟨nG,yD,xC,Bq,zL⟩:=zS A M.lt hP.lt hR.lt hG.lt hA.lt;have KN:0≠y:=by rw[A]; exact u_ (N.lt (by omega))
 have ug:=F.lt;refine av (.nilFunc)<|av (au 0)<|aD<|Ws<|Wb<|ay<|av (pt b)<|Lv aF (Fx.mP rfl rfl rfl (by kernel_rfl))<|av aF<|aD<|aK<|ay<|Lv (.agg (aA 14 (bM v))) (fD F.aH 0) ?_;by_cases k:(bQ v)=true
 ·have D:bQ v=true:=k;obtain⟨a,ha,ho⟩ : ∃ a:Nat,a<6/\v.o=(a:Int)+1:=eU (iV D);have E:aL v=a:=by unfold aL; omega
  have hkr:=ji D;refine dJ (Ib v _ n) aG (by rw[k]) ?_;intro w2 hb1;have⟨m9,m15,m16,b2⟩:=kV hb1 m2 m8 F H;refine av aF<|av aF<|aD<|aK<|Ws ?_;refine jW [0,1,2,3,4,5,6] [0,0,0,4,4,3,0] [(5,3,[3]),(5,4,[4]),(6,5,[5])] fun qA dP iE => ?_;have⟨S,m23,T,I⟩:=kV dP m9 m15 m16 b2;refine aY (pt b)<|aY (pt b)<|aY (pf b 12)<|Rs (.agg (aA 6 (rv .u64 m.known))) (fD S.aH 12 (fun j hj=>rG (p:=j) (by omega) (by omega))) ?_;refine Rs (.agg (aA 14 (bM v))) (fD T.aH 0) ?_;refine gQ ?_;by_cases l:(jY m.known v)=true
  ·refine dJ (Vb m.known v _ n) aG (by rw[l]) ?_;intro w3 hb2;have b4:=bE hb2 I;refine Ln<|aY aG<|bS<|aO<|ay<|av (.nilFunc)<|av (au 14)<|aD<|Wr<|bL<|sR<|aJ (.tuple #[.nilFunc,au 14]) ?_;have d:bU m v=14:=(by unfold bU; rw[b_ (by rw[k]; decide)]; exact d_ l);exact⟨⟨.nilFunc,0,#[],by rw[d],rfl,fun f=>M_ (d.symm.trans f) (by first|decide|omega|assumption)⟩,b4⟩
  rw[T_]at l;refine dJ (Vb m.known v _ n) aF (by rw[l]) ?_;intro w4 hb3;have⟨qB,qY,uI,b5⟩:=kV hb3 S m23 T I;refine Ln<|aY aF<|bS<|aK<|Ws ?_;refine jW [0,1,2,3,4,5,6,7] [0,0,0,4,4,3,0,0] [(5,3,[3]),(5,4,[4]),(6,5,[5]),(7,5,[5])] fun Da gG nU => ?_;have⟨U,sQ,V,J⟩:=kV gG qB qY uI b5;refine aY (pt b)<|aY (pt b)<|aY (pf b 12)<|Rs (.agg (aA 6 (rv .u64 m.known))) (fD U.aH 12 (fun j hj=>rG (p:=j) (by omega) (by omega))) ?_;refine Rs (.agg (aA 14 (bM v))) (fD V.aH 0) ?_;refine gQ ?_;by_cases q:(dz m.known v)=true
  ·refine dJ (Pb m.known v _ n O) aG (by rw[q]) ?_;intro w5 hb4;have⟨uh,xY,uK,b7⟩:=kV hb4 U sQ V J;refine Ln<|aY aF<|aY aF<|bS<|aK<|Ws<|Ws ?_;refine jW [0,1,4,5,2,3,6,7,8,9] [0,0,4,0,0,0,0,4,0,0] [] fun Rv lY AX => ?_;have⟨G,uj,W,K⟩:=kV lY uh xY uK b7;refine aY (pt b)<|aY (pt y)<|aY (pt b)<|aY (pt b)<|Rs (au v.o) (aM W.aH 0) ?_;refine Rp (au a) (fun _=>gD)<|Rp (pf b a) (fun _=>jM 6 1) ?_;by_cases u:(m.inn a)=true
   ·refine Rs aG (aM G.aH a ((Ct (by omega)).trans (L_ Value.bool u))) ?_;refine aY aF<|aY aF<|bS<|aK ?_;refine jW [0,1,4,5,2,3,6,7,8] [0,0,4,0,0,0,0,4,0] [] fun wt4 qJ G9 => ?_;have⟨X,uT,Y,L⟩:=kV qJ G uj W K;refine aY (pt b)<|aY (pt y)<|aY (pt b)<|aY (pf b 6)<|Rs (au v.o) (aM Y.aH 0) ?_;refine Rp (au a) (fun _=>gD)<|Rp (pf b (a+6)) (fun _=>jM 6 1) ?_;by_cases x:(m.left a)=true
    ·refine Rs aG (aM X.aH (a+6) ((Bn (p:=a) (by omega) (by omega)).trans (L_ Value.bool x))) ?_;refine aY aG<|bS<|aO<|ay<|av (.nilFunc)<|av (au 10)<|aD<|Wr<|bL<|sR<|aJ (.tuple #[.nilFunc,au 10]) ?_;have d:bU m v=10:=(by unfold bU; rw[b_ (by rw[k]; decide)]; rw[b_ (by rw[l]; decide)]; rw[b_ (by rw[q]; decide)]; exact d_ (.inr (by rw[E]; exact x)));exact⟨⟨.nilFunc,0,#[],by rw[d],rfl,fun f=>M_ (d.symm.trans f) (by first|decide|omega|assumption)⟩,L⟩
    rw[T_]at x;refine Rs aF (aM X.aH (a+6) ((Bn (p:=a) (by omega) (by omega)).trans (L_ Value.bool x))) ?_;refine aY aF<|bS<|aK<|Wk<|bR<|sN<|Ws ?_;refine jW [0,4,1,2,3,5,6,7,8,9,10] [0,4,0,4,0,4,3,0,0,0,0] [(6,1,[3,2,1]),(6,3,[3]),(6,5,[5]),(7,6,[6]),(8,6,[6]),(9,6,[6]),(10,6,[6])] fun wt5 zI SQ => ?_;have⟨xA,Z,z⟩:=iy zI uT Y L;refine aY (pf y 8)<|aY (pt b)<|Rs (.int .u8 (s:Int)) (aM Z.aH 8 (L_ (Value.int IntKind.u8) Q)) ?_;refine Rp (pf 0 s) (fun _=>jM 8 1)<|Rs (.func (.func (kfn s)) #[] #[]) (aM xA s (YO (by omega))) ?_;refine Rs (.agg (aA 14 (bM v))) (fD Z.aH 0) ?_;refine gQ<|Au (by rfl) (Fx.O7 (args := [(pt b),.agg (aA 14 (bM v))]) rfl rfl rfl (by rfl) (ahJ (by omega) (by omega))) rfl<|(YP m b B _ (h.up z) v D n R s Q (by omega)).mono ?_;rintro e9 w6 ⟨⟨C,fi1,Qa,P,ho1,hD1⟩,hb5⟩;refine⟨_,P,?_⟩;clear P;have aa:=bE hb5 z;refine Ln<|aY (C)<|aY (au (dL m v))<|aY (C)<|aY (au (dL m v))<|bS<|Wr<|aJ (.tuple #[C,au (dL m v)]) ?_;have d:bU m v=dL m v:=(by unfold bU; rw[b_ (by rw[k]; decide)]; rw[b_ (by rw[l]; decide)]; rw[b_ (by rw[q]; decide)]; exact b_ (by rw[E,u,x]; decide));exact⟨⟨_,_,_,by rw[d],ho1,fun f=>(hD1 (d.symm.trans f)).low z.size⟩,aa⟩
   rw[T_]at u;refine Rs aF (aM G.aH a ((Ct (by omega)).trans (L_ Value.bool u))) ?_;refine aY aG<|aY aG<|bS<|aO<|Wk<|sN<|aO<|ay<|av (.nilFunc)<|av (au 10)<|aD<|Wr<|bL<|sR<|aJ (.tuple #[.nilFunc,au 10]) ?_;have d:bU m v=10:=(by unfold bU; rw[b_ (by rw[k]; decide)]; rw[b_ (by rw[l]; decide)]; rw[b_ (by rw[q]; decide)]; exact d_ (.inl (by rw[E]; exact u)));exact⟨⟨.nilFunc,0,#[],by rw[d],rfl,fun f=>M_ (d.symm.trans f) (by first|decide|omega|assumption)⟩,K⟩
  rw[T_]at q;refine dJ (Pb m.known v _ n O) aF (by rw[q]) ?_;intro w7 hb6;have ab:=bE hb6 J;refine Ln<|aY aG<|aY aG<|bS<|aO<|ay<|av (.nilFunc)<|av (au 13)<|aD<|Wr<|bL<|sR<|aJ (.tuple #[.nilFunc,au 13]) ?_;have d:bU m v=13:=by unfold bU; rw[b_ (by rw[k]; decide)]; rw[b_ (by rw[l]; decide)]; exact d_ q
  exact⟨⟨.nilFunc,0,#[],by rw[d],rfl,fun f=>M_ (d.symm.trans f) (by first|decide|omega|assumption)⟩,ab⟩
 rw[T_]at k;refine dJ (Ib v _ n) aF (by rw[k]) ?_;intro w8 hb7;have ac:=bE hb7 H;refine av aG<|av aG<|aD<|aO<|ay<|av (.nilFunc)<|av (au 1)<|aD<|Wr<|bL<|sR<|aJ (.tuple #[.nilFunc,au 1]) ?_;have d:bU m v=1:=by unfold bU; exact d_ k
 exact⟨⟨.nilFunc,0,#[],by rw[d],rfl,fun f=>M_ (d.symm.trans f) (by first|decide|omega|assumption)⟩,ac⟩
namespace Rt
noncomputable def jB(m:dO)(v:EvM):dO:=if bU m v=0 then { iU m v with known:=aI (iU m v).known (aL v) ((iU m v).known (aL v)+1) } else m
theorem Lu(m:dO)(v:EvM):(iU m v).known=m.known:=by
 unfold iU
 repeat (first|rfl|split)
def FU:Nat->Int:=fun _=>0
def aZ(m:dO)(k:Int):Nat->Int:=if m.T.has k=true then AB m k else FU
end Rt
theorem lN.known{w w':World}{B d:Nat}{m:dO}{K:Nat->Int}(h:lN w B d m)(f:Stp d w w')(e:aR w' d 29 (vG { m with known:=K }) 114):lN w' B d { m with known:=K }:=by
 have b:=gP f h.c.ty;exact { c:=e,t:=h.t.kN b (by decide),p:=h.p.kN b trivial,r:=h.r.kN b trivial,g:=h.g.kN b trivial,a:=h.a.kN b trivial,ne:=⟨h.ne.mp,h.ne.mr,h.ne.mg,h.ne.ma,h.ne.pr,h.ne.pg,h.ne.pa,h.ne.rg,h.ne.ra,h.ne.ga⟩,lB:=h.lB,pB:=h.pB,rB:=h.rB,gB:=h.gB,aB:=h.aB }
theorem qh{m:dO}{v:EvM}(h:bU m v=0):bQ v=true:=by
 cases hc:bQ v with
 | true=>rfl
 | false=>unfold bU at h; rw[d_ hc]at h; cases h
theorem qj{m:dO}{v:EvM}(h:bU m v=0):v.seq=m.known (aL v)+1/\dL m v=0/\m.inn (aL v)=true/\m.left (aL v)=false:=by
 have d:=qh h;unfold bU at h;rw[b_ (by rw[d]; decide)]at h;by_cases c:jY m.known v=true
 ·rw[d_ c]at h; cases h
 rw[b_ c]at h;by_cases a:dz m.known v=false
 ·rw[d_ a]at h; cases h
 rw[b_ a]at h;by_cases b:m.inn (aL v)=false\/m.left (aL v)=true
 ·rw[d_ b]at h; cases h
 rw[b_ b]at h;refine⟨?_,h,?_,?_⟩
 ·have a:dz m.known v=true:=by cases e:dz m.known v with|true=>rfl|false=>exact M_ e a
  unfold dz at a;simp only[S_,P_]at a;exact a.1.2
 ·cases e:m.inn (aL v)with|true=>rfl|false=>exact M_ (.inl e) b
 cases e:m.left (aL v)with|false=>rfl|true=>exact M_ (.inr e) b
theorem apF(m:dO)(b B:Nat)(w:World)(h:lN w B b m)(v:EvM)(D:gu v)(C:QlK m)(s:1<=B)(j:iN w 0 0 8 Bu) :
 Calls Tryz.prog 19 #[(pt b),.agg (aA 14 (bM v))] w fun e G=>e = .returned (au (bU m v))/\Below w.heap.size w G:=by
 have u:=h.c;have M:=h.t;have y:=h.p;have z:=h.r;have x:=h.g;have q:=h.a;have L:=h.ne;have P:=h.c.lt;have T:=h.t.lt;have R:=h.p.lt;have S:=h.r.lt;have Q:=h.g.lt;have O:=h.a.lt;refine Kent Tryz.func19 14 ?_;refine ay<|pR fun o w1 d l F z1 => ?_;have⟨E,i⟩:=fq F.old j (Below.refl w.heap.size w);have U:=gT d;have⟨V,W,X,Y,Z⟩:=zS d u.lt y.lt z.lt x.lt q.lt;have aa:0≠o:=by rw[d]; exact u_ (j.lt (by omega))
 have ab:=l.lt;refine av (au 0)<|aD<|ay<|av (pt b)<|Lv (.agg (aA 14 (bM v))) (fD l.aH 0)<|mh (Pp m b B _ (h.up i) v D C s E) ?_;rintro I w2 ⟨⟨f,J,H,k,N,K⟩,A⟩;refine⟨_,k,?_⟩;clear k;have n:=bE A i;refine av (.tuple #[f,au (bU m v)])<|av (f)<|av (au (bU m v))<|av (f)<|av (au (bU m v))<|aD<|ay<|av (au (bU m v))<|av (au (bU m v))<|aD<|Wr<|aJ (au (bU m v)) ?_;exact⟨rfl,n⟩
theorem YQ(m:dO)(b B:Nat)(w:World)(h:lN w B b m)(v:EvM)(hwf:gu v)(M:QlK m)(hB:1<=B)(I:iN w 0 0 8 Bu) :
 Calls Tryz.prog 20 #[(pt b),.agg (aA 14 (bM v))] w fun e S=>e = .returned (au (bU m v))/\lN S B b (jB m v)/\jV (U1 m b w.heap.size) w S:=by
 have F:=h.c;have hT:=h.t;have hP:=h.p;have hR:=h.r;have hG:=h.g;have Z:=h.a;have hN:=h.ne;have lC:=h.c.lt;have lT:=h.t.lt;have lP:=h.p.lt;have lR:=h.r.lt;have lG:=h.g.lt;have lA:=h.a.lt;refine Kent Tryz.func20 30 ?_;refine ay<|pR fun E w1 x D s1 z1 => ?_;have⟨d,m8,l⟩:=iy s1.old F I (Below.refl w.heap.size w);have sM:=gT x;have⟨nG,yD,xC,Bq,zL⟩:=zS x F.lt hP.lt hR.lt hG.lt Z.lt;have KN:0≠E:=by rw[x]; exact u_ (I.lt (by omega))
 have ug:=D.lt;refine av (au 0)<|aD<|ay<|av (pt b)<|Lv (.agg (aA 14 (bM v))) (fD D.aH 0)<|mh (Pp m b B _ (h.up l) v hwf M hB m8) ?_;rintro W w2 ⟨⟨z,Y,V,j,ho1,hD1⟩,hb1⟩;refine⟨_,j,?_⟩;clear j;have⟨O,n⟩:=fq hb1 D l;refine av (.tuple #[z,au (bU m v)])<|av (z)<|av (au (bU m v))<|av (z)<|av (au (bU m v))<|aD<|Ws<|ay<|av (au (bU m v)) ?_;by_cases i:(bU m v)=0
 ·refine Lv aF (jQ i)<|aD<|aK<|Wk<|sN<|Ws ?_;have A:=hD1 i;have hfe:=A.e;subst hfe;refine Wl<|av (.func (.func Y) #[] V)<|Au (by rfl) (Fx.O7 (args := []) rfl rfl rfl (by simp) A.f) rfl<|(A.s _ (Below.refl _ _)).mono ?_;rintro W u ⟨j,C,G⟩;refine⟨_,j,?_⟩;clear j;have J:jV (U1 m b w.heap.size) w u:=(Fx.jV.of_below n) |> fun q=>Fx.jV.trans _ _ _ q (G.mono fun k hk=>hk.imp id (m_ l.size));obtain⟨d,y⟩ : ∃ q,q=iU m v:=⟨_,rfl⟩;rw[<- y]at C;have X:d.known=m.known:=by rw[y,Lu]
  have H:=C.c;have lC2:=H.lt;have hkb:=(qj i).1;have N:=qh i;obtain⟨a,K,ho⟩ : ∃ a:Nat,a<6/\v.o=(a:Int)+1:=eU (iV N);have hra:aL v=a:=by unfold aL; omega
  have hbd:=oh N;have hka:=M.kn a K;have P:=(h.up n).Ju (w':=u) (O) (by decide) G (by have:=O.lt; have:=l.size; omega);have awn:=P.lt;refine aD<|Ws ?_;refine jW [0,1,4,5,9,10,2,3,6,7,8,11,12] [0,0,4,0,0,0,0,4,0,0,0,0,3] [(12,2,[2]),(12,7,[7])] fun qA L iE => ?_;have s3:Stp u.heap.size u qA:=Sb L;have⟨Q,m19,m20⟩:=iy L H C P;have T:=J.then s3 (.inr J.size);refine aY (pt b)<|aY (pt E)<|aY (pt b)<|aY (pf b 12)<|aY (pt b)<|aY (pf b 12)<|Rs (au v.o) (aM m20.aH 0) ?_;refine Rp (au a) (fun _=>gD)<|Rp (pf b (a+12)) (fun _=>jM 6 1)<|Rs (aC (d.known a)) (aM Q.aH (a+12) (rG (p:=a) (by omega) (by omega))) ?_;refine Rp (aC (d.known a+1)) (fun v1=>Fx.J5 rfl rfl rfl (jP (by rw[X]; omega) rfl))<|Rp (pf b (a+12)) (fun _=>jM 6 1)<|gQ<|jg Q (a+12) (aC (d.known a+1)) fun w4 m21 R z2 => ?_;have m22:aR w4 b 29 (vG { d with known:=aI d.known a (d.known a+1) }) 114:=m21.to (QO K (by omega) _);have U:=T.then R (.inl (.inl (.inl rfl)));refine Ln (bS (ay (av (au 0) (aD (Wr (aJ (au 0) (⟨by rw[i],?_,U⟩)))))));rw[show jB m v = { d with known:=aI d.known a (d.known a+1) } by unfold jB; rw[d_ i,<- y,hra]];exact m19.known R m22
 refine Lv aG (nk i) (aD (aO (ay (av (au (bU m v)) (av (au (bU m v)) (aD (Wr (sR (aJ (au (bU m v)) (⟨rfl,?_,Fx.jV.of_below n⟩))))))))));rw[show jB m v=m by unfold jB; exact b_ i]; exact h.up n
namespace Rt
def yG(k f c d e b a:Nat):dO := { inn:=fun i=>decide (i<k),left:=fun _=>false,known:=fun _=>0,own:=fun _=>0,T:=dN.zero,R:=fun _ _=>0,gn:=0,g:=fun _ _=>0,an:=0,ao:=fun _=>0,ar:=fun _=>0,tp:=f,mb:=c,pb:=d,rb:=e,gb:=b,ab:=a }
end Rt
theorem VO(k g c d f b a:Nat)(h:k<6):dD (vG (yG k g c d f b a)) k (.bool true)=vG (yG (k+1) g c d f b a):=by
 rw[UZ h];have:aI (yG k g c d f b a).inn k true=(yG (k+1) g c d f b a).inn:=by
  funext i
  show(if i=k then true else decide (i<k))=decide (i<k+1);by_cases e:i=k
  ·subst e; rw[d_ rfl]; exact(f_ (by omega)).symm
  ·rw[b_ e]; exact decide_eq_decide.2 (by omega)
 show vG { yG k g c d f b a with inn:=_ }=_;rw[this]; rfl
theorem YR(m:dO)(b B:Nat)(w:World)(h:lN w B b m) :
 Calls Tryz.prog 21 #[(pt b)] w fun e D=>e = .returned (.agg (aA 6 (rv .u64 m.known)))/\Below w.heap.size w D:=by
 have i:=h.c;have G:=h.t;have s:=h.p;have u:=h.r;have q:=h.g;have o:=h.a;have F:=h.ne;have J:=h.c.lt;have N:=h.t.lt;have L:=h.p.lt;have M:=h.r.lt;have K:=h.g.lt;have I:=h.a.lt;refine Kent Tryz.func21 10 ?_;refine ay<|BI (m:=6) (y:=rv .u64 (fun _=>0)) (by rfl) rfl (by kernel_rfl) rfl fun n V f k A W => ?_;have⟨v,d⟩:=fq A.old i (Below.refl w.heap.size w);have O:=gT f;have⟨P,Q,R,S,T⟩:=zS f i.lt s.lt u.lt q.lt o.lt;have U:=k.lt;refine aD<|Ws<|ay<|av (pt b)<|Lv aF (Fx.mP rfl rfl rfl (by kernel_rfl))<|aD<|aK<|Wk<|sN<|ay<|av (pt b)<|av (pt b)<|av (pf b 12)<|Lv (.agg (aA 6 (rv .u64 m.known))) (fD v.aH 12 (fun j H=>rG (p:=j) (by omega) (by omega)))<|eP k 0 fun E x C X => ?_;have z:aR E n 6 (rv .u64 m.known) 35:=aS x;have l:=C.below d d.size (by omega);refine aD (Wr (⟨.agg (aA 6 (rv .u64 m.known)),rV Tryz.results21 ⟨_,rfl,aW z.aH (by kernel_rfl) (by kernel_rfl)⟩,?_⟩));exact⟨rfl,l⟩
theorem YS(m:dO)(f B:Nat)(w:World)(h:lN w B f m)(i b:Int)(hi : -9223372036854775808<=i/\i<=9223372036854775807) :
 Calls Tryz.prog 31 #[(pt f),au i,aC b] w fun e C=>e = .returned (au (fJ (aZ m b) i))/\Below w.heap.size w C:=by
 have v:=h.c;have H:=h.t;have G:=h.p;have o:=h.r;have E:=h.g;have D:=h.a;have F:=h.ne;have J:=h.c.lt;have N:=h.t.lt;have L:=h.p.lt;have M:=h.r.lt;have K:=h.g.lt;have I:=h.a.lt;refine Kent Tryz.func31 17 ?_;refine ay<|av (au 0)<|aD<|Ws<|ay<|av (pt f)<|Lv aF (Fx.mP rfl rfl rfl (by kernel_rfl))<|aD<|aK<|Wk<|sN<|ay<|av (pt f)<|av (pt f)<|av (pf f 20)<|Lv (.map (some m.rb)) (aM v.aH 20)<|av (aC b) ?_
 rcases Fx.rW m.T.x m.T.n b with ⟨d,l,j⟩|jF
 ·refine Lv (.agg (aA 54 (rv .i64 (m.R d)))) (Fx.wm (z := .agg (aA 54 (rv .i64 (fun _=>0)))) rfl rfl rfl o Tryz.underlying109 Tryz.underlying23 (by kernel_rfl) l j rfl)<|av (au i)<|dJ (wI (m.R d) i _ hi) _ rfl ?_;intro O y;have s:=bE y (Below.refl w.heap.size w);refine av (au (fJ (m.R d) i))<|aD<|Wr<|aJ (au (fJ (m.R d) i)) ?_;have k:aZ m b=m.R d:=by unfold aZ AB; rw[d_ (show m.T.has b=true from jN l j),show m.idx b=d from mR h.t.inv.inj l j]
  exact⟨L_ (fun q=>Ending.returned (Value.int .i64 (fJ q i))) k.symm,s⟩
 refine Lv (.agg (aA 54 (rv .i64 (fun _=>0)))) (Fx.Ov (z := .agg (aA 54 (rv .i64 (fun _=>0)))) rfl rfl rfl o Tryz.underlying109 Tryz.underlying23 (by kernel_rfl) jF)<|av (au i)<|dJ (wI (fun _=>0) i _ hi) _ rfl ?_;intro P A;have u:=bE A (Below.refl w.heap.size w);refine av (au (fJ (fun _=>0) i))<|aD<|Wr<|aJ (au (fJ (fun _=>0) i)) ?_;have k:aZ m b=FU:=by unfold aZ; exact b_ (by rw[show m.T.has b=false from yN jF]; decide)
 exact⟨L_ (fun q=>Ending.returned (Value.int .i64 (fJ q i))) k.symm,u⟩
theorem aeb(m:dO)(d B:Nat)(w:World)(h:lN w B d m)(b:Int) :
 Calls Tryz.prog 30 #[(pt d),aC b] w fun e k => ∃ a c,e = .returned (.slice a (m.T.path b).length c)/\Xb k w.heap.size a c (m.T.path b)/\Below w.heap.size w k:=by
 have n:=h.c;have o:=h.t;have z:=h.p;have A:=h.r;have x:=h.g;have v:=h.a;have y:=h.ne;have D:=h.c.lt;have H:=h.t.lt;have F:=h.p.lt;have G:=h.r.lt;have E:=h.g.lt;have C:=h.a.lt;refine Kent Tryz.func30 13 ?_;refine ay<|av (.slice none 0 0)<|aD<|Ws<|ay<|av (pt d)<|Lv aF (Fx.mP rfl rfl rfl (by kernel_rfl))<|aD<|aK<|Wk<|sN<|ay<|av (pt d)<|av (pt d)<|av (pf d 18)<|Lv (pt m.tp) (aM n.aH 18)<|av (aC b)<|mh (I9 b o) ?_;rintro u I ⟨i,j,f,s,q⟩;refine⟨_,f,?_⟩;clear f;have l:=bE q (Below.refl w.heap.size w);refine av (.slice i ((dN.path m.T b).length) (j))<|aD<|Wr<|aJ (.slice i ((dN.path m.T b).length) (j)) ?_;exact⟨_,_,rfl,s,l⟩
theorem ahK(k:Nat)(hk:1<=k/\k<=6)(w:World) :
 Calls Tryz.prog 29 #[au (k:Int)] w fun e w' => ∃ W m,e = .returned (.tuple #[(pt W),au 0])/\(∃ tp mb pb rb gb ab,m=yG k tp mb pb rb gb ab)/\lN w' w.heap.size W m/\Below w.heap.size w w':=by
 refine Kent Tryz.func29 30 ?_;refine ay<|av (.pointer none)<|av (au 0)<|aD<|Ws<|ay<|av (au k)<|Lv aF GR<|av aF<|av (au k)<|Lv aF xU<|av aF<|aD<|aK<|Wk<|sN<|ay<|mh (aag _) ?_;rintro e9 w1 ⟨n,x,V,hg1,X,hb1⟩;refine⟨_,V,?_⟩;clear V;have J:=bE hb1 (Below.refl w.heap.size w);have m2:sj w1 (w.heap.size) n x dN.zero:=X.weak (Below.refl w.heap.size w).size;clear X hg1;refine Fx.L.Kh (by rfl) rfl rfl fun o w2 Q G s2 z1 => ?_;have⟨m4,K⟩:=fq s2.old m2 J;have sM:=iQ Q J.size;have aec:=cK Q m2.lt;have ug:=G.lt;refine Fx.L.Kh (by rfl) rfl rfl fun q w3 R H s3 z2 => ?_;have⟨m6,m7,M⟩:=iy s3.old m4 G K;have ru:=iQ R K.size;have⟨aed,OO⟩:=wh R m4.lt G.lt;have zK:=H.lt;refine Fx.L.Si (by rfl) rfl rfl fun s w4 S I s4 z3 => ?_;have⟨m9,Y,Z,N⟩:=kV s4.old m6 m7 H M;have C9:=iQ S M.size;have⟨aee,apG,VK⟩:=EK S m6.lt m7.lt H.lt;have JR:=I.lt;refine Fx.L.Si (by rfl) rfl rfl fun u w5 T E s5 z4 => ?_;have⟨m13,aa,ac,ad,O⟩:=qU s5.old m9 Y Z I N;have Rw:=iQ T N.size;have⟨aef,adZ,aea,VP⟩:=PY T m9.lt Y.lt Z.lt I.lt;have QF:=E.lt;refine av (.agg (aA 29 (bK (bK (bK (bK (bK (fun d=>if d<12 then .bool false else if d<18 then aC 0 else if d<19 then .pointer none else if d<21 then .map none else if d<27 then au 0 else .map none) 18 1 (fun _=>(pt n))) 19 1 (fun _ => .map (some o))) 20 1 (fun _ => .map (some q))) 27 1 (fun _ => .map (some s))) 28 1 (fun _ => .map (some u)))))<|Dy (m:=29) (y:=bK (bK (bK (bK (bK (fun d=>if d<12 then .bool false else if d<18 then aC 0 else if d<19 then .pointer none else if d<21 then .map none else if d<27 then au 0 else .map none) 18 1 (fun _=>(pt n))) 19 1 (fun _ => .map (some o))) 20 1 (fun _ => .map (some q))) 27 1 (fun _ => .map (some s))) 28 1 (fun _ => .map (some u))) (by rfl) rfl rfl (bI _ _) rfl fun b w6 U ae s6 z5 => ?_;have⟨m18,m19,m20,m21,m22,b6⟩:=rT s6.old m13 aa ac ad E O;have lg5:=iQ U O.size;have⟨apH,apI,apJ,apK⟩:=PY U aa.lt ac.lt ad.lt E.lt;have tg5:=ae.lt;have l:QlN (yG 0 n x o q s u):=⟨aec,aed,aee,aef,by assumption,by assumption,by assumption,by assumption,by assumption,by assumption⟩;have m23:aR w6 b 29 (vG (yG 0 n x o q s u)) 114:=ae.congr (fun j hj=>match j,hj with|0,_=>rfl|1,_=>rfl|2,_=>rfl|3,_=>rfl|4,_=>rfl|5,_=>rfl|6,_=>rfl|7,_=>rfl|8,_=>rfl|9,_=>rfl|10,_=>rfl|11,_=>rfl|12,_=>rfl|13,_=>rfl|14,_=>rfl|15,_=>rfl|16,_=>rfl|17,_=>rfl|18,_=>rfl|19,_=>rfl|20,_=>rfl|21,_=>rfl|22,_=>rfl|23,_=>rfl|24,_=>rfl|25,_=>rfl|26,_=>rfl|27,_=>rfl|28,_=>rfl|j+29,h=>M_ h (by omega))
 refine av (pt b)<|aD<|Ws<|ay<|av (au k)<|av (au 0)<|aD<|Wb<|Wo (fun f z => ∃ i:Nat,i<=k/\f 4=(pt b)/\f 19=au (k:Int)/\f 20=au (i:Int)/\sj z (w.heap.size) n x dN.zero/\Mp z o 0 (fun _=>0) (fun _ => .pointer none)/\Mp z q 0 (fun _=>0) (fun _ => .pointer none)/\iD z s 0 (fun _=>0) (fun _=>0) (fun _ => .pointer none)/\iD z u 0 (fun _=>0) (fun _=>0) (fun _ => .pointer none)/\aR z b 29 (vG (yG i n x o q s u)) 114/\Below w.heap.size w z) (fun f _=>((k:Int)-intOf (f 20)).toNat) ⟨0,(by omega),(by rfl),Fx.ic,Fx.ic,m18,m19,m20,m21,m22,m23,b6⟩ ?_;rintro f1 w7 ⟨i,v,C,D,A,m24,mQ,nH,oq,oL,F,B⟩;refine ay ?_;by_cases P:(i:Int)<(k:Int)
 ·refine Lv aG (iq P (hx:=A) (hy:=D))<|aD<|Ws<|aO<|Wk<|sN<|Ws<|Wb<|ay<|bf A<|av (au i)<|aD<|Wl<|bf C<|av (au i)<|av (pt b)<|av (pt b)<|Lv (pf b i) (jM 6 1)<|jg F i aG fun w8 oC s7 z6 => ?_;have mI:aR w8 b 29 (vG (yG (i+1) n x o q s u)) 114:=oC.to (VO i _ _ _ _ _ _ (by omega));have gV:=gP s7 F.ty;have⟨m32,qB,nV,qC,oN⟩:=qV gV m24 mQ nH oq oL;have b8:=s7.below B B.size (by omega);refine Ln<|bR<|sN<|Wl<|Lv (au ((i:Int)+1)) (fC (hx:=A))<|av (au ((i:Int)+1))<|Ln<|ig ⟨i+1,(by omega),C,(D.trans Fx.ic),Fx.ic,m32,qB,nV,qC,oN,mI,b8⟩ ?_;show((k:Int)-intOf (au ((i:Int)+1))).toNat<_;simp only[A,intOf]; omega
 refine Lv aF (iw P (hx:=A) (hy:=D))<|aD<|Ws<|aK<|Wx<|bZ<|gL<|cu<|sN<|ay<|bf C<|av (pt b)<|av (au 0)<|aD<|Wr<|aJ (.tuple #[(pt b),au 0]) ?_;have eik:i=k:=by omega
 subst eik;exact⟨b,yG i n x o q s u,rfl,⟨_,_,_,_,_,_,rfl⟩,{ c:=F,t:=m24,p:=mQ.uQ fun i v=>M_ v (z_ _),r:=nH.uQ fun i v=>M_ v (z_ _),g:=oq.uQ fun i v=>M_ v (z_ _),a:=oL.uQ fun i v=>M_ v (z_ _),ne:=⟨l.mp,l.mr,l.mg,l.ma,l.pr,l.pg,l.pa,l.rg,l.ra,l.ga⟩,lB:=lg5,pB:=sM,rB:=ru,gB:=C9,aB:=Rw },B⟩
end Go.Proofs.YtcbedgfikejkoaaGreatDoor
namespace Go.Proofs.YtcbedgfikejkoaaGreatDoor.Fx
open Go.RowKit Go.Shelf Go.Sort Go.Lib
def kM(a b:Int):Int:=if a<b then -1 else if b<a then 1 else 0
theorem Pq(a b:Int):kM a b<0<->a<b:=by
 unfold kM;split
 ·simp_all
 split <;> simp_all
theorem YT{c:Type}(ky:c->Int):SWO (ltOf fun x y=>kM (ky x) (ky y)):=by
 have e : ∀ x y,(ltOf fun x y=>kM (ky x) (ky y)) x y=decide (ky x<ky y):=fun x y=>by
  unfold ltOf;exact decide_eq_decide.2 (Pq _ _)
 refine⟨fun x => ?_,fun x y z a b => ?_,fun x y z a b => ?_⟩ <;> simp only[e,decide_eq_true_eq,decide_eq_false_iff_not]at * <;> omega
end Go.Proofs.YtcbedgfikejkoaaGreatDoor.Fx
namespace Go.Proofs.YtcbedgfikejkoaaGreatDoor.Fx
open Go.RowKit Go.Shelf Go.Sort Go.Lib
theorem Lx{w:World}{B g cap m N s:Nat}{E:TypeId}(a:Array Value)(os:Array Obj){x:Nat->Value}(h:Own w B E s (.slice (some ⟨g,0,none⟩) m cap) m x)(f:a.size=m*s) :
 Own (sortWorld id w g 0 N a os) B E s (.slice (some ⟨g,0,none⟩) m cap) m (fun q=>a[q]!)/\Stp g w (sortWorld id w g 0 N a os):=by
 rcases h.2 with ⟨b,_⟩|⟨g',cap',cur,b,hB,hg,hn,hm,hs,ht⟩
 ·cases b
 simp only[Value.slice.injEq,Option.some.injEq,Addr.mk.injEq]at b;obtain⟨⟨rfl,_⟩,_,rfl⟩:=b;have n:g<w.heap.size:=(t_.1 hg).1;have d:(sortWorld id w g 0 N a os).heap=(w.heap.modify g (onCells (putCells id 0 a)))++os:=rfl;have e : ∀ k,k<w.heap.size->(sortWorld id w g 0 N a os).heap[k]? = (w.heap.modify g (onCells (putCells id 0 a)))[k]? := fun k c=>by
  rw[d,Array.getElem?_append_left (by simpa using c)]
 have p:m*s<=cap*s:=Nat.mul_le_mul_right s hn;refine⟨⟨by simp,.inr ⟨g,cap,putCells id 0 a cur,rfl,hB,?_,hn,hm,?_,?_⟩⟩,⟨rfl,rfl,rfl,by rw[d]; simp,fun k c o => ?_⟩⟩
 ·rw[e g n,Array.getElem?_modify,d_ rfl,hg]; rfl
 ·simp[putCells,hs]
 ·apply List.ext_getElem?;intro i;by_cases j:i<m*s
  ·have l:i<cur.size:=(by omega);rw[List.getElem?_take_of_lt (by omega),Array.getElem?_toList];unfold putCells;rw[Array.getElem?_mapIdx,Array.getElem?_eq_getElem l];simp[j,f]
  rw[List.getElem?_eq_none (by simp; omega),List.getElem?_eq_none (by simp; omega)]
 rw[e k c,Array.getElem?_modify,b_ (Ne.symm o)]
theorem NK{w:World}{B g cap m s:Nat}{E:TypeId}(d:Array Value){x:Nat->Value}(h:Own w B E s (.slice (some ⟨g,0,none⟩) m cap) m x)(n:d.size=m*s)(hx : ∀ q,q<m*s->x q=d[q]!)(i:0<m) :
 Holds id w g 0 d/\g<w.heap.size:=by
 obtain⟨l,k,e,_,f,_,c⟩:=h.form i
 rcases h.2 with ⟨a,_⟩|⟨g2,cap2,cur,a,hB,hg,hn,hm,hs,ht⟩
 ·cases a
 simp only[Value.slice.injEq,Option.some.injEq,Addr.mk.injEq]at a e;obtain⟨⟨rfl,_⟩,_,rfl⟩:=a;obtain⟨⟨rfl,_⟩,_,rfl⟩:=e;refine⟨fun j o=>⟨?_,?_⟩,f⟩
 ·have b:=c j (by omega);rw[b,hx j (by omega)]; rfl
 simp[World.frozen?,hg]
theorem Il{a:Type} [Inhabited a]{s:Nat}{enc:a->Nat->Value}{e0:a}{l:List a}(f:0<s) : ∀ q,q<l.length*s->flat s (fun k=>enc (l.getD k e0)) q=(Go.Sort.flatK (fun x=>(List.range s).map (enc x)) s l.toArray)[q]! := fun q b=>by
 have d:q / s<l.length:=Nat.div_lt_of_lt_mul (by rw[Nat.mul_comm]; exact b);have e:q % s<s:=J_ _ f;rw[Go.Sort.get_flatK _ _ _ q (by simpa using b)];unfold flat;have c:l.toArray[q / s]! = l.getD (q / s) e0:=by simp[d]
 rw[c];simp[e]
theorem VQ{P:Program}{ρ:Ren}(I:SlLaysF0.n6 P ρ){p:Nat}(U : ∀ J w,(callFunc p J).run P w = .ok (.enter p J) w){w:World}{B cap s:Nat}{a:Option Addr}{E:TypeId}(L:0<s)
 (S : ∀ w,(isAgg (ρ.t 24)).run P w = .ok true w) (zE : ∀ w,(Go.sizeOf (ρ.t 24)).run P w = .ok s w) {o:Type} [Inhabited o] {enc:o->Nat->Value} {e0:o} (h1 : ∀ x j,j<s->(enc x j).oneCell'=true) {ky:o->Int} {l:List o}
 (h:Own w B E s (.slice a l.length cap) l.length (flat s fun q=>enc (l.getD q e0)))
 (Y : ∀ O x y,Calls P p #[.agg (aA s (enc x)),.agg (aA s (enc y))] O fun e c=>e = .returned (.int .i64 (kM (ky x) (ky y))) /\ ∃ q os',c=grow (O.drewN q) os') (hm:l.length<4611686018427387904) :
 Calls P (ρ.f 6) #[.slice a l.length cap,.func (.func p) #[] #[]] w fun e c=>e = .returned (.tuple #[]) /\ ∃ H:List o,H.Perm l/\H.Pairwise (fun x y=>ky x<=ky y)/\Own c B E s (.slice a l.length cap) l.length (flat s fun q=>enc (H.getD q e0))/\(∀ k,k<w.heap.size->(Value.slice a l.length cap).ownBlock≠some k->c.heap[k]? = w.heap[k]?)/\iP [E] w c/\Below B w c:=by
 by_cases V:l.length=0
 ·have F:l = []:=List.length_eq_zero_iff.1 V;subst F;refine(AnyF.slices_SortFunc_none I a cap _ w).mono ?_;rintro e c ⟨D,rfl⟩;exact⟨D,[],List.Perm.refl _,List.Pairwise.nil,h,fun _ _ _=>rfl,vM _,Below.refl _ _⟩
 obtain⟨g,c2,u,hB,hg,hmc,_⟩:=h.form (by omega);simp only[Value.slice.injEq]at u;obtain⟨rfl,_,rfl⟩:=u;have A : ∀ x,((fun x=>(List.range s).map (enc x)) x).length=s:=fun x=>by simp
 have hsz:(Go.Sort.flatK (fun x=>(List.range s).map (enc x)) s l.toArray).size=l.length*s:=by simp
 obtain⟨X,F⟩:=NK _ h hsz (Il L) (by omega);have hty:Ty w g E:=h.ty rfl;have C : ∀ x,((List.range s).map (enc x)).toArray=aA s (enc x):=fun x=>by
  apply Array.ext
  ·simp[bY]
  ·intro i h1 W;have m:i<s:=(by simpa using h1);have:=fK (enc x) m;rw[Array.getElem?_eq_getElem W]at this;rw[C_ this]; simp
 have K:=AnyQ.slices_SortFunc I s S zE (fun x=>(List.range s).map (enc x)) A (fun x v C=>by
  obtain⟨j,z,rfl⟩:=List.mem_map.1 C;exact h1 x j (O_.1 z)) (fun x y=>kM (ky x) (ky y)) (YT _) p #[] g 0 cap l.toArray w U
  (fun N r dk hdk x y=>by rw[C,C]; exact Y _ x y) X F (by simpa using hm)
 rw[show l.toArray.size=l.length by simp]at K;refine K.mono ?_;rintro e c ⟨D,b,N,r,⟨n,_,M⟩,hso,rfl⟩;have n:b.size=l.length:=by simpa using n
 have hw:sortWorldK (fun x=>(List.range s).map (enc x)) s w g 0 N b r=sortWorld id w g 0 N (Go.Sort.flatK (fun x=>(List.range s).map (enc x)) s b) r:=rfl;rw[hw];obtain⟨o1,d⟩:=Lx (N:=N) (Go.Sort.flatK (fun x=>(List.range s).map (enc x)) s b) r h (by simp[n]);have u:(b.extract 0 l.length).toList=b.toList:=by
  rw[<- n]; simp
 have T:(l.toArray.extract 0 l.length).toList=l:=by simp
 rw[u,T]at M;refine⟨D,b.toList,M,?_,?_,fun k A hne=>d.block k A (fun e=>hne (by rw[e]; rfl)),gP d hty,⟨d.os,d.tape,d.output,d.size,fun k A=>d.block k (by omega) (by omega)⟩⟩
 ·rw[List.pairwise_iff_getElem];intro i j Z z aa;have m:=hso i j (K_ _) aa (by rw[<- n]; simpa using z);unfold ltOf at m;rw[decide_eq_false_iff_not,Pq]at m;have Q:b[i]! = b.toList[i]:=by rw[getElem!_pos b i (by simpa using Z)]; simp
  have R:b[j]! = b.toList[j]:=by rw[getElem!_pos b j (by simpa using z)]; simp
  rw[Q,R]at m;exact Int.not_lt.1 m
 have:=fun q (G:q<l.length*s)=>Il (enc:=enc) (e0:=e0) (l:=b.toList) L q (by simpa [n] using G);have o3:Own (sortWorld id w g 0 N (Go.Sort.flatK (fun x=>(List.range s).map (enc x)) s b) r) B E s (.slice (some ⟨g,0,none⟩) l.length cap) l.length (flat s fun q=>enc (b.toList.getD q e0)):=o1.congr fun q G=>by
  have:=this q G;simp only[Array.toArray_toList]at this;exact this.symm
 exact o3
end Go.Proofs.YtcbedgfikejkoaaGreatDoor.Fx
namespace Go.Proofs.YtcbedgfikejkoaaGreatDoor
open Go.Shelf
def QZ:Go.Shelf.Ren:=⟨fun|6=>47|15=>87|14=>86|28=>137|29=>138|20=>129|21=>130|22=>131|23=>132|24=>133|25=>134|26=>135|27=>136|46=>164|47=>165|48=>166|49=>167|50=>168|57=>185|n=>n,fun|22=>48|24=>106|25=>122|3=>3|39=>161|0=>0|53=>181|55=>23|4=>4|46=>208|45=>207|50=>212|5=>5|9=>9|66=>237|70=>241|76=>251|77=>252|n=>n,fun|n=>n⟩
theorem ahL:Go.Proofs.SlLaysF0.n6 Tryz.prog QZ := {
 mixed:=by kernel_rfl
 f6:=⟨Tryz.f47.name,by decide,Tryz.func47.trans (L_ some (by kernel_rfl))⟩
 f14:=⟨Tryz.f86.name,by decide,Tryz.func86.trans (L_ some (by kernel_rfl))⟩
 f15:=Tryz.func87.trans (L_ some (by kernel_rfl))
 f20:=⟨Tryz.f129.name,by decide,Tryz.func129.trans (L_ some (by kernel_rfl))⟩
 f21:=⟨Tryz.f130.name,by decide,Tryz.func130.trans (L_ some (by kernel_rfl))⟩
 f22:=⟨Tryz.f131.name,by decide,Tryz.func131.trans (L_ some (by kernel_rfl))⟩
 f23:=⟨Tryz.f132.name,by decide,Tryz.func132.trans (L_ some (by kernel_rfl))⟩
 f24:=⟨Tryz.f133.name,by decide,Tryz.func133.trans (L_ some (by kernel_rfl))⟩
 f25:=⟨Tryz.f134.name,by decide,Tryz.func134.trans (L_ some (by kernel_rfl))⟩
 f26:=⟨Tryz.f135.name,by decide,Tryz.func135.trans (L_ some (by kernel_rfl))⟩
 f27:=⟨Tryz.f136.name,by decide,Tryz.func136.trans (L_ some (by kernel_rfl))⟩
 f28:=Tryz.func137.trans (L_ some (by kernel_rfl))
 f29:=Tryz.func138.trans (L_ some (by kernel_rfl))
 f46:=⟨Tryz.f164.name,by decide,Tryz.func164.trans (L_ some (by kernel_rfl))⟩
 f47:=Tryz.func165.trans (L_ some (by kernel_rfl))
 f48:=Tryz.func166.trans (L_ some (by kernel_rfl))
 f49:=⟨Tryz.f167.name,by decide,Tryz.func167.trans (L_ some (by kernel_rfl))⟩
 f50:=⟨Tryz.f168.name,by decide,Tryz.func168.trans (L_ some (by kernel_rfl))⟩
 f57:=⟨Tryz.f185.name,by decide,Tryz.func185.trans (L_ some (by kernel_rfl))⟩
 t0:=Tryz.underlying0
 a0:=Tryz.isAgg0
 z0:=Tryz.sizeOf0
 v0:=Tryz.zeroValue0
 t3:=Tryz.underlying3
 a3:=Tryz.isAgg3
 z3:=Tryz.sizeOf3
 v3:=Tryz.zeroValue3
 t4:=Tryz.underlying4
 a4:=Tryz.isAgg4
 z4:=Tryz.sizeOf4
 v4:=Tryz.zeroValue4
 t5:=Tryz.underlying5
 a5:=Tryz.isAgg5
 z5:=Tryz.sizeOf5
 v5:=Tryz.zeroValue5
 t9:=Tryz.underlying9
 a9:=Tryz.isAgg9
 z9:=Tryz.sizeOf9
 v9:=Tryz.zeroValue9
 t22:=Tryz.underlying48
 a22:=Tryz.isAgg48
 z22:=Tryz.sizeOf48
 v22:=Tryz.zeroValue48
 t25:=Tryz.underlying122
 a25:=Tryz.isAgg122
 z25:=Tryz.sizeOf122
 v25:=Tryz.zeroValue122
 t39:=Tryz.underlying161
 a39:=Tryz.isAgg161
 z39:=Tryz.sizeOf161
 v39:=Tryz.zeroValue161
 t45:=Tryz.underlying207
 a45:=Tryz.isAgg207
 z45:=Tryz.sizeOf207
 v45:=Tryz.zeroValue207
 t46:=Tryz.underlying208
 a46:=Tryz.isAgg208
 z46:=Tryz.sizeOf208
 v46:=Tryz.zeroValue208
 t50:=Tryz.underlying212
 a50:=Tryz.isAgg212
 z50:=Tryz.sizeOf212
 v50:=Tryz.zeroValue212
 t53:=Tryz.underlying181
 a53:=Tryz.isAgg181
 z53:=Tryz.sizeOf181
 v53:=Tryz.zeroValue181
 t55:=Tryz.underlying23
 a55:=Tryz.isAgg23
 z55:=Tryz.sizeOf23
 v55:=Tryz.zeroValue23
 t66:=Tryz.underlying237
 a66:=Tryz.isAgg237
 z66:=Tryz.sizeOf237
 v66:=Tryz.zeroValue237
 t70:=Tryz.underlying241
 a70:=Tryz.isAgg241
 z70:=Tryz.sizeOf241
 v70:=Tryz.zeroValue241
 t76:=Tryz.underlying251
 a76:=Tryz.isAgg251
 z76:=Tryz.sizeOf251
 v76:=Tryz.zeroValue251
 t77:=Tryz.underlying252
 a77:=Tryz.isAgg252
 z77:=Tryz.sizeOf252
 v77:=Tryz.zeroValue252 }
end Go.Proofs.YtcbedgfikejkoaaGreatDoor
namespace Go.Proofs.YtcbedgfikejkoaaGreatDoor
open Go.RowKit Go.Sort Rt
namespace Fx
def YU(w w':World):Prop := ∃ q a,w'=grow (w.drewN q) a
theorem YU.refl(w:World):YU w w:=⟨0,#[],by rw[grow_empty]; rfl⟩
theorem YU.alloc{w a b:World}(h:YU w a)(z : ∃ o,b=a.alloc o):YU w b:=by
 obtain⟨q,c,rfl⟩:=h;obtain⟨o,rfl⟩:=z;exact⟨q,c ++ #[o],by rw[alloc_eq_grow,grow_grow]⟩
theorem YU.drew{w a b:World}(h:YU w a)(z:b=a.drew):YU w b:=by
 obtain⟨q,c,rfl⟩:=h;subst z;exact⟨q+1,c,rfl⟩
section
variable {P:Program} {n:Nat} {Q:Post} {f:Nat->Value} {w:World} {ops:Array Oper} {rest:List Oper} {o:Oper}
theorem L.ahM{T:TypeId}{x:Operand}{v:Value}{m:Nat}{y:Nat->Value}(i:Region.wanted o (yf ops f)=true)(d:o.op = .box T x)(hx:ev f x=v)(b:v.cells=aA m y)(c:inn n o.dst=true)
 (h : ∀ g a,g=w.heap.size->aR a g m y T->Stp w.heap.size w a->(∃ o,a=w.alloc o)->L P n ops Q rest (put f o.dst (.pointer (some ⟨g,0,none⟩))) a):L P n ops Q (o::rest) f w:=by
 have e:(execOp (ev f) o).run P w = .ok (.value (.pointer (some ⟨w.heap.size,0,none⟩))) (w.alloc (.cells v.cells T)):=by
  unfold execOp;simp[d,hx,Instr.box,newVar,newRow]
 refine L.val i e c (h _ _ rfl ?_ (Stp.alloc _ _) ⟨_,rfl⟩);show(w.alloc _).heap[w.heap.size]? = _;rw[alloc_at,d_ rfl,b]
theorem L.YV{T E:TypeId}{len s:Nat}{l:List (Nat × Operand)}{vs:List (Nat × Value)}{zc y:Nat->Value}(I:Region.wanted o (yf ops f)=true)(B:o.op = .buildSlice T len l.toArray)(C:l.map (fun p=>(p.1,ev f p.2))=vs)(H:P.underlying T=some (.slice E))(k:(P.info? E).map (·.size)=some s)
 (q:Nat.ble (len*s) 16777216=true) (d:Nat.beq (len*s) 0=false) (J:((P.info? E).bind (·.zero)).map (·.cells)=some (aA s zc)) (u:Instr.fill (fun i=>some (i*s,s)) (aA (len*s) (fun j=>zc (j % s))) vs=some (aA (len*s) y)) (t:inn n o.dst=true)
 (h : ∀ g a,g=w.heap.size->aR a g (len*s) y E->Stp w.heap.size w a->(∃ o,a=w.alloc o)->L P n ops Q rest (put f o.dst (.slice (some ⟨g,0,none⟩) len len)) a):L P n ops Q (o::rest) f w:=by
 obtain⟨z,K,M⟩:=Option.map_eq_some_iff.1 J;obtain⟨i,c,N⟩:=Option.bind_eq_some_iff.1 K;have G:i.size=s:=by rw[c]at k; simpa using k
 have O : ¬ len*s>2^24:=by have:=Nat.le_of_ble_eq_true q; omega
 have b:len*s≠0:=fun e=>by rw[e]at d; exact M_ d (by decide)
 have F:0<s:=Nat.pos_of_ne_zero fun e=>b (by rw[e,Nat.mul_zero]);have r:(Array.range (len*s)).map (fun j=>z.cells[j % z.cells.size]!)=aA (len*s) (fun j=>zc (j % s)):=by
  refine uM (by simp) fun j x => ?_;have A:j % s<s:=J_ _ F;have v:=fK zc A;rw[M];simp[x,bY];rw[getElem!_def,v]
 have D:(execOp (ev f) o).run P w = .ok (.value (.slice (some ⟨w.heap.size,0,none⟩) len len)) (w.alloc (.cells (aA (len*s) y) E)):=by
  unfold execOp;simp only[B,List.map_toArray,C];unfold Instr.buildSlice;have m : ¬ 16777216<len*s:=by omega
  simp[underlying,sizeOf,typeInfo,zeroValue,H,c,G,N,m];simp[b,r,u,newRow]
 refine L.val I D t (h _ _ rfl ?_ (Stp.alloc _ _) ⟨_,rfl⟩);show(w.alloc _).heap[w.heap.size]? = _;rw[alloc_at,d_ rfl]
end
section
variable {P:Program} {n:Nat} {ops:List Oper} {Q:Post}
theorem W.aeg{f:Nat->Value}{w:World}{id:Nat}(l:List Nat)(cs:List Nat)(S:World->World->Prop)(j : ∀ w,S w w)(m : ∀ a b c,S a b->S b c->S a c)(fG:List (Nat × Nat × List Nat))(t:P.follows .mixedOrders=true)(u:lX n ops=true)(x:Region.noSelect ops.toArray=true)(e:zQ ops l=true)(v:vX ops cs fG l=true)
 (h : ∀ g,Below w.heap.size w g->g=w.drew->R P n ops cs S Q l f g):W P n (.region id ops.toArray true) Q f w:=fun a o=>by
 refine wp_region_any t ?_;unfold zQ at e;rw[S_,S_,S_,List.all_eq_true,List.all_eq_true]at e;obtain⟨⟨⟨y,z⟩,p3⟩,p4⟩:=e;have s:=B_ y;have A:l.Nodup:=h_ p3;have:=R.any (P:=P) (Q:=Q) (fG:=fG) u x j m ops.length l (Array.replicate ops.length false) a f w.drew s (by simp) (JO.start _ _ _) (fun i=>by
  have p : ∀ i,(Array.replicate ops.length false).getD i false=false:=fun i=>getD_replicate_false _ _;constructor
  ·intro d; exact⟨by simpa [Nat.blt_eq] using z i d,p i⟩
  ·intro d;obtain⟨k,q,r⟩:=List.any_eq_true.1 (p4 i (by simpa using d.1));rw[B_ r]; exact q) A (vY v) o (h w.drew (Below.refl _ _).drew rfl)
 simpa using this
end
end Fx
namespace Rt
structure JC where
 x:Nat->Int
 h:0<=x 1/\x 1<=18446744073709551615
def g0:JC:=⟨fun _=>0,by decide⟩
instance:Inhabited JC:=⟨g0⟩
def JY(x:Nat->Int):JC:=if h:0<=x 1/\x 1<=18446744073709551615 then⟨x,h⟩else g0
def LA(x:JC):Int:=x.x 0*18446744073709551616+x.x 1
theorem aax{x:Nat->Int}(h:0<=x 1/\x 1<=18446744073709551615):(JY x).x=x:=by unfold JY; rw[dif_pos h]
def Rz(a b:Int):Int:=if a=0 then b else a
def NM(a b:Int)(i:Nat):Int:=if i=0 then a else b
def orW(a b:Int):Nat->Value:=fun j => .int .i64 (NM a b j)
section
variable {a b:Int} {i:Nat}
theorem apL(d:i=0\/a=0)(c:NM a b i=0):i+1=0\/a=0:=by
 unfold NM at c
 rcases d with rfl|e
 ·exact .inr (by simpa using c)
 exact .inr e
theorem apM(d:i=0\/a=0)(c:NM a b i=0):i+1<2\/Rz a b=0:=by
 unfold NM at c;by_cases e:i=0
 ·exact .inl (by omega)
 rw[b_ e]at c
 rcases d with h|h
 ·exact M_ h e
 exact .inr (by unfold Rz; rw[d_ h]; exact c)
theorem apN(d:i=0\/a=0)(c : ¬ NM a b i=0):Rz a b=NM a b i:=by
 unfold NM at c ⊢;unfold Rz;by_cases e:i=0
 ·rw[d_ e]at c ⊢; rw[b_ c]
 rw[b_ e]
 rcases d with h|h
 ·exact M_ h e
 rw[d_ h]
theorem apO(h:i<2\/Rz a b=0)(c : ¬ (i:Int)<2):Rz a b=0:=by
 rcases h with h|h
 ·omega
 exact h
end
theorem aeh(x y:JC):Rz (Fx.kM (x.x 0) (y.x 0)) (Fx.kM (x.x 1) (y.x 1))=Fx.kM (LA x) (LA y):=by
 have a:=x.h;have b:=y.h;unfold Rz Fx.kM LA
 repeat' split
 all_goals first|rfl|omega
structure Q0(n:Nat)(S:Nat->Bool)(il:List Nat):Prop where
 nd:il.Nodup
 mem : ∀ i,i∈il<->(i<n/\S i=true)
theorem Q0.start(n:Nat):Q0 n (fun _=>false) []:=⟨List.nodup_nil,fun i=>⟨fun h=>(nomatch h),fun h=>(nomatch h.2)⟩⟩
theorem Q0.step{n i:Nat}{S:Nat->Bool}{c:List Nat}(h:Q0 n S c)(hi:i<n)(l:S i=false):Q0 n (Fx.aN S i true) (c ++ [i]):=by
 have k:i ∉ c:=fun g=>by have:=((h.mem i).1 g).2; rw[l]at this; cases this
 refine⟨List.nodup_append.2 ⟨h.nd,by simp,fun a f b d e => ?_⟩,fun j => ?_⟩
 ·rw[List.mem_singleton]at d; subst d; subst e; exact k f
 rw[List.mem_append,List.mem_singleton,h.mem];show _<->(j<n/\(if j=i then true else S j)=true);by_cases e:j=i
 ·subst e; rw[d_ rfl]; exact⟨fun _=>⟨hi,rfl⟩,fun _ => .inr rfl⟩
 rw[b_ e]; exact⟨fun h=>h.elim id fun h=>M_ h e,fun h => .inl h⟩
theorem Q0.len{n:Nat}{S:Nat->Bool}{c:List Nat}(h:Q0 n S c):c.length<=n :=
 Cx n c.length (fun q=>c.getD q 0) (fun q d=>by
  have:c.getD q 0∈c:=by rw[r_,o_ d]; exact Q_ d
  exact((h.mem _).1 this).1) fun a b f g e=>by
  have e:c.getD a 0=c.getD b 0:=e;rw[r_,r_,o_ f,o_ g]at e;exact(List.getElem_inj h.nd).1 e
structure GrS(m:dO)(l:List JC):Prop where
 mem : ∀ x,x∈l -> ∃ i,i<m.gn/\x.x=m.g i
 all : ∀ i,i<m.gn -> ∃ x,x∈l/\x.x=m.g i
 up:l.Pairwise fun x y=>LA x<LA y
theorem GrS.of{m:dO}{w:World}{b:Nat}{t:List Nat}{l:List JC}{S:Nat->Bool}(o:Fx.iD w b m.gn (fun i=>m.g i 0) (fun i=>m.g i 1) (uD m.g))(hi:Q0 m.gn S t)(z : ∀ i,i<m.gn->S i=true)(r:l.Perm (t.map fun i=>JY (m.g i)))(B:l.Pairwise fun x y=>LA x<=LA y):GrS m l:=by
 have k : ∀ i,i<m.gn->(JY (m.g i)).x=m.g i:=fun i hi=>aax (o.ok hi).b;have f : ∀ i,i∈t<->i<m.gn:=fun i=>by rw[hi.mem]; exact⟨fun h=>h.1,fun h=>⟨h,z i h⟩⟩
 have p : ∀ x,x∈l -> ∃ i,i<m.gn/\x=JY (m.g i):=fun x s=>by
  obtain⟨i,c,d⟩:=List.mem_map.1 (r.mem_iff.1 s);exact⟨i,(f i).1 c,d.symm⟩
 have A:l.Nodup:=by
  rw[r.nodup_iff,List.nodup_iff_pairwise_ne,List.pairwise_map];refine(List.nodup_iff_pairwise_ne.1 hi.nd).imp_of_mem fun {a b} ha hb q e=>q ?_;have c:=L_ JC.x e;rw[k a ((f a).1 ha),k b ((f b).1 hb)]at c;exact o.inj a b ((f a).1 ha) ((f b).1 hb) (by show m.g a 0=m.g b 0; rw[c]) (by show m.g a 1=m.g b 1; rw[c])
 refine⟨fun x s => ?_,fun i c => ?_,?_⟩
 ·obtain⟨i,c,d⟩:=p x s;exact⟨i,c,by rw[d,k i c]⟩
 ·exact⟨JY (m.g i),r.mem_iff.2 (List.mem_map.2 ⟨i,(f i).2 c,rfl⟩),k i c⟩
 refine(B.and (List.nodup_iff_pairwise_ne.1 A)).imp_of_mem fun {a b} ha hb h => ?_;obtain⟨i,c,u⟩:=p a ha;obtain⟨j,d,v⟩:=p b hb;have q:=h.2
 rcases Int.lt_or_eq_of_le h.1 with h3|h3
 ·exact h3
 exfalso;have C:=a.h;have D:=b.h;unfold LA at h3;refine q ?_;have n:a.x 0=b.x 0/\a.x 1=b.x 1:=by omega
 rw[u,v,k i c,k j d]at n;have:=o.inj i j c d n.1 n.2;rw[u,v,this]
def VR(m:dO)(l:List Int)(k:Nat):Nat->Value:=mG (l.getD k 0) (m.T.par (l.getD k 0)) (AB m (l.getD k 0))
def Xg(l:List JC)(k:Nat):Nat->Value:=jm (l.getD k g0).x
theorem LB{id par:Int}{R:Nat->Int}{z:Nat->Value} : ∀ j,j<56->Fx.bK (Fx.bK (Fx.bK z 0 1 (fun _ => .int .u64 id)) 1 1 (fun _ => .int .u64 par)) 2 54 (Fx.rv .i64 R) j=mG id par R j:=fun j a=>by
 unfold Fx.bK mG
 rcases(show j=0\/j=1\/2<=j by omega)with rfl|rfl|h
 ·rfl
 ·rfl
 ·rw[d_ (by omega),b_ (by omega),b_ (by omega)]; rfl
theorem YW{m:dO}{l:List Int}{n:Nat}{id par:Int}{R:Nat->Int}{z z2:Nat->Value}(b:l.getD n 0=id)(c:m.T.par id=par)(d:AB m id=R) : ∀ j,j<(n+1)*56->Fx.iF (Fx.flat 56 (VR m l)) (n*56) (Fx.bK z (0*56) 56 (Fx.bK (Fx.bK (Fx.bK z2 0 1 (fun _ => .int .u64 id)) 1 1 (fun _ => .int .u64 par)) 2 54 (Fx.rv .i64 R))) j=Fx.flat 56 (VR m l) j:=fun j a =>
 (Fx.xR j a).trans (Fx.bJ (fun k _ q f=>by
  unfold Fx.qR;by_cases e:k=n
  ·subst e; rw[d_ rfl,LB q f]; unfold VR; rw[b,c,d]
  ·rw[b_ e]) j a)
theorem YX{g:Nat->Nat->Int}{a:List Nat}{i:Nat}{z:Nat->Value} : ∀ j,j<(a.length+1)*5->Fx.iF (Fx.flat 5 fun k=>jm (g (a.getD k 0))) (a.length*5) (Fx.bK z (0*5) 5 (jm (g i))) j=Fx.flat 5 (fun k=>jm (g ((a ++ [i]).getD k 0))) j:=fun j b =>
 (Fx.xR j b).trans (Fx.bJ (fun k c q _=>by
  unfold Fx.qR;by_cases e:k=a.length
  ·subst e; rw[d_ rfl]; simp[r_]
  ·rw[b_ e]; show jm (g (a.getD k 0)) q=_; rw[r_,r_,List.getElem?_append_left (by omega)]) j b)
theorem YZ{m:dO}{a:List Nat}{S:Nat->Bool}{w:World}{b:Nat}(d:Fx.iD w b m.gn (fun i=>m.g i 0) (fun i=>m.g i 1) (uD m.g))(hi:Q0 m.gn S a) : ∀ j,j<(a.map fun i=>JY (m.g i)).length*5->Fx.flat 5 (fun k=>jm (m.g (a.getD k 0))) j=Fx.flat 5 (Xg (a.map fun i=>JY (m.g i))) j:=fun j f =>
 Fx.bJ (n:=(a.map fun i=>JY (m.g i)).length) (fun k c q _=>by
  rw[List.length_map]at c;unfold Xg;have h:a.getD k 0∈a:=by rw[r_,o_ c]; exact Q_ c
  have e:((a.map fun i=>JY (m.g i)).getD k g0)=JY (m.g (a.getD k 0)):=by
   rw[r_,r_,o_ (by rw[List.length_map]; exact c),o_ c,List.getElem_map]; rfl
  rw[e,aax (d.ok ((hi.mem _).1 h).1).b]) j f
theorem Q5(s:DR)(a:Option Addr)(n c:Nat):Fx.dD (nQ s) 18 (.slice a n c)=nQ { s with na:=a,nn:=n,nc:=c }:=by
 funext p
 unfold Fx.dD nQ;by_cases e:p=18
 ·subst e; rw[d_ rfl,b_ (by omega),b_ (by omega),b_ (by omega),d_ rfl]
 rw[b_ e]
 repeat' split
 all_goals first|rfl|omega
theorem NP(s:DR)(a:Option Addr)(n c:Nat) : ∀ p,p<20->Fx.dD (nQ s) 19 (.slice a n c) p=nQ { s with ga:=a,gn:=n,gc:=c } p:=fun p b=>by
 unfold Fx.dD nQ;by_cases e:p=19
 ·subst e; rw[d_ rfl,b_ (by omega),b_ (by omega),b_ (by omega),b_ (by omega)]
 ·rw[b_ e]
  repeat' split
  all_goals first|rfl|omega
def VT(m:dO)(d:Option Addr)(f e:Nat)(a:Option Addr)(c b:Nat):DR:=⟨m.inn,m.left,m.known,d,f,e,a,c,b⟩
theorem Y0{id par:Int}{R:Nat->Int}{z z2:Nat->Value} : ∀ j,j<1*56->(Fx.bK z (0*56) 56 (Fx.bK (Fx.bK (Fx.bK z2 0 1 (fun _ => .int .u64 id)) 1 1 (fun _ => .int .u64 par)) 2 54 (Fx.rv .i64 R)) j).oneCell'=true:=fun j a=>by
 rw[show Fx.bK z (0*56) 56 (Fx.bK (Fx.bK (Fx.bK z2 0 1 (fun _ => .int .u64 id)) 1 1 (fun _ => .int .u64 par)) 2 54 (Fx.rv .i64 R)) j=Fx.bK (Fx.bK (Fx.bK z2 0 1 (fun _ => .int .u64 id)) 1 1 (fun _ => .int .u64 par)) 2 54 (Fx.rv .i64 R) (j-0*56) by unfold Fx.bK; rw[d_ (by omega)],LB _ (by omega)];exact uZ _ _ _ _
theorem Y1{x:Nat->Int}{z:Nat->Value} : ∀ j,j<1*5->(Fx.bK z (0*5) 5 (jm x) j).oneCell'=true:=fun j a=>by
 unfold Fx.bK; rw[d_ (by omega)]; exact tX x _
theorem aei{m:dO}{c:List Nat}{S:Nat->Bool}{w f:World}{b B cap d:Nat}{a:Option Addr}{T:TypeId}(l:Fx.iD w b m.gn (fun i=>m.g i 0) (fun i=>m.g i 1) (uD m.g))(hi:Q0 m.gn S c)(e:d=c.length)(n:Fx.Own f B T 5 (.slice a d cap) d (Fx.flat 5 fun k=>jm (m.g (c.getD k 0)))) :
 Fx.Own f B T 5 (.slice a (c.map fun i=>JY (m.g i)).length cap) (c.map fun i=>JY (m.g i)).length (Fx.flat 5 (Xg (c.map fun i=>JY (m.g i)))):=by
 have h:=n.congr (y:=Fx.flat 5 (Xg (c.map fun i=>JY (m.g i)))) (fun j o=>YZ l hi j (by rw[List.length_map,<- e]; exact o));rw[List.length_map,<- e]; exact h
theorem VU(m:dO){z:Nat->Value}(e : ∀ j,18<=j->z j = .slice none 0 0){x1 x2:Nat->Value}(h1 : ∀ j,j<6->x1 j = .bool (m.inn j))(d : ∀ j,j<6->x2 j = .bool (m.left j)) : ∀ j,j<20->Fx.bK (Fx.bK (Fx.bK z 0 6 x1) 6 6 x2) 12 6 (Fx.rv .u64 m.known) j=nQ (VT m none 0 0 none 0 0) j:=fun j f=>by
 unfold Fx.bK nQ;by_cases a:j<6
 ·rw[b_ (by omega),b_ (by omega),d_ (by omega),d_ a]; exact h1 _ (by omega)
 ·by_cases b:j<12
  ·rw[b_ (by omega),d_ (by omega),b_ a,d_ b]; exact d _ (by omega)
  ·by_cases c:j<18
   ·rw[d_ (by omega),b_ a,b_ b,d_ c]; rfl
   ·rw[b_ (by omega),b_ (by omega),b_ (by omega),b_ a,b_ b,b_ c,e j (by omega)];split <;> rfl
end Rt
structure StQ(w:World)(B:Nat)(m:dO)(s:DR)(l:List Int)(gl:List JC):Prop where
 inn:s.inn=m.inn
 left:s.left=m.left
 known:s.known=m.known
 nn:s.nn=l.length
 gn:s.gn=gl.length
 ls:l.Pairwise (· < ·) /\ ∀ k,k∈l<->m.T.has k=true
 len:l.length<=32
 gs:GrS m gl
 glb:gl.length<=m.gn
 n:Fx.Own w B 84 56 (.slice s.na s.nn s.nc) s.nn (Fx.flat 56 (VR m l))
 g:Fx.Own w B 106 5 (.slice s.ga s.gn s.gc) s.gn (Fx.flat 5 (Xg gl))
end Go.Proofs.YtcbedgfikejkoaaGreatDoor
namespace Go.Proofs.YtcbedgfikejkoaaGreatDoor
open Go.RowKit Rt
open Fx (bC Lv sN Ln Ws Wl Rp Wr Wk rV sR Rs Rn Rd Wb Wx Wo DI Wt yK zk BI qx gP zl tZ vM wX zi zC rv aA aR bK aN aS flat Mp aW iD iN bG kM bI cells_one iP bP unseen bL bR bZ cu gL ig pO)
theorem Pt(n:Int)(w:World) :
 Calls Tryz.prog 88 #[au n] w fun e a=>e = .returned (.bool false)/\a=w:=by
 refine Kent Tryz.func88 6 ?_;refine ay<|av aF<|aD<|ay<|av (au n)<|av (au n)<|Lv aF (jQ rfl)<|av aF<|aD<|Wr<|aJ aF ?_;exact⟨rfl,rfl⟩
theorem Y2(a b:Int)(w:World) :
 Calls Tryz.prog 50 #[au a,au b] w fun e f=>e = .returned (au (kM a b))/\f=w:=by
 refine Kent Tryz.func50 20 ?_;refine ay<|av (au 0)<|aD<|ay<|av (au a)<|lU (Pt a _) _ rfl<|av aF<|aD<|ay<|av (au b)<|lU (Pt b _) _ rfl<|av aF<|aD<|Ws<|ay<|av aF<|aD<|aK<|Wk<|sN<|Ws<|ay<|av aF<|aD<|aK<|Wk<|sN<|Ws<|ay<|av (au a)<|av (au b) ?_;by_cases c:a<b
 ·refine Lv aG (iq c)<|aD<|aO<|ay<|av (au (-1))<|aD<|Wr<|sR<|aJ (au (-1)) ?_;exact⟨by unfold kM; simp[c],rfl⟩
 refine Lv aF (iw c)<|aD<|aK<|Wk<|sN<|Ws<|ay<|av (au a)<|av (au b) ?_;by_cases d:b<a
 ·refine Lv aG (ng d)<|aD<|aO<|ay<|av (au 1)<|aD<|Wr<|sR<|aJ (au 1) ?_;exact⟨by unfold kM; simp[c,d],rfl⟩
 refine Lv aF (ni d)<|aD<|aK<|Wk<|sN<|ay<|av (au 0)<|aD<|Wr<|aJ (au 0) ?_;exact⟨by unfold kM; simp[c,d],rfl⟩
theorem Pv(n:Int)(w:World) :
 Calls Tryz.prog 89 #[aC n] w fun e a=>e = .returned (.bool false)/\a=w:=by
 refine Kent Tryz.func89 6 ?_;refine ay<|av aF<|aD<|ay<|av (aC n)<|av (aC n)<|Lv aF (jQ rfl)<|av aF<|aD<|Wr<|aJ aF ?_;exact⟨rfl,rfl⟩
theorem Y3(a b:Int)(w:World) :
 Calls Tryz.prog 51 #[aC a,aC b] w fun e f=>e = .returned (au (kM a b))/\f=w:=by
 refine Kent Tryz.func51 20 ?_;refine ay<|av (au 0)<|aD<|ay<|av (aC a)<|lU (Pv a _) _ rfl<|av aF<|aD<|ay<|av (aC b)<|lU (Pv b _) _ rfl<|av aF<|aD<|Ws<|ay<|av aF<|aD<|aK<|Wk<|sN<|Ws<|ay<|av aF<|aD<|aK<|Wk<|sN<|Ws<|ay<|av (aC a)<|av (aC b) ?_;by_cases c:a<b
 ·refine Lv aG (iq c)<|aD<|aO<|ay<|av (au (-1))<|aD<|Wr<|sR<|aJ (au (-1)) ?_;exact⟨by unfold kM; simp[c],rfl⟩
 refine Lv aF (iw c)<|aD<|aK<|Wk<|sN<|Ws<|ay<|av (aC a)<|av (aC b) ?_;by_cases d:b<a
 ·refine Lv aG (ng d)<|aD<|aO<|ay<|av (au 1)<|aD<|Wr<|sR<|aJ (au 1) ?_;exact⟨by unfold kM; simp[c,d],rfl⟩
 refine Lv aF (ni d)<|aD<|aK<|Wk<|sN<|ay<|av (au 0)<|aD<|Wr<|aJ (au 0) ?_;exact⟨by unfold kM; simp[c,d],rfl⟩
theorem apP(a b:Int)(c:Nat)(w:World)(q:iN w c 0 2 (orW a b)) :
 Calls Tryz.prog 49 #[bO c 2 2] w fun e s=>e = .returned (au (Rz a b))/\s=w:=by
 refine Kent Tryz.func49 18 ?_;refine ay<|av (au 0)<|aD<|ay<|av (au 0)<|aD<|Ws<|ay<|av (bO c 2 2)<|av (au 2)<|av (au 0)<|aD<|Wb<|Wo (fun f p => ∃ i:Nat,i<=2/\(i=0\/a=0)/\(i<2\/Rz a b=0)/\p=w/\f 3=au 0/\f 6=bO c 2 2/\f 7=au 2/\f 8=au (i:Int)/\iN p c 0 2 (orW a b)) (fun f _=>(2-intOf (f 8)).toNat) ⟨0,(by omega),(.inl rfl),(.inl (by decide)),rfl,Fx.ic,(by rfl),Fx.ic,Fx.ic,q⟩ ?_;rintro t v ⟨i,u,m,r,l,j,n,k,g,o⟩;refine ay ?_;by_cases h:(i:Int)<2
 ·refine Lv aG (iq h (hx:=g) (hy:=k))<|aD<|Ws<|aO<|Wk<|sN<|Ws<|Wb<|ay<|Lv (pf c i) (dh 1 (hx:=n) (hi:=g))<|Lv (au (NM a b i)) (aM o i)<|av (au (NM a b i))<|aD<|ay<|av (au (NM a b i))<|bf j ?_;by_cases d:(NM a b i)=0
  ·refine Lv aF (jQ d)<|aD<|aK<|Wk<|bR<|sN<|Wl<|Lv (au ((i:Int)+1)) (fC (hx:=g))<|av (au ((i:Int)+1))<|Ln<|ig ⟨i+1,(by omega),(apL m d),(apM m d),l,(j.trans Fx.ic),n,(k.trans Fx.ic),Fx.ic,o⟩ ?_;show(2-intOf (au ((i:Int)+1))).toNat<_;simp only[g,intOf]; omega
  refine Lv aG (nk d)<|aD<|aO<|ay<|av (au (NM a b i))<|av (au (NM a b i))<|aD<|Wr<|bL<|sR<|pO<|bL<|sR<|aJ (au (NM a b i)) ?_;exact⟨by rw[apN m d],l⟩
 refine Lv aF (iw h (hx:=g) (hy:=k))<|aD<|Ws<|aK<|Wx<|bZ<|gL<|cu<|sN<|ay<|bf j<|av (au 0)<|aD<|Wr<|aJ (au 0) ?_;exact⟨by rw[apO r h],l⟩
theorem Rt.aej{w:World}{g:Nat}{a b:Int}{z:Nat->Value}{T:TypeId}(h:aR w g 2 (bK (bK z (0*1) 1 (fun _=>au a)) (1*1) 1 (fun _=>au b)) T):iN w g 0 2 (orW a b):=(h.congr (y:=orW a b) fun j c=>by
 rcases(show j=0\/j=1 by omega)with rfl|rfl <;> rfl).aH
theorem aek(x y:JC)(w:World) :
 Calls Tryz.prog 48 #[.agg (aA 5 (jm x.x)),.agg (aA 5 (jm y.x))] w fun e H=>e = .returned (au (kM (LA x) (LA y))) /\ ∃ q C,H=Go.Sort.grow (w.drewN q) C:=by
 refine Kent Tryz.func48 17 ?_;refine ay<|Fx.L.ahM (m:=5) (y:=jm x.x) (by rfl) rfl rfl (bI _ _) rfl fun k V t d D I => ?_;have f:=bE D.old (Below.refl w.heap.size w);have M:=gT t;have S:=d.lt;refine Fx.L.ahM (m:=5) (y:=jm y.x) (by rfl) rfl rfl (bI _ _) rfl fun l X g n E J => ?_;have⟨B,p⟩:=fq E.old d f;have N:=iQ g f.size;have P:=cK g d.lt;have T:=n.lt;refine av (au 0)<|aD<|Ws ?_;refine Fx.W.aeg [0,2,5,7,1,3,6,8,4,9,10,11,12] [0,4,0,4,2,0,1,0,1,2,2,3,0] Fx.Mk tZ Fx.Mk.trans (fG := [(4,1,[1]),(9,1,[4,1]),(10,1,[4,1]),(11,1,[10,4,1]),(4,3,[3]),(9,3,[4,3]),(10,3,[4,3]),(11,3,[10,4,3]),(11,6,[9,6]),(11,8,[9,8]),(9,4,[4]),(10,4,[4]),(11,4,[10,4]),(12,4,[4]),(10,9,[9]),(11,9,[9]),(12,9,[9]),(11,10,[10]),(12,10,[10]),(12,11,[11])]) (by kernel_rfl) (by kernel_rfl) (by kernel_rfl) (by kernel_rfl) (by kernel_rfl) fun Z z A => ?_;have⟨a,b,r⟩:=iy z B n p;refine aY (pt k)<|aY (pt l)<|aY (pf k 1)<|aY (pf l 1)<|Rs (au (x.x 0)) (aM a.aH 0) ?_;refine Rs (au (y.x 0)) (aM b.aH 0) ?_;refine Rd (v:=aC (x.x 1)) (by rfl) (by rfl) (tZ _) (fun G c=>bC (x:=jm x.x) rfl rfl (by kernel_rfl) (a.aH.below c (by have:=a.lt; omega)) (i:=1) (by omega) (by omega) rfl) ?_;refine Rd (v:=aC (y.x 1)) (by rfl) (by rfl) (tZ _) (fun G c=>bC (x:=jm y.x) rfl rfl (by kernel_rfl) (b.aH.below c (by have:=b.lt; omega)) (i:=1) (by omega) (by omega) rfl) ?_;refine xM (lU (Y2 (x.x 0) (y.x 0) _) _ rfl (Ln ⟨Below.refl _ _,?_⟩));refine xM (lU (Y3 (x.x 1) (y.x 1) _) _ rfl (Ln ⟨Below.refl _ _,?_⟩));refine xM<|Fx.L.YV (vs := [(0,au (kM (x.x 0) (y.x 0))),(1,au (kM (x.x 1) (y.x 1)))]) (s:=1) (zc:=rv .i64 (fun _=>0)) (y:=bK (bK (fun j=>(rv .i64 (fun _=>0)) (j % 1)) (0*1) 1 (fun _=>au (kM (x.x 0) (y.x 0)))) (1*1) 1 (fun _=>au (kM (x.x 1) (y.x 1)))) (by rfl) rfl rfl Tryz.underlying90 (by kernel_rfl) (by rfl) (by rfl) (by kernel_rfl) (by rw[bG (off:=0*1) (s:=1) (y:=fun _=>au (kM (x.x 0) (y.x 0))) rfl (cells_one (by rfl)) (by rfl)]; rw[bG (off:=1*1) (s:=1) (y:=fun _=>au (kM (x.x 1) (y.x 1))) rfl (cells_one (by rfl)) (by rfl)]; rfl) rfl fun u Y h o F K => ?_;have O:=iQ h r.size;have⟨Q,R⟩:=wh h a.lt b.lt;have U:=o.lt;refine Ln ⟨F.old,?_⟩;refine gQ<|lU (apP (kM (x.x 0) (y.x 0)) (kM (x.x 1) (y.x 1)) u _ (aej o)) _ rfl<|Ln<|aY (au (Rz (kM (x.x 0) (y.x 0)) (kM (x.x 1) (y.x 1))))<|bS<|Wr<|aJ (au (Rz (kM (x.x 0) (y.x 0)) (kM (x.x 1) (y.x 1)))) ?_;exact⟨by rw[<- aeh],(((((Fx.YU.refl w).alloc I).alloc J).drew A).alloc K)⟩
theorem ael{w:World}{B cap:Nat}{a:Option Addr}{l:List JC}(h:Fx.Own w B 106 5 (.slice a l.length cap) l.length (flat 5 (Xg l)))(i:l.length<=1000000) :
 Calls Tryz.prog 47 #[.slice a l.length cap,.func (.func 48) #[] #[]] w fun e b=>e = .returned (.tuple #[]) /\ ∃ c:List JC,c.Perm l/\c.Pairwise (fun x y=>LA x<=LA y)/\Fx.Own b B 106 5 (.slice a l.length cap) l.length (flat 5 (Xg c))/\(∀ k,k<w.heap.size->(Value.slice a l.length cap).ownBlock≠some k->b.heap[k]? = w.heap[k]?)/\iP [106] w b/\Below B w b:=by
 have f:Fx.Own w B 106 5 (.slice a l.length cap) l.length (flat 5 fun q=>(fun x:JC=>jm x.x) (l.getD q g0)):=h
 have:=Fx.VQ ahL (fun d w=>enters_of Tryz.func48 (by kernel_rfl) rfl d w) (by decide) Tryz.isAgg106 Tryz.sizeOf106 (enc:=fun x:JC=>jm x.x) (e0:=g0) (ky:=LA) (fun x j _=>tX x.x j) f
  (by intro g x y; refine(aek x y g).mono fun e b h => ?_; exact h) (by omega)
 exact this
theorem Y4{m:dO}{d:List Nat}{S:Nat->Bool}{p w:World}{b B cap c:Nat}{a:Option Addr}(n:iD p b m.gn (fun i=>m.g i 0) (fun i=>m.g i 1) (uD m.g))(hi:Q0 m.gn S d)(e:c=d.length)(o:Fx.Own w B 106 5 (.slice a c cap) c (flat 5 fun k=>jm (m.g (d.getD k 0))))(q:c<=1000000) :
 Calls Tryz.prog 47 #[.slice a c cap,.func (.func 48) #[] #[]] w fun e f=>e = .returned (.tuple #[]) /\ ∃ h:List JC,h.Perm (d.map fun i=>JY (m.g i))/\h.Pairwise (fun x y=>LA x<=LA y)/\Fx.Own f B 106 5 (.slice a c cap) c (flat 5 (Xg h))/\(∀ k,k<w.heap.size->(Value.slice a c cap).ownBlock≠some k->f.heap[k]? = w.heap[k]?)/\iP [106] w f/\Below B w f:=by
 have j:(d.map fun i=>JY (m.g i)).length=c:=by rw[List.length_map]; exact e.symm
 have l:=ael (aei n hi e o) (by rw[j]; omega);rw[j]at l;exact l
set_option maxHeartbeats 1000000 in
theorem Y5(m:dO)(u B:Nat)(w:World)(h:lN w B u m)(hgn:m.gn<=900000) :
 Calls Tryz.prog 18 #[(pt u)] w fun e w' => ∃ s l gl,e = .returned (.agg (aA 20 (nQ s)))/\StQ w' w.heap.size m s l gl/\Below w.heap.size w w':=by
 have hC:=h.c;have hT:=h.t;have hP:=h.p;have hR:=h.r;have hG:=h.g;have hA:=h.a;have hN:=h.ne;have lC:=h.c.lt;have lT:=h.t.lt;have lP:=h.p.lt;have lR:=h.r.lt;have lG:=h.g.lt;have lA:=h.a.lt;refine Kent Tryz.func18 72 ?_;refine ay<|BI (m:=20) (y:=fun d=>if d<12 then .bool false else if d<18 then aC 0 else .slice none 0 0) (by rfl) rfl (by kernel_rfl) rfl fun D w1 mo m1 s1 z1 => ?_;have⟨m2,m3,m4,m5,m6,m7,b1⟩:=jR s1.old hC hT hP hR hG hA (Below.refl w.heap.size w);have sM:=gT mo;have⟨nG,yD,xC,Bq,zL⟩:=zS mo hC.lt hP.lt hR.lt hG.lt hA.lt;have ug:=m1.lt;refine aD<|Ws<|ay<|av (pt u)<|Lv aF (Fx.mP rfl rfl rfl (by kernel_rfl))<|aD<|aK<|Wk<|sN<|Ws ?_;refine Wt 13 (by kernel_rfl) (by kernel_rfl) fun qA dP iE => ?_;have⟨m8,m9,m10,m11,m12,m13,m14,b2⟩:=ny dP m2 m3 m4 m5 m6 m7 m1 b1;refine EI (pt u)<|EI (pt u)<|EI (pt u)<|qx (.agg (aA 6 (fun j => .bool (m.inn j)))) (fD m8.aH 0 (fun j J=>by rw[G_]; exact Ct J))<|EI (pt u)<|EI (pt u)<|EI (pf u 6)<|qx (.agg (aA 6 (fun j => .bool (m.left j)))) (fD m8.aH 6 (fun j J=>Bn (p:=j) J (by omega)))<|EI (pt u)<|EI (pt u)<|EI (pf u 12)<|qx (.agg (aA 6 (rv .u64 m.known))) (fD m8.aH 12 (fun j J=>rG (p:=j) (by omega) (by omega)))<|EI (.agg (aA 20 (bK (bK (bK (fun d=>if d<12 then .bool false else if d<18 then aC 0 else .slice none 0 0) 0 6 (fun j => .bool (m.inn j))) 6 6 (fun j => .bool (m.left j))) 12 6 (rv .u64 m.known))))<|Fx.St.nil ?_;refine eP m14 0 (h1:=(bP (bP (bP (fun jq _=>by show((fun d=>if d<12 then .bool false else if d<18 then aC 0 else .slice none 0 0:Nat->Value) jq).oneCell'=true; simp only[]; repeat (first|rfl|split)) (fun _ _=>rfl)) (fun _ _=>rfl)) (fun _ _=>rfl))) fun V m15 s3 z2 => ?_
 have m16:aR V D 20 (bK (bK (bK (fun d=>if d<12 then .bool false else if d<18 then aC 0 else .slice none 0 0) 0 6 (fun j => .bool (m.inn j))) 6 6 (fun j => .bool (m.left j))) 12 6 (rv .u64 m.known)) 50:=aS m15;have m17:aR V D 20 (nQ (VT m none 0 0 none 0 0)) 50:=m16.congr (VU m (fun j J=>by show(if j<12 then _ else if j<18 then _ else _)=_; rw[b_ (by omega),b_ (by omega)]) (fun _ _=>rfl) (fun _ _=>rfl));have gV:=gP s3 m14.ty;have⟨m18,m19,m20,m21,m22,m23⟩:=R7 gV m8 m9 m10 m11 m12 m13;have b3:=s3.below b2 b2.size (by omega);refine aD<|Ws<|ay<|av (pt u)<|av (pt u)<|av (pf u 18)<|Lv (pt m.tp) (aM m18.aH 18)<|mh (TI m19) ?_;rintro e9 w3 ⟨la1,N,b,he,m24,hq1,ahz,hb1⟩;refine⟨_,he,?_⟩;clear he;have⟨mQ,nH,oq,oL,oM,oC,mI,b4⟩:=ny hb1 m18 m19 m20 m21 m22 m23 m17 b3;refine av (au b.length)<|av (au 0)<|aD<|Wb ?_;have m32:Fx.Own w3 w.heap.size 84 56 (.slice none 0 0) 0 (flat 56 (VR m b)):=wX _ _ _ _ _;have kll:=ahz;refine Wo (fun f A => ∃ i:Nat,∃ E:Option Addr,∃ F:Nat,i<=b.length/\f 0=(pt u)/\f 2=(pt D)/\f 27 = .slice la1 (b.length) (N)/\f 28=au (b.length:Int)/\f 29=au (i:Int)/\aR A u 29 (vG m) 114/\sj A B m.tp m.mb m.T/\Mp A m.pb m.T.n m.T.x (DV m.T)/\Mp A m.rb m.T.n m.T.x (wS m.R)/\iD A m.gb m.gn (fun i=>m.g i 0) (fun i=>m.g i 1) (uD m.g)/\iD A m.ab m.an m.ao m.ar DW/\Fx.Own A V.heap.size 23 1 (.slice la1 (b.length) (N)) b.length (xO b)/\aR A D 20 (nQ (VT m E i F none 0 0)) 50/\Fx.Own A w.heap.size 84 56 (.slice E (i) (F)) i (flat 56 (VR m b))/\Below w.heap.size w A) (fun f _=>((b.length:Int)-intOf (f 29)).toNat) ⟨0,none,0,(by omega),(by rfl),(by rfl),(by rfl),Fx.ic,Fx.ic,mQ,nH,oq,oL,oM,oC,m24,mI,m32,b4⟩ ?_;rintro f1 w4 ⟨i,E,F,hi,P,h2,h3,h4,Q,qB,nV,qC,oN,sP,qX,qY,uI,nI,b5⟩;refine ay ?_;by_cases c30:(i:Int)<(b.length:Int)
 ·refine Lv aG (iq c30 (hx:=Q) (hy:=h4))<|aD<|Ws<|aO<|Wk<|sN<|Ws<|Wb<|ay ?_;obtain⟨Gm,eq1⟩:=qY.addr (by omega);have nJ:Fx.Own w4 V.heap.size 23 1 (bO Gm b.length N) b.length (xO b):=qY.fH (L_ (fun q=>Value.slice q b.length N) eq1);refine Lv (pf Gm i) (dh 1 (hx:=(h3.trans (L_ (fun q=>Value.slice q (b.length) (N)) eq1))) (hi:=Q))<|Lv (aC (b.getD i 0)) (aM nJ.aH i)<|av (aC (b.getD i 0))<|aD ?_;obtain⟨I,hjz,aa⟩:=gU ((hq1.2 _).1 (uS (show i<b.length by omega) rfl));have ejx:AB m (b.getD i 0)=m.R I:=by unfold AB dO.idx; rw[mR h.t.inv.inj hjz aa]
  have ejp:m.T.par (b.getD i 0)=m.T.p I:=AQ h.t.inv.inj hjz aa;refine zC [0,2,3,4,5,7,9,10,11,13,1,6,8,12,14,15,16,17,18,19] [0,1,0,0,0,0,4,0,4,0,0,0,4,0,4,0,2,2,0,3] (iP [84]) vM Fx.iP.trans (fG := [(19,1,[1]),(16,6,[15,8,6]),(17,6,[16,15,8,6]),(19,6,[6]),(16,8,[15,8]),(17,8,[16,15,8]),(19,8,[8]),(16,12,[15,14,12]),(17,12,[16,15,14,12]),(19,12,[12]),(16,14,[15,14]),(17,14,[16,15,14]),(19,14,[14]),(17,16,[16]),(18,16,[16]),(19,16,[16]),(18,17,[17]),(19,17,[17])]) (by kernel_rfl) (by kernel_rfl) (by kernel_rfl) (by kernel_rfl) (by kernel_rfl) fun Da gG nU => ?_;have⟨nK,rY,qK,oO,sQ,xE,uh,tL,xq,b6⟩:=uP gG qB nV qC oN sP qX uI nI nJ b5;refine Rp (pf D 18) (fun _=>jD h2 18)<|aY (aC (b.getD i 0))<|bW P<|aY (pt u)<|aY (pf u 19)<|aY (aC (b.getD i 0))<|bW P<|aY (pt u)<|aY (pf u 20)<|aY (aC (b.getD i 0))<|Rd (v := .slice E (i) (F)) (by rfl) (by rfl) (vM _) (fun v1 hv1=>bC (x:=nQ (VT m E i F none 0 0)) rfl rfl (by kernel_rfl) (uh.kN hv1 (by decide)).aH (i:=18) (by omega) (by omega) rfl) ?_;refine Rs (.map (some m.pb)) (aM nK.aH 19) ?_;refine Rs (aC (m.T.p I)) (Fx.wm (z:=aC 0) rfl rfl rfl qK Tryz.underlying108 Tryz.underlying23 (by rfl) hjz aa rfl) ?_;refine Rs (.map (some m.rb)) (aM nK.aH 20) ?_;refine Rs (.agg (aA 54 (rv .i64 (m.R I)))) (Fx.wm (z := .agg (aA 54 (rv .i64 (fun _=>0)))) rfl rfl rfl oO Tryz.underlying109 Tryz.underlying23 (by kernel_rfl) hjz aa rfl) ?_;refine aY (.agg (aA 56 (bK (bK (bK (fun d=>if d<2 then aC 0 else au 0) 0 1 (fun _=>aC (b.getD i 0))) 1 1 (fun _=>aC (m.T.p I))) 2 54 (rv .i64 (m.R I)))))<|xM<|yK (vs := [(0,.agg (aA 56 (bK (bK (bK (fun d=>if d<2 then aC 0 else au 0) 0 1 (fun _=>aC (b.getD i 0))) 1 1 (fun _=>aC (m.T.p I))) 2 54 (rv .i64 (m.R I)))))]) (s:=56) (zc:=fun d=>if d<2 then aC 0 else au 0) (y:=bK (fun j=>(fun d=>if d<2 then aC 0 else au 0) (j % 56)) (0*56) 56 (bK (bK (bK (fun d=>if d<2 then aC 0 else au 0) 0 1 (fun _=>aC (b.getD i 0))) 1 1 (fun _=>aC (m.T.p I))) 2 54 (rv .i64 (m.R I)))) (by rfl) rfl rfl Tryz.underlying47 (by kernel_rfl) (by rfl) (by rfl) (by kernel_rfl) (by rw[bG (off:=0*56) (s:=56) (y:=bK (bK (bK (fun d=>if d<2 then aC 0 else au 0) 0 1 (fun _=>aC (b.getD i 0))) 1 1 (fun _=>aC (m.T.p I))) 2 54 (rv .i64 (m.R I))) rfl (bI _ _) (by rfl)]; rfl) rfl fun g2 w5 Y wC s6 z3 => ?_;have⟨uJ,wD,xY,uK,sU,tN,xZ,qZ,vN,b7⟩:=uP s6.old nK rY qK oO sQ xE uh tL xq b6;have ru:=iQ Y b6.size;have⟨apQ,acQ,acR,apR,apS,acS⟩:=IZ Y nK.lt qK.lt oO.lt sQ.lt xE.lt uh.lt;have apT:(.slice E (i) (F):Value).ownBlock≠some g2:=by rw[Y]; exact tL.ko (A_ _)
  have apU:=cK Y xq.lt;have zK:=wC.lt;refine Ln ⟨Fx.iP.of_below s6.old,?_⟩;refine xM<|zk (B:=w.heap.size) (s:=56) (bytes:=448) (k:=i) (m:=1) (v := .slice E (i) (F)) (x:=flat 56 (VR m b)) (by rfl) rfl rfl rfl Tryz.underlying47 (by kernel_rfl) (by kernel_rfl) rfl rfl qZ wC.aH Y0 (by omega) (by omega) (by omega) b7.size fun g3 W w6 ho1 hg1 wB hlt1 => ?_;have ku:=zl hg1 qZ;have⟨uj,m64,xG,xu,vO,xH,sV,vP⟩:=abh ku uJ wD xY uK sU tN xZ vN;have oD:Fx.Own w6 w.heap.size 84 56 (bO g3 (i+1) W) (i+1) (flat 56 (VR m b)):=(ho1.congr (fun j J=>YW rfl ejp ejx j J));have b8:Below w.heap.size w w6:=zi b7 hg1 b7.size (fun q hq=>(qZ.ge hq).1);refine Ln ⟨ku,?_⟩;refine Rp (pf D 18) (fun _=>jD h2 18)<|gQ<|jg sV 18 (bO g3 (i+1) W) fun w7 uT s7 z4 => ?_;have vQ:aR w7 D 20 (nQ (VT m (some ⟨g3,0,none⟩) (i+1) W none 0 0)) 50:=uT.to (Q5 _ _ _ _);have rX:=gP s7 sV.ty;have⟨vR,zJ,xw,zq,zu,yP,xA,wE⟩:=abh rX uj m64 xG xu vO xH vP oD;have b9:=s7.below b8 b8.size (by omega);refine Ln<|Rn<|bR<|sN<|Wl<|Lv (au ((i:Int)+1)) (fC (hx:=Q))<|av (au ((i:Int)+1))<|Ln ?_;have wF:Fx.Own w7 V.heap.size 23 1 (.slice la1 (b.length) (N)) b.length (xO b):=xA.fH (L_ (fun q=>Value.slice q b.length N) eq1.symm)
  skip
  refine ig ⟨i+1,(some ⟨g3,0,none⟩),W,(by omega),P,h2,h3,(h4.trans Fx.ic),Fx.ic,vR,zJ,xw,zq,zu,yP,wF,vQ,wE,b9⟩ ?_;show((b.length:Int)-intOf (au ((i:Int)+1))).toNat<_;simp only[Q,intOf]; omega
 refine Lv aF (iw c30 (hx:=Q) (hy:=h4))<|aD<|Ws<|aK<|Wx<|bZ<|gL<|cu<|sN<|Ws<|ay<|bf P<|av (pt u)<|av (pf u 27)<|Lv (.map (some m.gb)) (aM qB.aH 27)<|Fx.L.abm (by rfl) rfl rfl rfl sP Tryz.underlying111 fun g4 w8 MS yc s8 z5 => ?_;have⟨Az,A8,ET,b10⟩:=kV s8.old sP uI nI b5;have Rw:=iQ MS b5.size;have QF:=yc.lt;refine aD<|Wb ?_;have DT:Fx.Own w8 w.heap.size 106 5 (.slice none 0 0) 0 (flat 5 (fun k=>jm (m.g (([]:List Nat).getD k 0)))):=wX _ _ _ _ _;refine DI (fun kE f A => ∃ S:Nat->Bool,∃ kk:Nat,∃ K:List Nat,∃ o:Nat,∃ G:Option Addr,∃ H:Nat,kk=unseen S m.gn/\kk=kE/\Q0 m.gn S K/\o=K.length/\f 2=(pt D)/\f 57=(pt g4)/\iD A m.gb m.gn (fun i=>m.g i 0) (fun i=>m.g i 1) (uD m.g)/\Fx.Own A w.heap.size 84 56 (.slice E (i) (F)) i (flat 56 (VR m b))/\aR A D 20 (nQ (VT m E i F G o H)) 50/\Fx.Own A w.heap.size 106 5 (.slice G (o) (H)) o (flat 5 (fun k=>jm (m.g (K.getD k 0))))/\Fx.It A g4 m.gb m.gn S/\Below w.heap.size w A) (unseen (fun _=>false) m.gn) ⟨(fun _=>false),(unseen (fun _=>false) m.gn),[],0,none,0,rfl,rfl,(Q0.start _),rfl,h2,(by rfl),Az,ET,A8,DT,yc,b10⟩ ?_;rintro kE f2 w9 ⟨S,kk,K,o,G,H,hkk,hkE,U,hgl,M,h7,Ce,Dc,Ae,Gj,Ef,b11⟩;refine ay<|Fx.L.afF (by rfl) rfl rfl h7 Ce Ef (fun rZ => ?_)<|fun C sO hi1 hS1 Gl mc1 s9 z6 => ?_
 ·skip
  refine av aF<|aD<|Ws<|aK<|Wx<|bZ<|gL<|cu<|sN<|Ws ?_;have eL:(K.map fun i=>JY (m.g i)).length=o:=by rw[List.length_map]; exact hgl.symm
  have apV:=U.len;refine Wl<|Lv (pf D 19) (jD M 19)<|Lv (.slice G (o) (H)) (aM Ae.aH 19)<|dJ (Y4 h.g U hgl Gj (by omega)) _ rfl ?_;rintro Gi ⟨gl,hpm,hup,Gu,_,zV,hb2⟩;have b12:=b11.trans hb2;have⟨wN,yj⟩:=BM zV Dc Ae;have asR:=yj.lt;refine aD<|ay<|Lv (.agg (aA 20 (nQ (VT m E i F G o H)))) (fD yj.aH 0 (ha:=M))<|eP yj 0 (ha:=M) (h1:=(fun j _=>XY _ j)) fun BR wO s10 z7 => ?_;have uo:aR BR D 20 (nQ (VT m E i F G o H)) 50:=aS wO;have zn:=gP s10 yj.ty;have⟨oV,qE⟩:=BM zn wN Gu;have b13:=s10.below b12 b12.size (by omega);refine aD (Wr (⟨.agg (aA 20 (nQ (VT m E i F G o H))),rV Tryz.results18 ⟨_,M,aW uo.aH (by kernel_rfl) (by kernel_rfl)⟩,?_⟩));have eil:i=b.length:=by omega
  have egl:o=gl.length:=by rw[hpm.length_eq,eL]
  exact⟨VT m E i F G o H,b,gl,rfl,{ inn:=rfl,left:=rfl,known:=rfl,nn:=eil,gn:=egl,ls:=hq1,len:=kll,gs:=GrS.of h.g U rZ hpm hup,glb:=by omega,n:=oV,g:=qE },b13⟩
 skip
 have hcm1:=Ef.BN s9;have pY:=Ce.dX hcm1 (Ef.rb.symm);have rz:=Dc.dX hcm1;have sH:=Ae.dX hcm1;have vg:=Gj.dX hcm1;have b14:=s9.below b11 b11.size (by omega);refine av aG<|aD<|Ws<|aO<|Wk<|sN<|Wb<|ay<|Lv (.tuple #[Fx.kS (m.g C 0) (m.g C 1),.agg (aA 5 (jm (m.g C)))]) (Fx.Sj (k1:=fun i=>m.g i 0) (k2:=fun i=>m.g i 1) (val:=uD m.g) (i:=C) rfl h7 pY mc1 hi1)<|av (.agg (aA 5 (jm (m.g C))))<|rR 5 (fun d=>if d<1 then au 0 else if d<3 then aC 0 else if d<4 then au 0 else aC 0) fun g5 Gt eg5 rA s11 z8 => ?_;have⟨uq,zw,vk,zx,xI,b15⟩:=rT s11.old pY rz sH vg Gl b14;have lg5:=iQ eg5 b14.size;have⟨ajY,ajZ⟩:=wh eg5 pY.lt sH.lt;have Pw:(.slice G (o) (H):Value).ownBlock≠some g5:=by rw[eg5]; exact vg.ko (A_ _)
 have tg5:=rA.lt;refine eP rA 0 (h1:=(fun j _=>tX _ j)) fun Mi uw s12 z9 => ?_;have qF:aR Mi g5 5 (jm (m.g C)) 106:=aS uw;have zo:=gP s12 rA.ty;have⟨yt,yu,uy⟩:=DF zo uq zw vk;have Ch:=zx.cO s12 Pw;have E8:=kQ zo xI;have b16:=s12.below b15 b15.size (by omega);refine aD ?_;have apV:=U.len;have hgn1:o<=m.gn:=by omega
 refine Wl<|Lv (pf D 19) (jD M 19)<|Lv (.slice G (o) (H)) (aM uy.aH 19)<|Lv (.agg (aA 5 (jm (m.g C)))) (fD qF.aH 0)<|yK (vs := [(0,.agg (aA 5 (jm (m.g C))))]) (s:=5) (zc:=fun d=>if d<1 then au 0 else if d<3 then aC 0 else if d<4 then au 0 else aC 0) (y:=bK (fun j=>(fun d=>if d<1 then au 0 else if d<3 then aC 0 else if d<4 then au 0 else aC 0) (j % 5)) (0*5) 5 (jm (m.g C))) (by rfl) rfl rfl Tryz.underlying48 (by kernel_rfl) (by rfl) (by rfl) (by kernel_rfl) (by rw[bG (off:=0*5) (s:=5) (y:=jm (m.g C)) rfl (bI _ _) (by rfl)]; rfl) rfl fun g6 Mj Z Bc s13 z10 => ?_;have⟨E9,Gv,Ci,Af,Jo,KT,b17⟩:=jR s13.old yt yu uy Ch E8 qF b16;have lg6:=iQ Z b16.size;have⟨akb,akc⟩:=wh Z yt.lt uy.lt;have akd:(.slice G (o) (H):Value).ownBlock≠some g6:=by rw[Z]; exact Ch.ko (A_ _)
 have ake:=cK Z qF.lt;have tg6:=Bc.lt;refine zk (B:=w.heap.size) (s:=5) (bytes:=40) (k:=o) (m:=1) (v := .slice G (o) (H)) (x:=flat 5 (fun k=>jm (m.g (K.getD k 0)))) (by rfl) rfl rfl rfl Tryz.underlying48 (by kernel_rfl) (by kernel_rfl) rfl rfl Af Bc.aH Y1 (by omega) (by omega) (by omega) b17.size fun O X w16 ho2 hg2 M9 hlt2 => ?_;have Bb:=zl hg2 Af;have⟨Fb,Gw,Gx,Cj⟩:=Kg Bb E9 Gv Ci Jo;have akf:g5≠O:=fun e=>M9.elim (fun e2=>Pw (by rw[e]; exact e2)) (fun e2=>by have:=KT.lt; omega);have Fa:Fx.Own w16 w.heap.size 106 5 (bO O (o+1) X) (o+1) (flat 5 (fun k=>jm (m.g ((K ++ [C]).getD k 0)))):=(ho2.congr (fun j J=>by rw[hgl]at J ⊢; exact YX j J));have b18:Below w.heap.size w w16:=zi b17 hg2 b17.size (fun q hq=>(Af.ge hq).1);refine Lv (pf D 19) (jD M 19)<|jg Gx 19 (bO O (o+1) X) fun WZ Ck BG z11 => ?_;have Fw:aR WZ D 20 (nQ (VT m E i F (some ⟨O,0,none⟩) (o+1) X)) 50:=Ck.congr (NP _ _ _ _);have EZ:=gP BG Gx.ty;have⟨Fg,Ag,Cm,Ji⟩:=Kg EZ Fb Gw Cj Fa;have b19:=BG.below b18 b18.size (by omega);refine Ln<|bR ?_
 skip
 refine ig ⟨unseen (aN S C true) m.gn,(by have P:=Fx.oK hS1 m.gn hi1; omega),(aN S C true),(unseen (aN S C true) m.gn),(K ++ [C]),o+1,(some ⟨O,0,none⟩),X,rfl,rfl,(U.step hi1 hS1),(by rw[E_,<- hgl]; rfl),M,h7,Fg,Ag,Fw,Ji,Cm,b19⟩ (by decide)
end Go.Proofs.YtcbedgfikejkoaaGreatDoor
namespace Go.Proofs.YtcbedgfikejkoaaGreatDoor
open Go.RowKit Go
namespace Rt
section
variable {f:(Nat->Int)->(Nat->Int) × Int} {idx:Nat->Nat} {R:Nat->Nat->Int} {r r':Nat->Nat->Int} {n K k:Nat}
theorem Dr : ∀ {n:Nat},(∀ i,i<n->r i=r' i)->gK f r n=gK f r' n
 | 0,_=>rfl
 | n+1,h=>by unfold gK; rw[Dr (n:=n) fun i a=>h i (by omega),h n (by omega)]
theorem FV : ∀ {K:Nat},(∀ i j,i<K->j<K->idx i=idx j->i=j)->(cZ f idx R K).2=gK f (fun i=>R (idx i)) K/\((cZ f idx R K).2=0 -> ∀ k,(cZ f idx R K).1 k=R k/\(∀ i,i<K->idx i≠k)\/(cZ f idx R K).1 k=(f (R k)).1 /\ ∃ i,i<K/\idx i=k)
 | 0,_=>⟨rfl,fun _ k => .inl ⟨rfl,fun _ h=>M_ h (z_ _)⟩⟩
 | K+1,hi=>by
   obtain⟨q,r⟩:=FV (K:=K) fun i j a b=>hi i j (by omega) (by omega);unfold gK;rw[<- q];by_cases c:(cZ f idx R K).2=0
   ·have n:=r c;have p:(cZ f idx R K).1 (idx K)=R (idx K):=by
     rcases n (idx K)with h|⟨_,i,d,g⟩
     ·exact h.1
     ·have:=hi i K (by omega) (by omega) g; omega
    rw[d_ c];have e:cZ f idx R (K+1)=(if(f ((cZ f idx R K).1 (idx K))).2=0 then(aI (cZ f idx R K).1 (idx K) (f ((cZ f idx R K).1 (idx K))).1,0)else((cZ f idx R K).1,(f ((cZ f idx R K).1 (idx K))).2)):=(by show(if _ then _ else _)=_; rw[d_ c]);rw[e,p];by_cases l:(f (R (idx K))).2=0
    ·rw[d_ l];refine⟨l.symm,fun _ k => ?_⟩;show aI (cZ f idx R K).1 (idx K) _ k=R k/\_\/aI (cZ f idx R K).1 (idx K) _ k=(f (R k)).1/\_;unfold aI;by_cases e:k=idx K
     ·subst e; rw[d_ rfl]; exact .inr ⟨rfl,K,by omega,rfl⟩
     ·rw[b_ e]
      rcases n k with ⟨d,g⟩|⟨d,i,g,h5⟩
      ·refine .inl ⟨d,fun i s m => ?_⟩;by_cases o:i=K
       ·subst o; exact e m.symm
       ·exact g i (by omega) m
      ·exact .inr ⟨d,i,by omega,h5⟩
    ·rw[b_ l]; exact⟨rfl,fun h=>M_ h l⟩
   ·rw[b_ c];have e:cZ f idx R (K+1)=cZ f idx R K:=(by show(if _ then _ else _)=_; rw[b_ c]);rw[e];exact⟨rfl,fun h=>M_ h c⟩
end
structure CJ(T:dN)(L:eY):Prop where
 has : ∀ k,T.has k=true <-> ∃ i,i<L.nn/\L.id i=k
 n:T.n=L.nn
 par : ∀ i,i<L.nn->T.par (L.id i)=L.par i
section
variable {T:dN} {L:eY} {N:Nat} {x:Int}
theorem CJ.find(h:CJ T L)(b:Inv0 L N)(x:Int):T.has x=true<->0<=bF L.t L.tn x:=by
 rw[h.has,gZ,b.BH];constructor
 ·rintro ⟨i,a,e⟩; exact⟨i,a,by rw[(b.tid i a).1]; exact e⟩
 rintro ⟨i,a,e⟩; exact⟨i,a,by rw[<- (b.tid i a).1]; exact e⟩
theorem CJ.findF(h:CJ T L)(a:Inv0 L N)(x:Int):T.has x=false<->bF L.t L.tn x<0:=by
 have:=h.find a x
 cases e:T.has x with
 | false=>rw[e]at this; exact⟨fun _=>by rcases ilt (bF L.t L.tn x)with h1|h1; exact h1; exact M_ (this.2 h1) (by decide),fun _=>rfl⟩
 | true=>rw[e]at this; have:=this.1 rfl; exact⟨fun h=>(nomatch h),fun h=>by omega⟩
theorem Inv0.at(c:Inv0 L N){i:Nat}(hi:i<L.nn):L.node (L.id i)=(i:Int):=by
 rw[c.node,<- (c.tid i hi).1];exact vE (fun a b d f e=>c.ahd a b d f e) (by rw[c.BH]; exact hi)
theorem CJ.next(h:CJ T L)(a:Inv0 L N)(hx:T.has x=true):T.par x=L.t (bF L.t L.tn x).toNat 1:=by
 obtain⟨i,b,rfl⟩:=(h.has x).1 hx;have e:=a.at b;rw[a.node]at e;rw[e,h.par i b];exact((a.tid i b).2).symm
theorem CJ.path(h:CJ T L)(f:T.ok)(a:Inv0 L N)(x:Int):(T.path x).length=dF L.t L.tn x /\ ∀ q,q<(T.path x).length->(T.path x).getD q 0=aT L.t L.tn q x:=by
 have g : ∀ q,q<(T.path x).length->T.has ((T.path x).getD q 0)=true/\(q+1<(T.path x).length->(T.path x).getD (q+1) 0=T.par ((T.path x).getD q 0))/\(q+1=(T.path x).length->T.has (T.par ((T.path x).getD q 0))=false):=rH (f.stop x);have j : ∀ q,q<(T.path x).length->(T.path x).getD q 0=aT L.t L.tn q x:=by
  intro q
  induction q with
  | zero =>
    intro b
    cases hx:T.has x with
    | false=>rw[show T.path x = []from kW hx]at b; exact M_ b (z_ _)
    | true=>rw[dN.step f hx]; rfl
  | succ q ih =>
    intro b;have l:=ih (by omega);have c:=(g q (by show q<(T.path x).length; omega));have e:=c.2.1 b;show(T.path x).getD (q+1) 0=L.t (bF L.t L.tn (aT L.t L.tn q x)).toNat 1;rw[<- l,<- h.next a c.1]
    exact e
 refine⟨?_,j⟩;obtain⟨D,n,m⟩:=a.dep x;refine vo (D:=D) (fun i k => ?_) ?_ m (by omega)
 ·rw[<- j i k,<- h.find a]; exact(g i k).1
 by_cases d:(T.path x).length=0
 ·rw[d];show bF L.t L.tn x<0;rw[<- h.findF a]
  cases hx:T.has x with
  | false=>rfl
  | true=>rw[dN.step f hx]at d; simp at d
 obtain⟨q,b⟩ : ∃ q,(T.path x).length=q+1:=⟨(T.path x).length-1,by omega⟩;have c:=g q (by show q<(T.path x).length; omega);have e:=c.2.2 (by show q+1=(T.path x).length; omega);rw[b];show bF L.t L.tn (L.t (bF L.t L.tn (aT L.t L.tn q x)).toNat 1)<0;rw[<- j q (by omega),<- h.next a c.1,<- h.findF a]
 exact e
theorem Y6(d:Inv0 L N)(x:Int):bF L.t L.tn (aT L.t L.tn (dF L.t L.tn x) x)<0:=by
 obtain⟨D,e,b⟩:=d.dep x;obtain⟨K,f,a,c⟩:=vF D b;rw[<- vo c a b (by omega)]; exact a
theorem CJ.mem(h:CJ T L)(f:T.ok)(d:Inv0 L N)(x y:Int):y∈T.path x <-> ∃ i,i<dF L.t L.tn x/\aT L.t L.tn i x=y:=by
 obtain⟨c,b⟩:=h.path f d x;rw[<- c];constructor
 ·intro g;obtain⟨i,a,e⟩:=List.getElem_of_mem g;refine⟨i,a,?_⟩;rw[<- b i a,r_,o_ a]; exact e
 rintro ⟨i,a,rfl⟩;rw[<- b i a,r_,o_ a]; exact Q_ a
theorem CJ.err(h:CJ T L)(l:T.ok)(a:Inv0 L N)(id pa:Int):T.err id pa=jI L.t L.tn id pa:=by
 unfold dN.err qW jI;by_cases c:id=0
 ·rw[d_ c,d_ c]
 rw[b_ c,b_ c];by_cases d:dS T.x T.n id=true
 ·rw[d_ d,d_ ((h.find a id).1 d)]
 rw[b_ d,b_ (fun e=>d ((h.find a id).2 e))];have j:(¬ pa=0/\dS T.x T.n pa=false)<->(pa≠0/\bF L.t L.tn pa<0):=by
  rw[<- h.findF a]; exact Iff.rfl
 by_cases f : ¬ pa=0/\dS T.x T.n pa=false
 ·rw[d_ f,d_ (j.1 f)]
 rw[b_ f,b_ (fun e=>f (j.2 e))];have k:(32<=T.n\/4<=(jG T.x T.p T.n 4 pa).length)<->(32<=L.tn\/Db L.t L.tn pa):=by
  obtain⟨q,r⟩:=h.path l a pa;have v:(T.path pa).length<=4:=dN.yX;have:4<=(T.path pa).length<->Db L.t L.tn pa:=by
   constructor
   ·intro s i u;have b:=(rH (l.stop pa)) i (by show i<(T.path pa).length; omega);rw[<- r i (by omega),<- h.find a]; exact b.1
   ·intro o
    rcases Nat.lt_or_ge (T.path pa).length 4 with b|b
    ·exfalso;have m:=o _ b;rw[q]at m;have:=Y6 a pa;omega
    ·exact b
  show(32<=T.n\/4<=(T.path pa).length)<->_;rw[this,h.n,a.BH]
 by_cases g:32<=T.n\/4<=(jG T.x T.p T.n 4 pa).length
 ·rw[d_ g,d_ (k.1 g)]
 rw[b_ g,b_ (fun e=>g (k.2 e))]
end
end Rt
namespace Rt
section
variable {m:dO} {k:Int} {i:Nat}
theorem dO.Dt(b:m.T.ok)(c:m.T.has k=true):m.idx k<m.T.n/\m.T.x (m.idx k)=k:=by
 obtain⟨j,a,e⟩:=gU c;have:m.idx k=j:=mR b.inj a e;rw[this]; exact⟨a,e⟩
theorem LC(x:Nat->Int)(id:Int) : ∀ n,(∀ i,i<n->x i≠id)->zA (Fx.aN x n id) (n+1) id=n:=fun n _=>by
 unfold zA;rw[d_];unfold Fx.aN;rw[d_ rfl]
theorem Im{x y:Nat->Int}{k:Int} : ∀ {n:Nat},(∀ i,i<n->x i=y i)->zA x n k=zA y n k
 | 0,_=>rfl
 | n+1,h=>by unfold zA; rw[h n (by omega),Im (n:=n) fun i a=>h i (by omega)]
theorem LD(x:Nat->Int){id k:Int}(n:Nat)(b:id≠k):zA (Fx.aN x n id) (n+1) k=zA x n k:=by
 have a:Fx.aN x n id n=id:=by unfold Fx.aN; rw[d_ rfl]
 show(if Fx.aN x n id n=k then n else zA (Fx.aN x n id) n k)=_;rw[a,b_ b];exact Im fun i c=>by unfold Fx.aN; rw[b_ (by omega)]
theorem Io{f g:Nat->Int}{o:Int} : ∀ {n:Nat},(∀ i,i<n->f i=g i)->mK f o n=mK g o n
 | 0,_=>rfl
 | n+1,h=>by unfold mK; rw[Io (n:=n) fun i a=>h i (by omega),h n (by omega)]
theorem LG{f:Nat->Int}{o v:Int}{k:Nat} : ∀ n,k<=n->mK (Fx.cB f k v) o (n+1)=mK f o n+if v / 1099511627776=o then 1 else 0
 | 0,h=>by
   obtain rfl:k=0:=(by omega);show 0+(if Fx.cB f 0 v 0 / 1099511627776=o then 1 else 0)=0+_;rw[dH]
 | n+1,h=>by
   by_cases e:k=n+1
   ·subst e;show mK (Fx.cB f (n+1) v) o (n+1)+(if Fx.cB f (n+1) v (n+1) / 1099511627776=o then 1 else 0)=_;rw[dH,Io (g:=f) fun i a=>Ei a]
   ·show mK (Fx.cB f k v) o (n+1)+(if Fx.cB f k v (n+1) / 1099511627776=o then 1 else 0)=mK f o n+(if f n / 1099511627776=o then 1 else 0)+_;rw[LG n (by omega),Ej (by omega)];show _+(if f n / 1099511627776=o then 1 else 0)=_;omega
theorem Px{f:Nat->Int}{o:Int} : ∀ n,mK f o n<=n
 | 0=>A_ _
 | n+1=>by have:=Px (f:=f) (o:=o) n; unfold mK; split <;> omega
theorem CK{P:Nat->Bool}{n:Nat}:0<=gX P n <-> ∃ j,j<n/\P j=true:=by
 rcases jh P n with ⟨k,c,e,a⟩|⟨e,h⟩
 ·rw[e]; exact⟨fun _=>⟨k,c,a⟩,fun _=>by omega⟩
 rw[e]; exact⟨fun h=>by omega,fun⟨j,b,a⟩=>by rw[h j b]at a; cases a⟩
end
structure fP(m:dO)(L:eY):Prop where
 T:CJ m.T L
 inn:m.inn=L.inn
 left:m.left=L.left
 known:m.known=L.known
 row : ∀ i,i<L.nn->AB m (L.id i)=L.R i
 own : ∀ a,a<6->m.own a=((mK L.id ((a:Int)+1) L.nn:Nat):Int)
 gi : ∀ i j,i<m.gn->j<m.gn->m.g i 0=m.g j 0->m.g i 1=m.g j 1->i=j
 gn:m.gn=L.gn
 g1 : ∀ q,q<L.gn -> ∃ j,j<m.gn/\m.g j=L.g q
 g2 : ∀ j,j<m.gn -> ∃ q,q<L.gn/\L.g q=m.g j
 ask : ∀(a:Nat) (r:Int),a<6->(gH m ((a:Int)+1) r=true <-> ∃ j,j<L.rn a/\L.rq a j=r)
 ga:QY m
 li : ∀ p q,p<L.gn->q<L.gn->L.g p 0=L.g q 0->L.g p 1=L.g q 1->p=q
section
variable {m:dO} {L:eY} {N:Nat} {v:EvM} {x:Int}
theorem fP.node(h:fP m L)(a:Inv0 L N)(x:Int):m.T.has x=true<->0<=L.node x:=by rw[h.T.find a,a.node]
theorem fP.LH(h:fP m L)(a:Inv0 L N)(x:Int):m.T.has x=false<->L.node x<0:=by rw[h.T.findF a,a.node]
theorem Inv0.Y7(a:Inv0 L N)(hx:0<=L.node x):(L.node x).toNat<L.nn/\L.id (L.node x).toNat=x:=by
 rw[a.node]at hx ⊢;obtain⟨j,b,e,c⟩:=uY hx;rw[e];rw[a.BH]at b;exact⟨b,by show L.id j=x; rw[<- (a.tid j b).1]; exact c⟩
theorem fP.rk(h:fP m L)(c:Inv0 L N)(hx:0<=L.node x):AB m x=L.R (L.node x).toNat:=by
 obtain⟨a,b⟩:=c.Y7 hx;rw[<- h.row _ a,b]
theorem fP.Cu(h:fP m L)(f:m.T.ok)(a:Inv0 L N)(hx:m.T.has x=true)(r:Nat->Int):fP (Cu m x r) { L with R:=aI L.R (L.node x).toNat r }:=by
 have l:=(h.node a x).1 hx;obtain⟨j,c⟩:=a.Y7 l;refine { h with row:=fun i b => ?_,T:=⟨h.T.has,h.T.n,h.T.par⟩ };show Fx.aN m.R (m.idx x) r (m.idx (L.id i))=aI L.R (L.node x).toNat r i;unfold Fx.aN aI;by_cases e:i=(L.node x).toNat
 ·subst e; rw[c,d_ rfl,d_ rfl]
 rw[b_ e,b_]
 ·exact h.row i b
 intro g;have d:=(dO.Dt f ((h.T.has _).2 ⟨i,b,rfl⟩)).2;have k:=(dO.Dt f hx).2;rw[g,k]at d;exact e (a.inj i _ b j (by rw[c]; exact d.symm))
theorem fP.along(h:fP m L)(l:m.T.ok)(g:Inv0 L N)(f:(Nat->Int)->(Nat->Int) × Int)(x:Int) :
 dA m f (m.T.path x)=(cZ f (ou L x) L.R (dF L.t L.tn x)).2/\((cZ f (ou L x) L.R (dF L.t L.tn x)).2=0 -> ∀ i,i<L.nn->(qH m f (m.T.path x)).R (m.idx (L.id i))=(cZ f (ou L x) L.R (dF L.t L.tn x)).1 i):=by
 obtain⟨z,p⟩:=h.T.path l g x;have w:(m.T.path x).Nodup:=dN.Ao l x;have o : ∀ i,i<dF L.t L.tn x->0<=L.node (aT L.t L.tn i x):=fun i c=>by rw[g.node]; exact yA c
 have y : ∀ i j,i<dF L.t L.tn x->j<dF L.t L.tn x->ou L x i=ou L x j->i=j:=fun i j c v e=>by
  have a:=g.Y7 (o i c);have b:=g.Y7 (o j v);have e:(L.node (aT L.t L.tn i x)).toNat=(L.node (aT L.t L.tn j x)).toNat:=e;rw[e]at a;have k:aT L.t L.tn i x=aT L.t L.tn j x:=a.2.symm.trans b.2;rw[<- p i (by omega),<- p j (by omega)]at k;exact CF w (by omega) (by omega) k
 obtain⟨A,B⟩:=FV (f:=f) (idx:=ou L x) (R:=L.R) y;refine⟨?_,fun s i c => ?_⟩
 ·rw[A];unfold dA;rw[z];exact Dr fun i c=>by
   rw[p i (by omega)];exact h.rk g (o i c)
 have u:=(dO.Dt l ((h.T.has _).2 ⟨i,c,rfl⟩)).2;show(if m.T.x (m.idx (L.id i))∈m.T.path x then(f (m.R (m.idx (L.id i)))).1 else m.R (m.idx (L.id i)))=_;rw[u,show m.R (m.idx (L.id i))=L.R i from h.row i c];have r:L.id i∈m.T.path x <-> ∃ q,q<dF L.t L.tn x/\ou L x q=i:=by
  rw[h.T.mem l g];constructor
  ·rintro ⟨q,d,e⟩;exact⟨q,d,(El g c d).2 e⟩
  ·rintro ⟨q,d,e⟩;exact⟨q,d,(El g c d).1 e⟩
 rcases B s i with ⟨n,k⟩|⟨n,q,d,k⟩
 ·rw[n,b_];rw[r]; rintro ⟨q,d,e⟩; exact k q d e
 rw[n,d_ (r.2 ⟨q,d,k⟩)]
theorem fP.asked(h:fP m L)(f:bQ v=true)(r:Int):gH m v.o r=true<->0<=L.lD (aL v) r:=by
 obtain⟨a,c,d⟩:=eU (iV f);have:aL v=a:=by unfold aL; omega
 rw[this,d,h.ask a r c];unfold eY.lD;rw[CK];constructor
 ·rintro ⟨j,b,e⟩; exact⟨j,b,f_ e⟩
 rintro ⟨j,b,e⟩; exact⟨j,b,h_ e⟩
theorem fP.grant(h:fP m L)(o r:Int):(iM m o r=true<->0<=L.grant o r)/\(0<=L.grant o r->(L.grant o r).toNat<L.gn/\fA m o r<m.gn/\m.g (fA m o r)=L.g (L.grant o r).toNat/\L.g (L.grant o r).toNat 0=o/\L.g (L.grant o r).toNat 1=r):=by
 have k1:iM m o r=true <-> ∃ j,j<m.gn/\m.g j 0=o/\m.g j 1=r:=lM;have k2:0<=L.grant o r <-> ∃ q,q<L.gn/\L.g q 0=o/\L.g q 1=r:=by
  unfold eY.grant;rw[CK];constructor
  ·rintro ⟨j,a,e⟩; rw[S_]at e; exact⟨j,a,h_ e.1,h_ e.2⟩
  ·rintro ⟨j,a,b,c⟩; exact⟨j,a,by rw[f_ b,f_ c]; rfl⟩
 refine⟨?_,fun l => ?_⟩
 ·rw[k1,k2];constructor
  ·rintro ⟨j,a,b,c⟩;obtain⟨q,d,e⟩:=h.g2 j a;exact⟨q,d,by rw[e]; exact b,by rw[e]; exact c⟩
  rintro ⟨q,d,b,c⟩;obtain⟨j,a,e⟩:=h.g1 q d;exact⟨j,a,by rw[e]; exact b,by rw[e]; exact c⟩
 have : ∃ q,q<L.gn/\L.grant o r=(q:Int)/\L.g q 0=o/\L.g q 1=r:=by
  unfold eY.grant at l ⊢
  rcases jh (fun i=>decide (L.g i 0=o)&&decide (L.g i 1=r)) L.gn with ⟨q,d,e,k⟩|⟨e,_⟩
  ·rw[S_]at k; exact⟨q,d,e,h_ k.1,h_ k.2⟩
  ·omega
 obtain⟨q,d,e,b,c⟩:=this;rw[e];obtain⟨j,a,f⟩:=h.g1 q d;have:fA m o r=j:=yY h.gi a (by show m.g j 0=o; rw[f]; exact b) (by show m.g j 1=r; rw[f]; exact c);rw[this];exact⟨d,a,f,b,c⟩
theorem fP.ahO(h:fP m L)(i:m.T.ok)(g:Inv0 L N)(e:bQ v=true)(l:v.kind=1):jc m v=kI L v:=by
 obtain⟨a,j,d⟩:=eU (iV e);have k:aL v=a:=by unfold aL; omega
 unfold jc kI;rw[k,h.own a j,d];have b:(5<=((mK L.id ((a:Int)+1) L.nn:Nat):Int)\/140737488355328<v.aQ)<->(5<=mK L.id ((a:Int)+1) L.nn\/140737488355328<v.aQ):=by omega
 have f:nR v=jo ((a:Int)+1) v.seq:=by rw[<- d,rD e]; rfl
 by_cases c:5<=mK L.id ((a:Int)+1) L.nn\/140737488355328<v.aQ
 ·rw[d_ c,d_ (b.2 c)]
 rw[b_ c,b_ (fun q=>c (b.1 q)),h.T.err i g,f]
theorem fP.make(h:fP m L)(A:m.T.ok)(r:Inv0 L N)(l:bQ v=true)(D:v.kind=1)(z:kI L v=0):fP (Dp m v) (qD L v):=by
 obtain⟨k,g,H,I,J,K,M,y,P,Q,G⟩:=wR r l D z;have t:=rD l;have O:=oh l;have f:nR v=jo v.o v.seq:=by rw[t]; rfl
 have w:m.T.has (nR v)=false:=by
  rw[h.T.findF r,f,vB];exact G.no
 have E : ∀ i,i<m.T.n->m.T.x i≠nR v:=fun i d e=>by
  have:=dN.zN d; rw[e,w]at this; cases this
 rw[y];have C : ∀ q,(m.T.put (nR v) v.node).has q=true<->(m.T.has q=true\/q=nR v):=fun q=>by
  rw[dN.jK,Bool.or_eq_true,P_];exact⟨fun h=>h.imp id Eq.symm,fun h=>h.imp id Eq.symm⟩
 have u : ∀ q,q<L.nn->L.id q≠nR v:=fun q F e=>by
  have:=(h.T.has _).2 ⟨q,F,rfl⟩; rw[e,w]at this; cases this
 refine {
  T:=⟨fun q => ?_,?_,fun i d => ?_⟩
  inn:=h.inn
  left:=h.left
  known:=h.known
  row:=fun i d => ?_
  own:=fun a s => ?_
  gi:=h.gi
  gn:=h.gn
  g1:=h.g1
  g2:=h.g2
  ask:=h.ask
  ga:=h.ga
  li:=h.li }
 ·show(m.T.put (nR v) v.node).has q=true <-> ∃ i,i<L.nn+1/\Fx.cB L.id k (jo v.o v.seq) i=q;rw[C,h.T.has];constructor
  ·rintro (⟨i,d,e⟩|e)
   ·obtain⟨j,b,_,c⟩:=Bh (k:=k) d;exact⟨j,b,by rw[c]; exact e⟩
   exact⟨k,by omega,by rw[dH,e,f]⟩
  rintro ⟨i,d,e⟩
  rcases dU g d with rfl|⟨j,b,c,_,_⟩
  ·rw[dH]at e; exact .inr (by rw[<- e,f])
  rw[c]at e; exact .inl ⟨j,b,e⟩
 ·show m.T.n+1=L.nn+1;rw[h.T.n]
 ·show(m.T.put (nR v) v.node).par (Fx.cB L.id k (jo v.o v.seq) i)=Fx.cB L.par k v.node i;rw[dN.tH]
  rcases dU g d with rfl|⟨j,b,c,_,_⟩
  ·rw[dH,dH,d_ f]
  rw[c,c,b_ (fun e=>u j b e.symm)]; exact h.T.par j b
 ·show Fx.aN m.R m.T.n _ (zA (Fx.aN m.T.x m.T.n (nR v)) (m.T.n+1) (Fx.cB L.id k (jo v.o v.seq) i))=Fx.cB L.R k _ i
  rcases dU g d with rfl|⟨j,b,c,_,_⟩
  ·rw[dH,dH,<- f,LC _ _ _ E]; unfold Fx.aN; rw[d_ rfl]
  rw[c,c,LD _ _ (fun e=>u j b e.symm)];have p:=(dO.Dt A ((h.T.has _).2 ⟨j,b,rfl⟩)).1;have p:zA m.T.x m.T.n (L.id j)<m.T.n:=p;unfold Fx.aN;rw[b_ (by omega)];exact h.row j b
 show aI m.own (aL v) (m.own (aL v)+1) a=((mK (Fx.cB L.id k (jo v.o v.seq)) ((a:Int)+1) (L.nn+1):Nat):Int);rw[LG _ g,t];have B:(1099511627776*v.o+v.seq) / 1099511627776=v.o:=by omega
 rw[B];unfold aI;by_cases e:a=aL v
 ·rw[d_ e,<- e,h.own a s,d_ (by unfold aL at e; omega)]; rfl
 rw[b_ e,h.own a s,b_ (by unfold aL at e; omega)]; rfl
attribute [local irreducible] dF cZ dA in
theorem fP.pW(h:fP m L)(d:m.T.ok)(g:Inv0 L N)(i:bQ v=true):jd m v=iZ L v:=by
 unfold jd iZ;by_cases c:gH m v.o v.req=true
 ·rw[d_ c,d_ ((h.asked i _).1 c)]
 rw[b_ c,b_ (fun e=>c ((h.asked i _).2 e))];obtain⟨j,_⟩:=h.T.path d g v.node;have f:m.T.has v.node=false<->dF L.t L.tn v.node=0:=by
  rw[<- j];constructor
  ·intro b; rw[show m.T.path v.node = []from kW b]; rfl
  ·intro b
   cases e:m.T.has v.node with
   | false=>rfl
   | true=>rw[dN.step d e]at b; simp at b
 by_cases a:m.T.has v.node=false
 ·rw[d_ a,d_ (f.1 a)]
 rw[b_ a,b_ (fun e=>a (f.2 e))];exact(h.along d g _ _).1
theorem FW{k1 k2:Nat->Int}{n:Nat}{a b o r:Int}:Bt (Fx.aN k1 n a) (Fx.aN k2 n b) (n+1) o r=true<->(Bt k1 k2 n o r=true\/(a=o/\b=r)):=by
 rw[lM,lM];unfold Fx.aN;constructor
 ·rintro ⟨j,f,c,d⟩;by_cases e:j=n
  ·subst e; rw[d_ rfl]at c d; exact .inr ⟨c,d⟩
  rw[b_ e]at c d; exact .inl ⟨j,by omega,c,d⟩
 rintro (⟨j,f,c,d⟩|⟨c,d⟩)
 ·exact⟨j,by omega,by rw[b_ (by omega)]; exact c,by rw[b_ (by omega)]; exact d⟩
 exact⟨n,by omega,by rw[d_ rfl]; exact c,by rw[d_ rfl]; exact d⟩
theorem fP.Py(h:fP m L)(w:bQ v=true)(d:dO)(f:eY)(i:d.an=m.an+1)(k:d.ao=Fx.aN m.ao m.an v.o)(l:d.ar=Fx.aN m.ar m.an v.req)(n:f.rn=aI L.rn (aL v) (L.rn (aL v)+1))(p:f.rq=aI L.rq (aL v) (aI (L.rq (aL v)) (L.rn (aL v)) v.req)) :
 (∀(a:Nat) (r:Int),a<6->(gH d ((a:Int)+1) r=true <-> ∃ j,j<f.rn a/\f.rq a j=r))/\(∀ o r,gH m o r=true->gH d o r=true)/\gH d v.o v.req=true:=by
 obtain⟨b,x,t⟩:=eU (iV w);have u:aL v=b:=by unfold aL; omega
 have g : ∀ o r,gH d o r=true<->(gH m o r=true\/(v.o=o/\v.req=r)):=fun o r=>by
  unfold gH; rw[i,k,l]; exact FW
 refine⟨fun a r q => ?_,fun o r h=>(g o r).2 (.inl h),(g _ _).2 (.inr ⟨rfl,rfl⟩)⟩;rw[g,h.ask a r q,n,p,u];unfold aI;by_cases e:a=b
 ·subst e;rw[d_ rfl,d_ rfl];constructor
  ·rintro (⟨j,s,e⟩|⟨_,e⟩)
   ·exact⟨j,by omega,by show(if j=L.rn a then v.req else L.rq a j)=r; rw[b_ (by omega)]; exact e⟩
   exact⟨L.rn a,by omega,by show(if L.rn a=L.rn a then v.req else _)=r; rw[d_ rfl]; exact e⟩
  rintro ⟨j,s,e⟩;have e:(if j=L.rn a then v.req else L.rq a j)=r:=e;by_cases c:j=L.rn a
  ·rw[d_ c]at e; exact .inr ⟨t,e⟩
  rw[b_ c]at e; exact .inl ⟨j,by omega,e⟩
 rw[b_ e,b_ e];exact⟨fun h=>h.elim id fun h=>by omega,.inl⟩
attribute [local irreducible] dF cZ dA in
theorem fP.take(h:fP m L)(F:m.T.ok)(E:Inv0 L N)(D:bQ v=true)(t:iZ L v=0):fP (kL m v) (mE L v):=by
 unfold iZ at t;split at t
 ·cases t
 rename_i c1;split at t
 ·cases t
 have I:=(h.along F E (fun x=>bD x v.o v.aQ) v.node).2 t;have G : ¬ gH m v.o v.req=true:=fun e=>c1 ((h.asked D _).1 e);obtain⟨k1,k2,J⟩:=h.Py D (kL m v) (mE L v) rfl rfl rfl rfl rfl;have s : ∀ j,(kL m v).g j=if j=m.gn then pJ v else m.g j:=fun j=>rfl;have A:pJ v 0=v.o:=rfl;have B:pJ v 1=v.req:=rfl;have y : ∀ j,j<m.gn -> ¬ (m.g j 0=v.o/\m.g j 1=v.req):=fun j d e=>G (by have:=h.ga j d; rw[e.1,e.2]at this; exact this);have u:=Fx.vZ (fun i=>Df v (L.g i)) L.gn
 refine {
  T:=⟨h.T.has,h.T.n,h.T.par⟩
  inn:=h.inn
  left:=h.left
  known:=h.known
  row:=I
  own:=h.own
  gi:=fun i j r d b a => ?_
  gn:=by show m.gn+1=L.gn+1; rw[h.gn]
  g1:=fun q f => ?_
  g2:=fun j d => ?_
  ask:=k1
  ga:=fun i r => ?_
  li:=fun p q z f b a => ?_ }
 ·have r:i<m.gn+1:=r;have d:j<m.gn+1:=d;rw[s,s]at b a;by_cases c:i=m.gn
  ·by_cases l:j=m.gn
   ·omega
   rw[d_ c,b_ l,A]at b; rw[d_ c,b_ l,B]at a;exact M_ ⟨b.symm,a.symm⟩ (y j (by omega))
  by_cases l:j=m.gn
  ·rw[b_ c,d_ l,A]at b; rw[b_ c,d_ l,B]at a;exact M_ ⟨b,a⟩ (y i (by omega))
  rw[b_ c,b_ l]at b a; exact h.gi i j (by omega) (by omega) b a
 ·have f:q<L.gn+1:=f;show ∃ j,j<m.gn+1/\(kL m v).g j=Fx.cB L.g (Fx.down (fun i=>Df v (L.g i)) L.gn) (pJ v) q
  rcases dU u f with e|⟨j,d,a,_,_⟩
  ·rw[e,dH]; exact⟨m.gn,by omega,by rw[s,d_ rfl]⟩
  rw[a];obtain⟨i,r,w⟩:=h.g1 j d;exact⟨i,by omega,by rw[s,b_ (by omega)]; exact w⟩
 ·have d:j<m.gn+1:=d;show ∃ q,q<L.gn+1/\Fx.cB L.g (Fx.down (fun i=>Df v (L.g i)) L.gn) (pJ v) q=(kL m v).g j;rw[s];by_cases c:j=m.gn
  ·rw[d_ c]; exact⟨_,by omega,dH⟩
  rw[b_ c];obtain⟨q,f,e⟩:=h.g2 j (by omega);obtain⟨K,H,_,a⟩:=Bh (k:=Fx.down (fun i=>Df v (L.g i)) L.gn) f;exact⟨K,H,by rw[a]; exact e⟩
 ·have r:i<m.gn+1:=r;rw[s];by_cases c:i=m.gn
  ·rw[d_ c]; exact J
  rw[b_ c]; exact k2 _ _ (h.ga i (by omega))
 have z:p<L.gn+1:=z;have f:q<L.gn+1:=f;have C : ∀ j,j<L.gn -> ¬ (L.g j 0=v.o/\L.g j 1=v.req):=fun j d e=>by
  obtain⟨i,r,w⟩:=h.g1 j d;rw[<- w]at e;exact y i r e
 have b:Fx.cB L.g (Fx.down (fun i=>Df v (L.g i)) L.gn) (pJ v) p 0=Fx.cB L.g (Fx.down (fun i=>Df v (L.g i)) L.gn) (pJ v) q 0:=b;have a:Fx.cB L.g (Fx.down (fun i=>Df v (L.g i)) L.gn) (pJ v) p 1=Fx.cB L.g (Fx.down (fun i=>Df v (L.g i)) L.gn) (pJ v) q 1:=a;generalize Fx.down (fun i=>Df v (L.g i)) L.gn=k at b a u
 rcases dU u z with c|⟨j,d,f1,f2,f3⟩
 ·rcases dU u f with l|⟨j',hj',f1',f2',f3'⟩
  ·omega
  rw[c,dH,f1']at b a; exact M_ ⟨b.symm,a.symm⟩ (C j' hj')
 rcases dU u f with l|⟨j',hj',f1',f2',f3'⟩
 ·rw[l,dH,f1]at b a; exact M_ ⟨b,a⟩ (C j d)
 rw[f1,f1']at b a;have:=h.li j j' d hj' b a;omega
attribute [local irreducible] dF cZ dA in
theorem fP.qL(h:fP m L)(l:m.T.ok)(k:Inv0 L N)(f:bQ v=true):jA m v=iT L v:=by
 unfold jA iT;by_cases c:gH m v.o v.req=true
 ·rw[d_ c,d_ ((h.asked f _).1 c)]
 rw[b_ c,b_ (fun e=>c ((h.asked f _).2 e))];obtain⟨d,j⟩:=h.grant v.o v.of;by_cases b:0<=L.grant v.o v.of
 ·obtain⟨p,r,i,s,t⟩:=j b;have n:=d.2 b;have e:(iM m v.o v.of=false\/m.g (fA m v.o v.of) 4≠0)<->(L.grant v.o v.of<0\/L.g (yw L v) 4≠0):=by
   rw[i,n];show _<->_\/L.g (L.grant v.o v.of).toNat 4≠0;constructor
   ·rintro (h|h)
    ·cases h
    ·exact .inr h
   ·rintro (h|h)
    ·omega
    ·exact .inr h
  by_cases a:L.grant v.o v.of<0\/L.g (yw L v) 4≠0
  ·rw[d_ a,d_ (e.2 a)]
  rw[b_ a,b_ (fun q=>a (e.1 q)),i];exact(h.along l k _ _).1
 rw[d_ (.inl (by
  cases e:iM m v.o v.of with
  | false=>rfl
  | true=>exact M_ (d.1 e) b)),d_ (.inl (by omega))]
attribute [local irreducible] dF cZ dA in
theorem fP.free(h:fP m L)(G:m.T.ok)(F:Inv0 L N)(I:bQ v=true)(k:iT L v=0):fP (iJ m v) (kJ L v):=by
 unfold iT at k;split at k
 ·cases k
 split at k
 ·cases k
 rename_i c2;have E:0<=L.grant v.o v.of:=by rcases ilt (L.grant v.o v.of)with h1|h1; exact M_ (.inl h1) c2; exact h1
 obtain⟨C,D,t,K,M⟩:=(h.grant v.o v.of).2 E;have H:=(h.along G F (fun x=>bH x v.o (L.g (yw L v) 3)) (L.g (yw L v) 2)).2 k;obtain⟨k1,k2,J⟩:=h.Py I (iJ m v) (kJ L v) rfl rfl rfl rfl rfl;have A:yw L v=(L.grant v.o v.of).toNat:=rfl;have w : ∀ j,(iJ m v).g j=if j=fA m v.o v.of then upd (m.g (fA m v.o v.of)) 4 v.req else m.g j:=fun j=>rfl;have u : ∀ q,(kJ L v).g q=if q=yw L v then aI (L.g (yw L v)) 4 v.req else L.g q:=fun q=>rfl;have B:upd (m.g (fA m v.o v.of)) 4 v.req=aI (L.g (yw L v)) 4 v.req:=by rw[t]; rfl
 have f : ∀ j p,(p=0\/p=1)->(iJ m v).g j p=m.g j p:=fun j p s=>by
  rw[w];by_cases c:j=fA m v.o v.of
  ·subst c; rw[d_ rfl]; rcases s with rfl|rfl <;> rfl
  ·rw[b_ c]
 have z : ∀ j p,(p=0\/p=1)->(kJ L v).g j p=L.g j p:=fun j p s=>by
  rw[u];by_cases c:j=yw L v
  ·subst c; rw[d_ rfl]; rcases s with rfl|rfl <;> rfl
  ·rw[b_ c]
 refine {
  T:=⟨h.T.has,h.T.n,h.T.par⟩
  inn:=h.inn
  left:=h.left
  known:=h.known
  row:=fun i r => ?_
  own:=h.own
  gi:=fun i j r a l d=>h.gi i j r a (by rw[f i 0 (.inl rfl),f j 0 (.inl rfl)]at l; exact l) (by rw[f i 1 (.inr rfl),f j 1 (.inr rfl)]at d; exact d)
  gn:=h.gn
  g1:=fun q b => ?_
  g2:=fun j a => ?_
  ask:=k1
  ga:=fun i r=>by rw[f i 0 (.inl rfl),f i 1 (.inr rfl)]; exact k2 _ _ (h.ga i r)
  li:=fun p q s b l d=>h.li p q s b (by rw[z p 0 (.inl rfl),z q 0 (.inl rfl)]at l; exact l) (by rw[z p 1 (.inr rfl),z q 1 (.inr rfl)]at d; exact d) }
 ·have:=H i r;show(qH m (fun x=>bH x v.o (m.g (fA m v.o v.of) 3)) (m.T.path (m.g (fA m v.o v.of) 2))).R (m.idx (L.id i))=_;rw[t]; exact this
 ·have b:q<L.gn:=b;rw[u];by_cases c:q=yw L v
  ·rw[d_ c]; exact⟨fA m v.o v.of,D,by rw[w,d_ rfl,B]⟩
  rw[b_ c];obtain⟨j,a,y⟩:=h.g1 q b;refine⟨j,a,?_⟩;rw[w,b_]
  ·exact y
  intro e;rw[e,t]at y;exact c (h.li q _ b C (congrFun y.symm 0) (congrFun y.symm 1))
 have a:j<m.gn:=a;rw[w];by_cases c:j=fA m v.o v.of
 ·rw[d_ c]; exact⟨yw L v,C,by rw[u,d_ rfl,B]⟩
 rw[b_ c];obtain⟨q,b,e⟩:=h.g2 j a;refine⟨q,b,?_⟩;rw[u,b_]
 ·exact e
 intro d;rw[d]at e;exact c (h.gi j _ a D (by rw[t,<- e,A]) (by rw[t,<- e,A]))
theorem fP.move(h:fP m L)(i:m.T.ok)(a:Inv0 L N)(k:bQ v=true)(j:v.kind=5):kK m v=oZ L v/\(oZ L v=0->fP (Dl m v) (FB L v)):=by
 obtain⟨b,l,n⟩:=Pf k j;unfold kK oZ;by_cases c:L.node v.node<0
 ·rw[d_ c,d_ ((h.LH a _).2 c)];exact⟨rfl,fun h=>by cases h⟩
 have f:0<=L.node v.node:=by omega
 rw[b_ c,b_ (fun e=>c ((h.LH a _).1 e)),h.inn];have g:sI m v=yx L v:=by unfold sI yx; rw[<- h.rk a f]; rfl
 have e:(v.dst<1\/6<v.dst\/L.inn (v.dst-1).toNat=false)<->L.inn (v.dst-1).toNat=false:=⟨fun h=>by rcases h with h|h|h; omega; omega; exact h,fun h => .inr (.inr h)⟩
 by_cases d:L.inn (v.dst-1).toNat=false
 ·rw[d_ d,d_ (e.2 d)];exact⟨rfl,fun h=>by cases h⟩
 rw[b_ d,b_ (fun q=>d (e.1 q)),g];refine⟨rfl,fun _ => ?_⟩;have:=h.Cu i a ((h.node a _).2 f) (yx L v).1;unfold Dl FB;rw[g]; exact this
theorem fP.raise(h:fP m L)(f:m.T.ok)(a:Inv0 L N):jL m v=wQ L v/\(wQ L v=0->fP (uF m v) (Fz L v)):=by
 unfold jL wQ;by_cases c:L.node v.node<0
 ·rw[d_ c,d_ ((h.LH a _).2 c)];exact⟨rfl,fun h=>by cases h⟩
 have b:0<=L.node v.node:=by omega
 have d:m.R (m.idx v.node)=L.R (L.node v.node).toNat:=h.rk a b;rw[b_ c,b_ (fun e=>c ((h.LH a _).1 e)),d];refine⟨rfl,fun _ => ?_⟩;unfold uF Fz;rw[d];exact h.Cu f a ((h.node a _).2 b) _
theorem fP.does(h:fP m L)(c:m.T.ok)(b:Inv0 L N)(d:bQ v=true):dL m v=dY L v/\(dY L v=0->fP (iU m v) (gY L v)):=by
 have j:=ji d;unfold dL dY iU gY;by_cases k1:v.kind=1
 ·rw[d_ k1,d_ k1,d_ k1,d_ k1]; exact⟨h.ahO c b d k1,fun e=>h.make c b d k1 e⟩
 rw[b_ k1,b_ k1,b_ k1,b_ k1];by_cases k2:v.kind=2
 ·rw[d_ k2,d_ k2,d_ k2,d_ k2]; exact h.raise c b
 rw[b_ k2,b_ k2,b_ k2,b_ k2];by_cases f:v.kind=3
 ·rw[d_ f,d_ f,d_ f,d_ f]; exact⟨h.pW c b d,fun e=>h.take c b d e⟩
 rw[b_ f,b_ f,b_ f,b_ f];by_cases g:v.kind=4
 ·rw[d_ g,d_ g,d_ g,d_ g]; exact⟨h.qL c b d,fun e=>h.free c b d e⟩
 rw[b_ g,b_ g,b_ g,b_ g];by_cases a:v.kind=5
 ·rw[d_ a,d_ a,d_ a,d_ a]; exact h.move c b d a
 rw[b_ a,b_ a,b_ a,b_ a];by_cases i:v.kind=6
 ·rw[d_ i,d_ i,d_ i];exact⟨rfl,fun _ => { h with T:=⟨h.T.has,h.T.n,h.T.par⟩,inn:=by show aI m.inn _ true=aI L.inn _ true; rw[h.inn] }⟩
 rw[b_ i,b_ i,b_ i];exact⟨rfl,fun _ => { h with T:=⟨h.T.has,h.T.n,h.T.par⟩,left:=by show aI m.left _ true=aI L.left _ true; rw[h.left] }⟩
theorem fP.apply(h:fP m L)(f:m.T.ok)(d:Inv0 L N)(v:EvM):bU m v=bA L v/\fP (jB m v) (bV L v):=by
 have e:bU m v=bA L v:=by
  unfold bU bA;rw[h.known,h.inn,h.left]
  cases b:bQ v with
  | false=>rfl
  | true =>
    rw[(h.does f d b).1]
 refine⟨e,?_⟩;unfold jB bV;rw[e];by_cases c:bA L v=0
 ·rw[d_ c,d_ c];have b:=(Dj (iK c)).1;have g:dY L v=0:=by
   unfold bA at c;rw[b_ (by rw[b]; decide)]at c;split at c; · cases c
   split at c; · cases c
   split at c; · cases c
   exact c
  have a:=(h.does f d b).2 g;exact { a with T:=⟨a.T.has,a.T.n,a.T.par⟩,known:=by show aI (iU m v).known _ _=aI (gY L v).known _ _; rw[a.known] }
 rw[b_ c,b_ c]; exact h
theorem fP.sound(h:fP m L)(k:m.T.ok)(c:Inv0 L N):QlK m := {
 own:=fun a l=>by
  have b:=Px (f:=L.id) (o:=(a:Int)+1) L.nn;have d:=c.nn;rw[h.own a l]; omega
 row:=fun i g p n=>by
  obtain⟨j,hj,e⟩:=(h.T.has _).1 (dN.zN g);have b:=h.row j hj;rw[e]at b;have d:m.idx (m.T.x i)=i:=mR k.inj g rfl;unfold AB at b;rw[d]at b;rw[b];exact lV (c.may j hj) p n
 ga:=h.ga
 kn:=by rw[h.known]; exact c.kn }
end
end Rt
end Go.Proofs.YtcbedgfikejkoaaGreatDoor
