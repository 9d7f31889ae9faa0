/-
  What the proof of the law rests on, part 6: walks of functions, and plain laws; each says its conditions itself.
-/
import Derived.Shelf.SlSortCmp.NoneTotal
import Derived.Shelf.SlSortCmp.WholeK
import Derived.Lib.SliceRun
import Derived.Ground.SlsfProg
import Derived.Test.YtahbiajdgealnaaGreatDoorProg
import Derived.Test.YtahbiajdgealnaaGreatDoorZF5
set_option maxRecDepth 20000
set_option linter.unusedVariables false
set_option maxHeartbeats 1600000
set_option linter.unusedSimpArgs false
namespace Go.Proofs.YtahbiajdgealnaaGreatDoor
open Go.RowKit
namespace Fx
abbrev QX:=List (Nat × List Nat)
def HZ(ops:List Oper)(a:List Nat)(b:Bool)(i:Nat)(l:QX):Bool:=l.all fun x=>match a[x.1]? with|some e => !Nat.beq i e&&(if b then xM ops i x.2 e else xM ops e x.2 i)|none=>false
def Ny(ops:List Oper)(a:List Nat)(c b:List QX):Bool:=(List.range ops.length).all fun i=>HZ ops a true i (c.getD i [])&&HZ ops a false i (b.getD i [])
def qh(a:List Nat)(b:Array Bool)(j:Nat):Bool:=match a[j]? with|some e=>b.getD e false|none=>false
def VG(m:Nat->Bool)(j:Nat):Nat->Bool:=fun q=>bif Nat.beq q j then true else m q
section
variable {P:Program} {n:Nat} {Q:Post} {f:Nat->Value} {w:World} {ops:List Oper}
theorem QY{i e:Nat}{p:List Nat}{b:Array Bool}(hr:i∈Region.ready .any ops.toArray b)(j:JJ ops.toArray .any b)(d:i≠e)(h:xM ops i p e=true):b.getD e false=true:=by
 obtain⟨m,n,l,g⟩:=fK hr;obtain⟨f,h⟩:=jc h
 cases f with
 | zero=>unfold reach at h; exact N_ (by simpa using h) d
 | succ f =>
   unfold reach at h;rw[Bool.or_eq_true]at h
   rcases h with h|h
   ·exact N_ (by simpa using h) d
   ·rw[l]at h;simp only at h;rw[Array.any_eq_true']at h;obtain⟨c,k,a⟩:=h;rw[T_]at a;refine j.reach _ _ a.2<|g c.on ?_;unfold dG;rw[Array.any_eq_true'];exact⟨c,k,by rw[a.1,Nat.beq_refl]; rfl⟩
theorem W.masks{id:Nat}(o:List Nat)(X po:List QX)(y:Gh->Nat->Value)(S:(Nat->Bool)->Gh->World->Prop)(hm:P.follows .mixedOrders=true)(U:lV n ops=true)(hsel:Region.noSelect ops.toArray=true)(VH:Ny ops o X po=true)
 (hes:o.all (fun e=>Nat.blt e ops.length&&(match (opAt ops e).guard with|none=>true|_=>false))=true) (hnd:o.Nodup) (r0:Gh)
 (h0 : ∀ D,Below w.heap.size w D->D.heap.size=w.heap.size->S (fun _=>false) r0 D)
 (J : ∀ i,i<ops.length->o.contains i=false -> ∀ r m w,(∀ x∈X.getD i [],m x.1=true)->(∀ x∈po.getD i [],m x.1=false)->S m r w->if Region.wanted (opAt ops i) (yf ops.toArray (full ops f (y r)))then Oper.quietUpon P (S m r) w (y r i) ((execOp (ev (full ops f (y r))) (opAt ops i)).run P w)else y r i=undef)
 (I : ∀ j i,o[j]? = some i -> ∀ r m w (a:Act) (K:Act->World->Prop),(∀ x∈X.getD i [],m x.1=true)->(∀ x∈po.getD i [],m x.1=false)->m j=false->S m r w->(∀ x∈(opAt ops i).op.operands,a.eval x=ev (full ops f (y r)) x)->(∀ p C,S (VG m j) (ru r j p) C->K (a.put (opAt ops i).dst (y (ru r j p) i)) C)->(opAt ops i).wp P a w K (lift n Q))
 (hd : ∀ i,i<ops.length -> ∀ j r p,(∀ x∈X.getD i [],x.1≠j)->o[j]? ≠ some i->j<o.length->y (ru r j p) i=y r i)
 (h : ∀ r m C,(∀ j,j<o.length->m j=true)->S m r C->Q .normal (full ops f (y r)) C):W P n (.region id ops.toArray true) Q f w:=fun a M=>by
 refine wp_region_any hm ?_;have Z : ∀ i,i<ops.length->HZ ops o true i (X.getD i [])=true/\HZ ops o false i (po.getD i [])=true:=fun i t=>by
  unfold Ny at VH;rw[List.all_eq_true]at VH;have:=VH i (by simpa using t)
  rwa [T_]at this
 have hpr : ∀ i,i<ops.length -> ∀ x∈X.getD i [],∃ e,o[x.1]? = some e/\i≠e/\xM ops i x.2 e=true:=fun i t x G=>by
  have c:=(Z i t).1;unfold HZ at c;rw[List.all_eq_true]at c;have c:=c x G
  cases I:o[x.1]? with
  | none=>rw[I]at c; cases c
  | some e =>
    rw[I]at c;simp only[if_true,T_]at c;exact⟨e,rfl,fun q=>by subst q; rw[Nat.beq_refl]at c; exact N_ c.1 (by simp),c.2⟩
 have hpo : ∀ i,i<ops.length -> ∀ x∈po.getD i [],∃ e,o[x.1]? = some e/\xM ops e x.2 i=true:=fun i t x G=>by
  have c:=(Z i t).2;unfold HZ at c;rw[List.all_eq_true]at c;have c:=c x G
  cases I:o[x.1]? with
  | none=>rw[I]at c; cases c
  | some e =>
    rw[I]at c;simp only[T_]at c;exact⟨e,rfl,by simpa using c.2⟩
 have RY : ∀ k i,o[k]? = some i->i<ops.length/\(opAt ops i).guard=none:=fun k i hk=>by
  rw[List.all_eq_true]at hes;have:=hes i (List.mem_of_getElem? hk);rw[T_]at this;refine⟨by simpa [Nat.blt_eq] using this.1,?_⟩
  cases hg:(opAt ops i).guard with
  | none=>rfl
  | some _=>rw[hg]at this; exact N_ this.2 (by simp)
 have key : ∀(O:Nat) (b:Array Bool) (a:Act) (D:World) (r:Gh),b.size=ops.length->JJ ops.toArray .any b->Fr a n (over ops f (y r) b)->S (qh o b) r D ->
  (∀ N:List Nat,N=(List.range ops.length).filter (fun i => !b.getD i false)->N.length=O)->wpAny P .any ops.toArray (lift n Q) O b a D:=by
  intro O
  induction O with
  | zero =>
    intro b a D r V Dm M R Y;have T : ∀ i,i<ops.length->b.getD i false=true:=fun i t=>by
     have c:=List.eq_nil_of_length_eq_zero (Y _ rfl)
     cases J:b.getD i false
     ·have:i∈(List.range ops.length).filter (fun i => !b.getD i false):=(by simp only[List.mem_filter,P_]; exact⟨t,by rw[J]; rfl⟩);rw[c]at this; cases this
     ·rfl
    have hnone:Region.ready .any ops.toArray b = []:=by
     cases J:Region.ready .any ops.toArray b with
     | nil=>rfl
     | cons i l =>
       have F:i∈Region.ready .any ops.toArray b:=(by rw[J]; exact List.mem_cons_self);obtain⟨c,E,_,_⟩:=fK F;rw[T i E]at c; cases c
    refine⟨hnone,full ops f (y r),?_,h r _ D (fun j A => ?_) R⟩
    ·have:over ops f (y r) b=full ops f (y r):=by
      funext s
      unfold over full
      cases Z:writer ops s with
      | none=>rfl
      | some i=>simp only; rw[d_ (T i (nA Z).2)]
     exact this ▸ M
    ·unfold qh;rw[o_ A];exact T _ (RY j _ (o_ A)).1
  | succ O ih =>
    intro b a D r V Dm M R Y;have hcount : ∀ i,i∈Region.ready .any ops.toArray b -> ∀ N:List Nat,N=(List.range ops.length).filter (fun j => !(b.setIfInBounds i true).getD j false)->N.length=O:=by
     intro i F N aaS;obtain⟨c,E,_,_⟩:=fK F;subst aaS;have e:(List.range ops.length).filter (fun j => !(b.setIfInBounds i true).getD j false)=((List.range ops.length).filter (fun i => !b.getD i false)).erase i:=by
      rw[List.Nodup.erase_eq_filter (List.Nodup.sublist List.filter_sublist List.nodup_range),List.filter_filter];apply List.filter_congr;intro j A;by_cases e:i=j
      ·subst e; rw[set_self (by rw[V]; exact E)]; simp
      ·rw[ko e];have:(j != i)=true:=(by simp; exact fun q=>e q.symm);rw[this,Bool.true_and]
     rw[e,List.length_erase_of_mem (by simp only[List.mem_filter,P_]; exact⟨E,by rw[c]; rfl⟩),Y _ rfl];rfl
    refine⟨fun hnone => ?_,fun i F => ?_⟩
    ·exfalso;have hlen:=Y _ rfl;exact(by
      have : ∃ i,i∈Region.ready .any ops.toArray b:=by
       obtain⟨q,J⟩ : ∃ q,q∈(List.range ops.length).filter (fun i => !b.getD i false):=by
        cases hfe:(List.range ops.length).filter (fun i => !b.getD i false)with
        | nil=>rw[hfe]at hlen; cases hlen
        | cons q l=>exact⟨q,List.mem_cons_self⟩
       have Mr : ∀ m q,q<=m->q<ops.length->b.getD q false=false -> ∃ i,i<ops.length/\b.getD i false=false /\ ∀ j,j<i->b.getD j false=true:=by
        intro m
        induction m with
        | zero=>intro q hm B hq2; exact⟨q,B,hq2,fun j A=>by omega⟩
        | succ m ihm =>
          intro q hm B hq2;by_cases T : ∀ j,j<q->b.getD j false=true
          ·exact⟨q,B,hq2,T⟩
          ·obtain⟨j,A⟩:=Classical.not_forall.1 T;obtain⟨hj1,hj2⟩:=Classical.not_imp.1 A;exact ihm j (by omega) (by omega) (by simpa using hj2)
       simp only[List.mem_filter,P_]at J;obtain⟨i,t,hi1,hi2⟩:=Mr q q (A_ _) J.1 (by simpa using J.2);refine⟨i,mem_ready.2 ⟨getD_in (by rw[V]; exact t) hi1,opAt ops i,?_,fun e I hb=>hi2 e.on ((fG U t).2.2.2 e.on ?_)⟩⟩
       ·unfold opAt; rw[List.getElem?_toArray,r_,o_ t]; rfl
       ·unfold dG; rw[Array.any_eq_true']; exact⟨e,I,by rw[hb,Nat.beq_refl]; rfl⟩
      obtain⟨i,t⟩:=this;rw[hnone]at t; cases t)
    ·obtain⟨c,t,hop,T⟩:=fK F;have hsz':(b.setIfInBounds i true).size=ops.length:=(by simpa using V);have JX:=Dm.set F;have hev:=Oc (f:=f) U (v:=y r) F;have hae : ∀ x∈(opAt ops i).op.operands,a.eval x=ev (full ops f (y r)) x:=fun x G=>by rw[M.ev]; exact hev x G
     have hex:execOp a.eval (opAt ops i)=execOp (ev (full ops f (y r))) (opAt ops i):=execOp_congr _ (Region.noSelect_spec hsel i _ · · hop) hae;have hwant:Region.wanted (opAt ops i) (yielded ops.toArray a.tmps)=Region.wanted (opAt ops i) (yf ops.toArray (full ops f (y r))):=(by rw[M.yf]; exact CJ U F);have hpre : ∀ x∈X.getD i [],qh o b x.1=true:=fun x G=>by
      obtain⟨e,E,h3,H⟩:=hpr i t x G;unfold qh;rw[E]; exact QY F Dm h3 H
     have hpost : ∀ x∈po.getD i [],qh o b x.1=false:=fun x G=>by
      obtain⟨e,E,H⟩:=hpo i t x G;unfold qh;rw[E]
      cases hle:b.getD e false with
      | false=>exact hle
      | true =>
        obtain⟨mm,H⟩:=jc H;have:=Dm.reach _ _ H hle;rw[c]at this; cases this
     unfold wpOp;simp only[hop];rw[hwant];by_cases hne:o.contains i=true
     ·have hmem:i∈o:=(by simpa using hne);obtain⟨j,A⟩:=List.getElem?_of_mem hmem;have hg:=(RY j i A).2;have hjl:j<o.length:=(List.getElem?_eq_some_iff.1 A).1;rw[d_ (by unfold Region.wanted; rw[hg])];refine .inl<|I j i A r _ D a _ hpre hpost (by unfold qh; rw[A]; exact c) R hae fun p C hS' => ?_;have hsame:over ops f (y r) b=over ops f (y (ru r j p)) b:=by
       funext s
       unfold over
       cases Z:writer ops s with
       | none=>rfl
       | some q =>
         simp only
         cases hlq:b.getD q false
         ·rfl
         ·simp only[if_true];have hqi:=(nA Z).2;refine(hd q hqi j r p (fun x G e => ?_) (fun e => ?_) hjl).symm
          ·obtain⟨L,E,h3,H⟩:=hpr q hqi x G;obtain⟨mm,H⟩:=jc H;have h5:=Dm.reach _ _ H hlq;rw[e,A]at E;rw[<- C_ E,c]at h5; cases h5
          ·rw[A]at e;rw[<- C_ e,c]at hlq; cases hlq
      refine ih _ _ _ (ru r j p) hsz' JX ?_ ?_ (hcount i F)
      ·have:=(hsame ▸ M).put (d:=(opAt ops i).dst) (by
        cases hd:(opAt ops i).dst with
        | none=>rfl
        | some d=>simp[inn,Nat.blt_eq,((fG U t).1 d hd).2]) (y (ru r j p) i)
       rwa [Av U V t]at this
      ·have e:qh o (b.setIfInBounds i true)=VG (qh o b) j:=by
        funext q
        unfold VG
        cases hb:Nat.beq q j with
        | true =>
          have:=B_ hb;subst this;unfold qh;rw[A]; exact set_self (by rw[V]; exact t)
        | false =>
          have hqj:q≠j:=fun z=>by rw[z,Nat.beq_refl]at hb; cases hb
          unfold qh
          cases hqe:o[q]? with
          | none=>rfl
          | some L =>
            have:i≠L:=fun z=>by
             subst z;have h9:=List.getElem?_eq_some_iff.1 hqe;have h10:=List.getElem?_eq_some_iff.1 A;exact hqj ((List.getElem_inj hnd).1 (h9.2.trans h10.2.symm))
            exact ko this
       rw[e]; exact hS'
     ·have hne':o.contains i=false:=(by simpa using hne);have B:=J i t hne' r _ D hpre hpost R;have hfin : ∀ C,S (qh o b) r C->wpAny P .any ops.toArray (lift n Q) O (b.setIfInBounds i true) (a.put (opAt ops i).dst (y r i)) C:=fun C hS'=>by
       refine ih _ _ _ r hsz' JX ?_ ?_ (hcount i F)
       ·have:=M.put (d:=(opAt ops i).dst) (by
         cases hd:(opAt ops i).dst with
         | none=>rfl
         | some d=>simp[inn,Nat.blt_eq,((fG U t).1 d hd).2]) (y r i)
        rwa [Av U V t]at this
       ·have e:qh o (b.setIfInBounds i true)=qh o b:=by
         funext q
         unfold qh
         cases hqe:o[q]? with
         | none=>rfl
         | some L =>
           have:i≠L:=fun z=>by subst z; exact N_ (show o.contains i=true by simpa using List.mem_of_getElem? hqe) hne
           exact ko this
        rw[e]; exact hS'
      by_cases hwt:Region.wanted (opAt ops i) (yf ops.toArray (full ops f (y r)))=true
      ·rw[d_ hwt]at B ⊢;refine .inl ?_;unfold Oper.wp;rw[hex];generalize (execOp (ev (full ops f (y r))) (opAt ops i)).run P D=res at B
       cases res with
       | ok nx C =>
         cases nx <;> simp only[Oper.quietUpon]at B <;> simp only[Oper.upon]
         case value u=>obtain⟨e1,L⟩:=B; subst e1 L; exact hfin _ R
         case skip=>obtain⟨e1,L⟩:=B; subst e1; rw[<- L]; exact hfin _ R
         case enter g args =>
          obtain⟨e1,hc⟩:=B;subst e1;exact hc.mono fun e w'' ⟨he',hw''⟩=>by subst he'; exact hfin _ hw''
       | halt x C=>simp only[Oper.quietUpon]at B
      ·rw[b_ hwt]at B ⊢;rw[<- B];exact hfin _ R
 have hrep : ∀ i,(Array.replicate ops.toArray.size false).getD i false=false:=fun i=>by
  rw[Array.getD_eq_getD_getElem?];by_cases t:i<ops.length
  ·simp[t]
  ·simp[t]
 have hstart:over ops f (y r0) (Array.replicate ops.toArray.size false)=f:=by
  funext s
  unfold over
  cases writer ops s with
  | none=>rfl
  | some i=>simp only; rw[hrep]; simp
 have hdn:qh o (Array.replicate ops.toArray.size false)=fun _=>false:=by
  funext j
  unfold qh
  cases o[j]? with
  | none=>rfl
  | some e=>exact hrep e
 have:=key ops.toArray.size (Array.replicate ops.toArray.size false) a { w with drawn:=w.drawn+1 } r0 (by simp) (JJ.start _ _ _) (by rw[hstart]; exact M) (by rw[hdn]; exact h0 _ (Below.refl _ _).drew rfl) (fun N Y=>by
  subst Y;rw[List.filter_eq_self.2 (fun i _=>by rw[hrep]; rfl)];simp)
 simpa using this
theorem eB{r:Gh}{k j:Nat}{p:Nat × Nat}(h:j≠k):ru r k p j=r j:=by
 unfold ru;have:Nat.beq j k=false:=by
  cases hq:Nat.beq j k
  ·rfl
  ·exact N_ (B_ hq) h
 rw[this]; rfl
theorem Lb{o:Oper}{ρ:Operand->Value}{T:TypeId}{m:Nat}{z:Nat->Value}(d:o.op = .alloc T)(e:((P.info? T).bind (·.zero)).map (·.cells)=some (aA m z))(a:World) : ∃ b,(execOp ρ o).run P a = .ok (.value (.pointer (some ⟨a.heap.size,0,none⟩))) b/\aQ b a.heap.size m z T/\Stp a.heap.size a b:=by
 obtain⟨i,f,g⟩:=Option.map_eq_some_iff.1 e;obtain⟨j,c,h⟩:=Option.bind_eq_some_iff.1 f;refine⟨a.alloc (.cells i.cells T),?_,?_,Stp.alloc _ _⟩
 ·unfold execOp;simp[d,Instr.alloc,zeroValue,typeInfo,c,h,newVar,newRow]
 show(a.alloc _).heap[a.heap.size]? = _;rw[alloc_at,d_ rfl,g]
theorem Lc{o:Oper}{ρ:Operand->Value}{T T':TypeId}{a v:Operand}{m g:Nat}{x y:Nat->Value}{u:Value}(A:o.op = .store T' a v)(l:(P.info? T').map (·.size)=some m)(n:ρ a = .pointer (some ⟨g,0,none⟩))(p:ρ v=u)(D:u.cells=aA m y)(h1 : ∀ j,j<m->(y j).oneCell'=true){b:World}(t:aQ b g m x T) : ∃ d,(execOp ρ o).run P b = .ok .skip d/\aQ d g m y T/\Stp g b d:=by
 have h:b.heap[g]? = some (.cells (aA m x) T (0,0)):=t;have s:(aA m y).all (·.oneCell')=true:=by
  rw[Array.all_eq_true_iff_forall_mem];intro q B;obtain⟨j,i,z⟩:=Array.getElem_of_mem B;have k:j<m:=by simpa [bY] using i
  have e:=gI y k;rw[Array.getElem?_eq_getElem i,z]at e;rw[C_ e]; exact h1 j k
 have C:(storeVar T' ⟨g,0,none⟩ u).run P b = .ok () (b.setRow g (aA m y)):=by
  have f:=run_storeCells_at (P:=P) g 0 T (aA m y).toList 0 (aA m x) b h (by simp[bY]) (fun q c=>(Array.all_eq_true_iff_forall_mem.1 s) q (by simpa using c));have r:((aA m x).toList.take (0+0)++(aA m y).toList++(aA m x).toList.drop (0+0+(aA m y).toList.length)).toArray=aA m y:=by
   rw[List.drop_eq_nil_of_le (by simp[bY])]; simp
  rw[r]at f
  cases c:P.info? T' with
  | none=>simp[c]at l
  | some ti =>
    have E:ti.size=m:=(by simp[c]at l; omega);simp only[storeVar,sizeOf,typeInfo,Sem.run_bind,run_program,c,D,bY,E,ne_eq,not_true_eq_false,if_false,Result.andThen_ok,Sem.run_pure,f]
 obtain⟨F,G,H⟩:=zG (w:=b) (cs:=aA m y) h;refine⟨_,?_,G,F⟩;unfold execOp;simp only[A,n,p,Instr.storeAt,Instr.sureAddr,Sem.run_bind,Sem.run_pure,Result.andThen_ok,C]
def Cj(c d:Nat)(vs:Array Value)(a b:Nat):Nat->Value:=fun i=>bif Nat.beq i c then .pointer (some ⟨a,0,none⟩)else bif Nat.beq i d then .pointer (some ⟨b,0,none⟩)else vs.getD i undef
def Js(ops:List Oper)(f:Nat->Value)(c d:Nat)(vs:Array Value)(a b:Nat):Nat->Value:=full ops f (Cj c d vs a b)
structure YS(w:World)(m1 m2:Nat)(z1 y1 z2 y2:Nat->Value)(T1 T2:TypeId)(m:Nat->Bool)(r:Gh)(v:World):Prop where
 b:Below w.heap.size w v
 a:m 0=true->w.heap.size<=(r 0).1/\aQ v (r 0).1 m1 (if m 2=true then y1 else z1) T1
 c:m 1=true->w.heap.size<=(r 1).1/\aQ v (r 1).1 m2 (if m 3=true then y2 else z2) T2
 ne:m 0=true->m 1=true->(r 0).1≠(r 1).1
theorem YS.up{m1 m2:Nat}{z1 y1 z2 y2:Nat->Value}{T1 T2:TypeId}{m:Nat->Bool}{r:Gh}{v e:World}(h:YS w m1 m2 z1 y1 z2 y2 T1 T2 m r v)(d:Below v.heap.size v e):YS w m1 m2 z1 y1 z2 y2 T1 T2 m r e :=
 ⟨Iw h.b d,fun q=>⟨(h.a q).1,(h.a q).2.cZ (Sb d) (u_ (h.a q).2.lt)⟩,fun q=>⟨(h.c q).1,(h.c q).2.cZ (Sb d) (u_ (h.c q).2.lt)⟩,h.ne⟩
def Nz(P:Program)(a:Nat->Value)(ops:Array Oper)(w:World)(b:List Nat)(vs:Array Value):List Oper->Nat->Prop
 | [],_=>True
 | o::l,i=>(b.contains i=true\/(if Region.wanted o (yf ops a)then QB P (ev a) o w (vs.getD i undef)else vs.getD i undef=undef))/\Nz P a ops w b vs l (i+1)
theorem H6{a:Nat->Value}{c:Array Oper}{b:List Nat}{vs:Array Value} : ∀ {l:List Oper} {k:Nat},Nz P a c w b vs l k -> ∀ i,i<l.length->(b.contains (k+i)=true\/(if Region.wanted (opAt l i) (yf c a)then QB P (ev a) (opAt l i) w (vs.getD (k+i) undef)else vs.getD (k+i) undef=undef))
 | [],_,_,i,hi=>N_ hi (by simp)
 | o::l,k,h,0,_=>h.1
 | o::l,k,h,i+1,hi=>by
   have:=H6 h.2 i (by simpa using hi)
   rwa [show k+1+i=k+(i+1) by omega]at this
theorem FC{i j:Nat}(h:i≠j):Nat.beq i j=false:=by
 cases hq:Nat.beq i j
 ·rfl
 exact N_ (B_ hq) h
def Ck(l:QX)(j:Nat):Bool:=l.any fun x=>Nat.beq x.1 j
theorem wT{l:QX}{j:Nat}(h:Ck l j=true) : ∃ x∈l,x.1=j:=by
 unfold Ck at h;rw[List.any_eq_true]at h;obtain⟨x,a,b⟩:=h;exact⟨x,a,B_ b⟩
theorem Jt{id:Nat}{T1 T2 T1' T2':TypeId}{a1 v1 a2 v2:Operand}{m1 m2:Nat}{z1 y1 z2 y2:Nat->Value}{u1 u2:Value}(k l y z:Nat)(O N:List QX)(vs:Array Value)(hm:P.follows .mixedOrders=true)(hok:lV n ops=true)(hsel:Region.noSelect ops.toArray=true)(VH:Ny ops [k,l,y,z] O N=true)
 (hes : [k,l,y,z].all (fun e=>Nat.blt e ops.length&&(match (opAt ops e).guard with|none=>true|_=>false))=true) (hnd:decide [k,l,y,z].Nodup=true)
 (hw1:Ck (O.getD y []) 0=true) (hw2:Ck (O.getD z []) 1=true) (hw3:Ck (N.getD k []) 2=true) (hw4:Ck (N.getD l []) 3=true)
 (o1:(opAt ops k).op = .alloc T1) (o2:(opAt ops l).op = .alloc T2) (n1:((P.info? T1).bind (·.zero)).map (·.cells)=some (aA m1 z1)) (n2:((P.info? T2).bind (·.zero)).map (·.cells)=some (aA m2 z2))
 (V:(opAt ops y).op = .store T1' a1 v1) (X:(opAt ops z).op = .store T2' a2 v2) (Y:(opAt ops y).dst=none) (Z:(opAt ops z).dst=none) (e1:(P.info? T1').map (·.size)=some m1) (e2:(P.info? T2').map (·.size)=some m2)
 (ha1 : ∀ o s,ev (Js ops f k l vs o s) a1 = .pointer (some ⟨o,0,none⟩)) (ha2 : ∀ o s,ev (Js ops f k l vs o s) a2 = .pointer (some ⟨s,0,none⟩)) (hv1 : ∀ o s,ev (Js ops f k l vs o s) v1=u1) (hv2 : ∀ o s,ev (Js ops f k l vs o s) v2=u2)
 (hu1:u1.cells=aA m1 y1) (hu2:u2.cells=aA m2 y2) (h11 : ∀ j,j<m1->(y1 j).oneCell'=true) (h12 : ∀ j,j<m2->(y2 j).oneCell'=true)
 (hq : ∀ o s,Nz P (Js ops f k l vs o s) ops.toArray w [k,l,y,z] vs ops 0)
 (h : ∀ o s F f',f'=Js ops f k l vs o s->w.heap.size<=o->w.heap.size<=s->o≠s->aQ F o m1 y1 T1->aQ F s m2 y2 T2->Below w.heap.size w F->Q .normal f' F):W P n (.region id ops.toArray true) Q f w:=by
 have hn:=h_ hnd;simp only[List.nodup_cons,List.mem_cons,List.not_mem_nil,or_false,not_or]at hn;obtain⟨⟨x12,x1s,x1t⟩,⟨x2s,x2t⟩,xst,_⟩:=hn;refine W.masks [k,l,y,z] O N (fun r=>Cj k l vs (r 0).1 (r 1).1) (YS w m1 m2 z1 y1 z2 y2 T1 T2) hm hok hsel VH hes (h_ hnd) (fun _=>(0,0)) (fun w1 A _=>⟨A,fun h=>(nomatch h),fun h=>(nomatch h),fun h=>(nomatch h)⟩) ?_ ?_ ?_ ?_
 ·intro i hi U r m v _ _ d
  rcases H6 (hq (r 0).1 (r 1).1) i hi with h2|h2
  ·rw[H_]at h2; rw[h2]at U; cases U
  rw[H_]at h2;have hni':i≠k/\i≠l/\i≠y/\i≠z:=by simpa using U
  have I:Cj k l vs (r 0).1 (r 1).1 i=vs.getD i undef:=by unfold Cj; rw[FC hni'.1,FC hni'.2.1]; rfl
  show if Region.wanted (opAt ops i) (yf ops.toArray (Js ops f k l vs (r 0).1 (r 1).1))then Oper.quietUpon P _ v (Cj k l vs (r 0).1 (r 1).1 i) ((execOp (ev (Js ops f k l vs (r 0).1 (r 1).1)) (opAt ops i)).run P v)else Cj k l vs (r 0).1 (r 1).1 i=undef;rw[I];by_cases hw:Region.wanted (opAt ops i) (yf ops.toArray (Js ops f k l vs (r 0).1 (r 1).1))=true
  ·rw[d_ hw]at h2 ⊢
   rcases h2 v d.b with h3|⟨g,args,h3,h4⟩
   ·rw[h3]; exact⟨rfl,rfl⟩
   rw[h3]; exact⟨rfl,h4.mono fun e w2 ⟨he,hb2⟩=>⟨he,d.up hb2⟩⟩
  rw[b_ hw]at h2 ⊢; exact h2
 ·intro j i t r m v a K hpr hpo hmj d B L
  match j,t with
  | 0,t =>
    obtain rfl:k=i:=(by simpa using t);obtain⟨v2,E,A,u⟩:=Lb (ρ:=a.eval) o1 n1 v;unfold Oper.wp;rw[E];obtain⟨x,C,D⟩:=wT hw3;have hm2:m 2=false:=(by rw[<- D]; exact hpo x C);have:=L (v.heap.size,0) v2 ⟨Iw d.b u.old,fun _=>by
     rw[oM];exact⟨d.b.size,by show aQ v2 v.heap.size m1 (if m 2=true then y1 else z1) T1; rw[hm2]; exact A⟩,fun q=>by
     have q:m 1=true:=q;rw[eB (by decide)];exact⟨(d.c q).1,(d.c q).2.cZ u (u_ (d.c q).2.lt)⟩,fun _ q=>by
     have q:m 1=true:=q;rw[oM,eB (by decide)];exact Nat.ne_of_gt (d.c q).2.lt⟩
    have I:Cj k l vs (ru r 0 (v.heap.size,0) 0).1 (ru r 0 (v.heap.size,0) 1).1 k = .pointer (some ⟨v.heap.size,0,none⟩):=(by unfold Cj; rw[Nat.beq_refl,oM]; rfl);rw[I]at this;exact this
  | 1,t =>
    obtain rfl:l=i:=(by simpa using t);obtain⟨v2,E,A,u⟩:=Lb (ρ:=a.eval) o2 n2 v;unfold Oper.wp;rw[E];obtain⟨x,C,D⟩:=wT hw4;have hm3:m 3=false:=(by rw[<- D]; exact hpo x C);have:=L (v.heap.size,0) v2 ⟨Iw d.b u.old,fun q=>by
     have q:m 0=true:=q;rw[eB (by decide)];exact⟨(d.a q).1,(d.a q).2.cZ u (u_ (d.a q).2.lt)⟩,fun _=>by
     rw[oM];exact⟨d.b.size,by show aQ v2 v.heap.size m2 (if m 3=true then y2 else z2) T2; rw[hm3]; exact A⟩,fun q _=>by
     have q:m 0=true:=q;rw[oM,eB (by decide)];exact u_ (d.a q).2.lt⟩
    have I:Cj k l vs (ru r 1 (v.heap.size,0) 0).1 (ru r 1 (v.heap.size,0) 1).1 l = .pointer (some ⟨v.heap.size,0,none⟩):=(by unfold Cj; rw[FC (fun e=>x12 e.symm),Nat.beq_refl,oM]; rfl);rw[I]at this;exact this
  | 2,t =>
    obtain rfl:y=i:=(by simpa using t);obtain⟨x,C,D⟩:=wT hw1;have G:m 0=true:=(by rw[<- D]; exact hpr x C);have R:a.eval a1 = .pointer (some ⟨(r 0).1,0,none⟩):=(B a1 (by rw[V]; simp[Op.operands])).trans (ha1 (r 0).1 (r 1).1);have S:a.eval v1=u1:=(B v1 (by rw[V]; simp[Op.operands])).trans (hv1 (r 0).1 (r 1).1);obtain⟨J,E,A,u⟩:=Lc V e1 R S hu1 h11 (d.a G).2;unfold Oper.wp;rw[E];show K (a.put (opAt ops y).dst undef) _;rw[Y];have:=L (0,0) J ⟨u.below d.b d.b.size (d.a G).1,fun _=>by
     rw[eB (by decide)];exact⟨(d.a G).1,by show aQ J (r 0).1 m1 (if VG m 2 2=true then y1 else z1) T1; exact A⟩,fun q=>by
     have q:m 1=true:=q;rw[eB (by decide)];exact⟨(d.c q).1,(d.c q).2.cZ u (fun e=>d.ne G q e.symm)⟩,fun _ q=>by
     have q:m 1=true:=q;rw[eB (by decide),eB (by decide)];exact d.ne G q⟩
    rw[Y]at this;exact this
  | 3,t =>
    obtain rfl:z=i:=(by simpa using t);obtain⟨x,C,D⟩:=wT hw2;have H:m 1=true:=(by rw[<- D]; exact hpr x C);have R:a.eval a2 = .pointer (some ⟨(r 1).1,0,none⟩):=(B a2 (by rw[X]; simp[Op.operands])).trans (ha2 (r 0).1 (r 1).1);have S:a.eval v2=u2:=(B v2 (by rw[X]; simp[Op.operands])).trans (hv2 (r 0).1 (r 1).1);obtain⟨J,E,A,u⟩:=Lc X e2 R S hu2 h12 (d.c H).2;unfold Oper.wp;rw[E];show K (a.put (opAt ops z).dst undef) _;rw[Z];have:=L (0,0) J ⟨u.below d.b d.b.size (d.c H).1,fun q=>by
     have q:m 0=true:=q;rw[eB (by decide)];exact⟨(d.a q).1,(d.a q).2.cZ u (d.ne q H)⟩,fun _=>by
     rw[eB (by decide)];exact⟨(d.c H).1,by show aQ J (r 1).1 m2 (if VG m 3 3=true then y2 else z2) T2; exact A⟩,fun q _=>by
     have q:m 0=true:=q;rw[eB (by decide),eB (by decide)];exact d.ne q H⟩
    rw[Z]at this;exact this
  | j+4,t=>simp at t
 ·intro i hi j r p C hne hjl;have t:j=0\/j=1\/j=2\/j=3:=by simp at hjl; omega
  show Cj k l vs (ru r j p 0).1 (ru r j p 1).1 i=Cj k l vs (r 0).1 (r 1).1 i;unfold Cj
  rcases t with rfl|rfl|rfl|rfl
  ·have:i≠k:=fun e=>hne (by rw[e]; rfl);rw[FC this]; simp only[cond_false]; rw[eB (by decide)]
  ·have:i≠l:=fun e=>hne (by rw[e]; rfl);rw[FC this]; simp only[cond_false]; rw[eB (by decide)]
  ·rw[eB (by decide),eB (by decide)]
  rw[eB (by decide),eB (by decide)]
 intro r m F M d;have m0:=M 0 (by simp); have m1':=M 1 (by simp); have m2':=M 2 (by simp); have m3:=M 3 (by simp);have B:=d.a m0; have T:=d.c m1';rw[m2']at B; rw[m3]at T;exact h (r 0).1 (r 1).1 F _ rfl B.1 T.1 (d.ne m0 m1') B.2 T.2 d.b
end
end Fx
end Go.Proofs.YtahbiajdgealnaaGreatDoor
namespace Go.Proofs.YtahbiajdgealnaaGreatDoor
open Go.RowKit Rt
open Fx (bF Lv sN Ln Ws Rp Wr Sb Wk rC sR Rs Rn Rk Jt gZ uM rv aA aQ aM ev Stp aU Mp iR jT cells_one)
namespace Rt
def nG(v:EvM):Int:=1099511627776*v.o+v.seq
def iY(m:dU)(v:EvM):Int:=if 5<=m.own (aO v)\/140737488355328<v.aS then 6 else m.T.err (nG v) v.node
def Da(m:dU)(v:EvM):dU := { m with T:=m.T.put (nG v) v.node,R:=aM m.R m.T.n (upd (fun _=>0) (aO v) v.aS),own:=aI m.own (aO v) (m.own (aO v)+1) }
theorem VI{T:dJ}{pa:Int}{id:Int}{w:World}{b n:Nat}{x:Nat->Int}(h:Mp w b n x (aM (DC T) T.n (aD pa))):Mp w b n x (DC (T.put id pa)):=h.uR fun i _=>⟨rfl,by show aM (DC T) T.n _ i=aD (aM T.p T.n pa i); unfold aM DC; split <;> rfl⟩
theorem YT{R:Nat->Nat->Int}{j n b:Nat}{r:Nat->Int}{x:Nat->Int}{w:World}(h:Mp w b n x (aM (wS R) j (.agg (aA 54 (rv .i64 r))))):Mp w b n x (wS (aM R j r)):=Ee _ _ _ _ h
end Rt
theorem ahK(o q:Int)(w:World)(b:1<=o/\o<=6)(c:1<=q/\q<1099511627776):Calls Tryz.prog 169 #[au o,aD q] w fun e a=>e = .returned (aD (1099511627776*o+q))/\a=w:=by
 have h:=aoq o.toNat q.toNat w (by omega) (by omega);rw[show((o.toNat:Nat):Int)=o by omega,show((q.toNat:Nat):Int)=q by omega]at h;exact h
theorem VJ(m:dU)(b B:Nat)(w:World)(h:mD w B b m)(v:EvM)(hv:bR v=true)(J:m.T.err (nG v) v.node=0)(a:Nat)(ha:a<6)(hra:aO v=a)(hob:0<=m.own a/\m.own a<=1000)(hid:0<=nG v/\nG v<=18446744073709551615)(I:Nat)(G:Nat)(l:Nat)(H:Nat)(S:aQ w I 1 (fun _=>(pt b)) 37)(hi:aQ w G 1 (fun _=>aD (nG v)) 28)(P:aQ w l 14 (bU v) 32)(Q:aQ w H 1 (fun _=>au (a:Int)) 3) :
 Calls Tryz.prog 171 #[(pt I),(pt G),(pt l),(pt H)] w fun e w'=>e = .returned (.tuple #[])/\mD w' B b (Da m v)/\jT (Fv m b) w w':=by
 have hC:=h.c;have hT:=h.t;have hP:=h.p;have hR:=h.r;have hG:=h.g;have hA:=h.a;have d:=h.ne;have lC:=h.c.lt;have lT:=h.t.lt;have lP:=h.p.lt;have lR:=h.r.lt;have lG:=h.g.lt;have lA:=h.a.lt;have ZX:=S.lt;have lgi:=hi.lt;have lge:=P.lt;have lgk:=Q.lt;have U : ∀ i,i<m.T.n->m.T.x i≠nG v:=fun i hi e=>by have:=(Ey J).2.1; rw[jX hi e]at this; cases this
 refine Kent Tryz.func171 42 ?_;refine Ws ?_;refine jV [5,0,1,2,3,4,6,7] [4,0,0,4,4,0,4,3] [(7,0,[3,2,1,0]),(7,3,[3]),(7,4,[4]),(7,6,[6])] fun pQ K iG => ?_;have s1:Stp w.heap.size w pQ:=Sb K;have⟨W,m2,m3,m4,m5,m6,m7,m8,m9,m10⟩:=uQ K hC hT hP hR hG hA S hi P Q;have b1:=(uM (Fv m b) w).then s1 (.inr (uM (Fv m b) w).size);refine bf (pf l 9)<|Rs (pt b) (aL m7.aH 0) ?_;refine bf (pt b)<|bf (pf b 18)<|Rs (pt m.tp) (aL W.aH 18) ?_;refine Rs (aD (nG v)) (aL m8.aH 0) ?_;refine Rs (aD v.node) (aL m9.aH 9) ?_;refine gQ<|dZ (Kq (nG v) v.node m2 hid) _ rfl ?_;rintro y ⟨m11,s2⟩;have j:=m2.BF s2;have m12:=W.dQ j;have m13:=m3.dQ j (Ne.symm d.mp);have m14:=m4.dQ j (Ne.symm d.mr);have m15:=m5.dQ j (Ne.symm d.mg);have m16:=m6.dQ j (Ne.symm d.ma);have m17:=m7.dQ j;have m18:=m8.dQ j;have m19:=m9.dQ j;have m20:=m10.dQ j;have C:=b1.then s2 (.inl (.inr (.inl rfl)));have m21:sF y B m.tp m.mb (m.T.put (nG v) v.node):=by rw[<- dJ.Ef J]; exact m11
 refine Ln<|bS<|Ws ?_;refine jV [5,0,1,2,3,4,6,7] [4,0,0,4,4,0,4,3] [(7,0,[0]),(7,3,[3]),(7,4,[4]),(7,6,[6])] fun CP M nO => ?_;have s3:Stp y.heap.size y CP:=Sb M;have⟨m22,m23,m24,nk,og,oh,om,nI,oF,lX⟩:=uQ M m12 m13 m14 m15 m16 m17 m18 m19 m20 m21;have b3:=C.then s3 (.inr C.size);refine bf (pf l 9)<|Rs (pt b) (aL oh.aH 0) ?_;refine bf (pt b)<|bf (pf b 19)<|Rs (.map (some m.pb)) (aL m22.aH 19) ?_;refine Rs (aD (nG v)) (aL om.aH 0) ?_;refine Rs (aD v.node) (aL nI.aH 9) ?_;refine gQ<|Fx.L.PZ (by rfl) rfl rfl rfl rfl rfl m23 Tryz.underlying100 Tryz.underlying28 U fun z m32 s4 z1 => ?_;have k:=m23.BF s4;have pR:=m22.dQ k;have nQ:=m24.dQ k (Ne.symm d.pr);have oq:=nk.dQ k (Ne.symm d.pg);have pU:=og.dQ k (Ne.symm d.pa);have qQ:=oh.dQ k;have qR:=om.dQ k;have oP:=nI.dQ k;have rQ:=oF.dQ k;have nJ:=lX.dQ k (d.mp);have D:=b3.then s4 (.inl (.inr (.inr (.inl rfl))));have mO:Mp z m.pb ((m.T.put (nG v) v.node).n) ((m.T.put (nG v) v.node).x) (DC (m.T.put (nG v) v.node)):=VI m32;refine Ln<|bS<|Ws ?_;refine jV [0,2,3,7,8,1,4,5,6,9,10] [4,4,0,0,0,4,0,0,0,0,3] [(10,0,[0]),(10,1,[1]),(10,5,[5])] fun Rv N AJ => ?_;have s5:Stp z.heap.size z Rv:=Sb N;have⟨s,sZ,rR,nR,sw,vL,rA,qU,uU,tV⟩:=uQ N pR nQ oq pU qQ qR oP rQ nJ mO;have b5:=D.then s5 (.inr D.size);refine Rs (pt b) (aL sw.aH 0) ?_;refine bf (pt b)<|bf (pf b 21)<|bf (pt b)<|bf (pf b 21)<|Rs (au a) (aL qU.aH 0) ?_;refine Rp (pf b (a+21)) (fun _=>jC 6 1)<|Rs (au (m.own a)) (aL s.aH (a+21) (Jo (p:=a) (by omega) (by omega))) ?_;refine Rp (au ((m.own a)+1)) (fun _=>eO)<|Rp (pf b (a+21)) (fun _=>jC 6 1)<|gQ<|jd s (a+21) (au ((m.own a)+1)) fun w3 rD s6 z2 => ?_;have rE:aQ w3 b 29 (vE { m with own:=aI m.own a (m.own a+1) }) 106:=rD.to (YH ha (by omega) _);have fV:=gZ s6 s.ty;have⟨tu,qV,qw,qx,xD,qF,vM,oo,tC⟩:=abk fV sZ rR nR sw vL rA qU uU tV;have q:=b5.then s6 (.inl (.inl rfl));refine Ln<|bS<|ay<|av (.agg (aA 54 (rv .i64 (fun _=>0))))<|uh 54 (rv .i64 (fun _=>0)) fun o w4 F u s7 z3 => ?_;have⟨wB,vN,wC,wD,tF,uI,uV,xq,vO,yN⟩:=uQ s7.old tu qV qw qx xD qF vM oo tC rE;have b7:=q.then s7 (.inr q.size);have V:=iV F q.size;have⟨aoE,aoF,aoG,aoH,aoI,aoJ,aoK,aoL,aoM⟩:=XH F tu.lt qV.lt qw.lt qx.lt xD.lt qF.lt vM.lt tC.lt rE.lt;have uq:=u.lt;refine fA u 0 fun w5 uW s8 z4 => ?_;have xE:aQ w5 o 54 (rv .i64 (fun _=>0)) 59:=aU uW;have jJ:=gZ s8 u.ty;have⟨xW,xX,xu,xG,wE,xY,zM,xZ,AO,AP⟩:=Oj jJ wB vN wC wD tF uI uV xq vO yN;have b8:=b7.then s8 (.inr V);refine aC<|ay<|Lv (au a) (aL zM.aH 0)<|av (pf l 11)<|Lv (au v.aS) (aL xY.aH 11)<|av (pt o)<|Lv (pf o a) (jC 6 1)<|jd xE a (au v.aS) fun A Aj s9 z5 => ?_;have zN:aQ A o 54 (rv .i64 (upd (fun _=>0) a v.aS)) 59:=Aj.to (Fx.tK _ _ _ _);have qE:=gZ s9 xE.ty;have⟨zO,AQ,ED,Dy,BO,CV,zS,F5,D6,F6⟩:=Oj qE xW xX xu xG wE xY zM xZ AO AP;have E:=b8.then s9 (.inr V);refine aC ?_;refine jV [0,1,2,3,4,5,6] [4,0,0,4,4,4,3] [(6,0,[0]),(6,3,[3]),(6,4,[4]),(6,5,[5])] fun wt4 O GL => ?_;have s10:Stp A.heap.size A wt4:=Sb O;have⟨Gf,wM,yg,X,Y,pY,oZ,qJ,qb,Z,aa⟩:=Et O zO AQ ED Dy BO CV zS F5 D6 F6 zN;have b10:=E.then s10 (.inr E.size);refine Rs (pt b) (aL X.aH 0) ?_;refine bf (pt b)<|bf (pf b 20)<|Rs (.map (some m.rb)) (aL Z.aH 20) ?_;refine Rs (aD (nG v)) (aL Y.aH 0) ?_;refine Rs (.agg (aA 54 (rv .i64 (upd (fun _=>0) a v.aS)))) (fP aa.aH 0) ?_;refine gQ<|Fx.L.PZ (by rfl) rfl rfl rfl rfl rfl Gf Tryz.underlying101 Tryz.underlying28 U fun w7 vg s11 z6 => ?_;have f:=Gf.BF s11;have rH:=wM.dQ f (Ne.symm d.rg);have uy:=yg.dQ f (Ne.symm d.ra);have zf:=X.dQ f;have vk:=Y.dQ f;have zh:=pY.dQ f;have BP:=oZ.dQ f;have xH:=qJ.dQ f (d.mr);have uz:=qb.dQ f (d.pr);have qK:=Z.dQ f;have yh:=aa.dQ f;have b11:=b10.then s11 (.inl (.inr (.inr (.inr (.inl rfl)))));have yj:Mp w7 m.rb ((m.T.put (nG v) v.node).n) ((m.T.put (nG v) v.node).x) (wS (aM m.R m.T.n (upd (fun _=>0) a v.aS))):=YT vg;refine Ln (Rn (⟨.tuple #[],iR Tryz.results171,?_⟩));unfold Da; rw[hra];exact⟨rfl,{ c:=qK,t:=xH,p:=uz,r:=yj,g:=rH,a:=uy,ne:=⟨d.mp,d.mr,d.mg,d.ma,d.pr,d.pg,d.pa,d.rg,d.ra,d.ga⟩,lB:=h.lB,pB:=h.pB,rB:=h.rB,gB:=h.gB,aB:=h.aB },b11⟩
theorem YU(m:dU)(j B:Nat)(w:World)(h:mD w B j m)(v:EvM)(L:bR v=true)(ab : ∀ a,a<6->0<=m.own a/\m.own a<=1000) :
 Calls Tryz.prog 162 #[(pt j),.agg (aA 14 (bU v))] w fun e w'=>Ry w B j m (Da m v) (iY m v) e w':=by
 have Z:=h.c;have hT:=h.t;have hP:=h.p;have hR:=h.r;have hG:=h.g;have hA:=h.a;have hN:=h.ne;have lC:=h.c.lt;have lT:=h.t.lt;have lP:=h.p.lt;have lR:=h.r.lt;have lG:=h.g.lt;have lA:=h.a.lt;obtain⟨a,J,ho⟩ : ∃ a:Nat,a<6/\v.o=(a:Int)+1:=fH (iP L);have A:aO v=a:=by unfold aO; omega
 have hbd:=nX L;have aa:0<=nG v/\nG v<=18446744073709551615:=by unfold nG; omega
 have hoa:=ab a J;refine Kent Tryz.func162 38 ?_;refine ay<|yZ (pt j) fun n w1 X M s1 z1 => ?_;have⟨m2,U⟩:=fD s1.old Z (Below.refl w.heap.size w);have sU:=ig X;have nP:=bZ X Z.lt;have uq:=M.lt;refine qD fun b w2 Y l s2 z2 => ?_;have⟨P,Q,H⟩:=jw s2.old m2 M U;have pV:=iV Y U.size;have⟨ahs,Um⟩:=vY Y m2.lt M.lt;have zy:=l.lt;refine av (.nilFunc)<|av (au 0)<|aC<|Ws ?_;refine Jt (T1:=28) (T2:=3) (T1':=28) (T2':=3) (a1 := .tmp 6) (v1 := .tmp 13) (a2 := .tmp 7) (v2 := .tmp 16) (m1:=1) (m2:=1) (z1:=rv .u64 (fun _=>0)) (y1:=fun _=>aD (nG v)) (z2:=rv .i64 (fun _=>0)) (y2:=fun _=>au (a:Int)) (u1:=aD (nG v)) (u2:=au (a:Int)) 8 9 10 11 [[],[],[],[],[],[],[],[],[],[],[(0,[8]),(1,[9])],[(0,[8]),(1,[9]),(2,[10])]] [[(2,[0]),(3,[0])],[(2,[1]),(3,[1])],[(2,[2]),(3,[2])],[(2,[3]),(3,[3])],[(2,[4]),(3,[4])],[(3,[5])],[(3,[6])],[(3,[7])],[(2,[8]),(3,[8])],[(2,[9]),(3,[9])],[(3,[10])],[]] #[(pt b),au v.o,(pf b 1),aD v.seq,aD (nG v),(pt b),au v.o,au (a:Int),undef,undef,undef,undef] (by kernel_rfl) (by kernel_rfl) (by kernel_rfl) (by kernel_rfl) (by kernel_rfl) (by kernel_rfl) (by kernel_rfl) (by kernel_rfl) (by kernel_rfl) (by kernel_rfl) rfl rfl (by kernel_rfl) (by kernel_rfl) rfl rfl rfl rfl (by kernel_rfl) (by kernel_rfl) (fun d f=>(show ev _ (.tmp 6)=(pt d)from by kernel_rfl)) (fun d f=>(show ev _ (.tmp 7)=(pt f)from by kernel_rfl)) (fun d f=>(show ev _ (.tmp 13)=aD (nG v)from by kernel_rfl)) (fun d f=>(show ev _ (.tmp 16)=au (a:Int)from by kernel_rfl)) (cells_one (by rfl)) (cells_one (by rfl)) (fun _ _=>rfl) (fun _ _=>rfl) (fun d f => ?_) ?_
 ·refine⟨?_,?_,?_,?_,?_,?_,?_,?_,?_,?_,?_,?_,trivial⟩
  ·exact .inr oD
  ·exact .inr (nC (au v.o) fun E q=>bF (x:=bU v) rfl (show ev _ (.tmp 9)=(pt b)from by kernel_rfl) (by kernel_rfl) (l.aH.below q (by have:=l.lt; omega)) (i:=0) (by omega) (by omega) rfl)
  ·exact .inr oD
  ·exact .inr (nC (aD v.seq) fun E q=>bF (x:=bU v) rfl (show ev _ (.tmp 11)=(pf b 1)from by kernel_rfl) (by kernel_rfl) (l.aH.below q (by have:=l.lt; omega)) (i:=1) (by omega) (by omega) rfl)
  ·exact .inr (Fx.Ep (v:=aD (nG v)) (by kernel_rfl) (by kernel_rfl) (Fx.qbC (fun E q=>rC (args := [au v.o,aD v.seq]) rfl (Fx.args2 (show ev _ (.tmp 10)=au v.o from by kernel_rfl) (show ev _ (.tmp 12)=aD v.seq from by kernel_rfl)) Tryz.func169 rfl rfl) (fun E q=>(ahK v.o v.seq _ (by omega) (by omega)).mono fun e v2 h=>⟨h.1,(by rw[h.2]; exact Below.refl _ _)⟩)))
  ·exact .inr oD
  ·exact .inr (nC (au v.o) fun E q=>bF (x:=bU v) rfl (show ev _ (.tmp 14)=(pt b)from by kernel_rfl) (by kernel_rfl) (l.aH.below q (by have:=l.lt; omega)) (i:=0) (by omega) (by omega) rfl)
  ·exact .inr (nC (au a) fun E q=>Fx.RJ rfl (show ev _ (.tmp 15)=au v.o from by kernel_rfl) (show ev _ (.const (au 1))=au 1 from by kernel_rfl) Fx.io)
  ·exact .inl rfl
  ·exact .inl rfl
  ·exact .inl rfl
  exact .inl rfl
 rintro d f w3 y u C D ne1 m6 m7 hb1;have atj:j≠d:=u_ (n_ (P.lt) C);have agw:n≠d:=u_ (n_ (Q.lt) C);have atl:b≠d:=u_ (n_ (l.lt) C);have atm:j≠f:=u_ (n_ (P.lt) D);have atn:n≠f:=u_ (n_ (Q.lt) D);have ato:b≠f:=u_ (n_ (l.lt) D);have⟨m8,m9,m10,b3⟩:=kR hb1 P Q l H;have C:w.heap.size<=d:=m_ H.size C;have I4:=m6.lt;have D:w.heap.size<=f:=m_ H.size D;have Rx:=m7.lt;have R:y 2=(pt n):=by rw[u]; kernel_rfl
 have S:y 3=(pt b):=by rw[u]; kernel_rfl
 have q3:y 4 = .nilFunc:=by rw[u]; kernel_rfl
 have q4:y 5=au 0:=by rw[u]; kernel_rfl
 have q5:y 6=(pt d):=by rw[u]; kernel_rfl
 have q6:y 7=(pt f):=by rw[u]; kernel_rfl
 clear u;refine sN<|Ws<|Ws ?_;refine jV [0,2,3,1,4,5,6,7,8,9,10,11] [4,4,0,0,0,4,0,0,0,4,0,0] [] fun pQ dR iG => ?_;have⟨m11,N,O,ac,ad,F⟩:=um dR m8 m9 m10 m6 m7 b3;refine Rs (pt j) (aL N.aH 0 (ha:=R)) ?_;refine bf (pt j)<|bf (pf j 21)<|Rs (au a) (aL ad.aH 0 (ha:=q6)) ?_;refine Rp (pf j (a+21)) (fun _=>jC 6 1)<|Rs (au (m.own a)) (aL m11.aH (a+21) (Jo (p:=a) (by omega) (by omega))) ?_;by_cases V:5<=(m.own a)
 ·refine Rp aG (fun _=>ku V)<|bf aG<|Rk (by rfl)<|Rk (by rfl)<|Rk (by rfl)<|bf aG<|bS<|aN<|ay<|av (.nilFunc)<|av (au 6)<|aC<|Wr<|sR<|aJ (.tuple #[.nilFunc,au 6]) ?_;have k:iY m v=6:=by unfold iY; rw[A]; exact d_ (.inl (by omega))
  exact⟨⟨.nilFunc,0,#[],by rw[k],rfl,fun z=>N_ (k.symm.trans z) (by first|decide|omega|assumption)⟩,F⟩
 refine Rp aF (fun _=>jU V)<|bf aF<|Rp (pf b 11) (fun _=>je S 11)<|Rs (au v.aS) (aL O.aH 11) ?_;by_cases W:140737488355328<v.aS
 ·refine Rp aG (fun _=>mW W)<|bf aG<|bS<|aN<|ay<|av (.nilFunc)<|av (au 6)<|aC<|Wr<|sR<|aJ (.tuple #[.nilFunc,au 6]) ?_;have k:iY m v=6:=by unfold iY; rw[A]; exact d_ (.inr (by omega))
  exact⟨⟨.nilFunc,0,#[],by rw[k],rfl,fun z=>N_ (k.symm.trans z) (by first|decide|omega|assumption)⟩,F⟩
 refine Rp aF (fun _=>mX W)<|bf aF<|bS<|aK<|Wk<|sN<|Ws<|ay<|Lv (pt j) (aL N.aH 0 (ha:=R))<|Lv (aD (nG v)) (aL ac.aH 0 (ha:=q5))<|Lv (pf b 9) (je S 9)<|Lv (aD v.node) (aL O.aH 9)<|dZ (adO m j B _ (h.up F) (nG v) v.node aa) _ rfl ?_;intro w4 s;have⟨ae,af,ag,m20,I⟩:=uj s N O ac ad F;refine av (au (m.T.err (nG v) v.node))<|aC<|ay<|av (au (m.T.err (nG v) v.node)) ?_;by_cases G:(m.T.err (nG v) v.node)=0
 ·refine Lv aF (jP G)<|aC<|aK<|Wk<|sN<|ay<|Lv (.func (.func 171) #[] #[(pt n),(pt d),(pt b),(pt f)]) (Fx.mV (us := []) (vs := [(pt n),(pt d),(pt b),(pt f)]) rfl rfl (Fx.RH R q5 S q6))<|av (.func (.func 171) #[] #[(pt n),(pt d),(pt b),(pt f)])<|av (au 0)<|aC<|Wr<|aJ (.tuple #[.func (.func 171) #[] #[(pt n),(pt d),(pt b),(pt f)],au 0]) ?_;have k:iY m v=0:=by unfold iY; rw[A,b_ (by omega)]; exact G
  exact⟨⟨_,171,#[(pt n),(pt d),(pt b),(pt f)],by rw[k],rfl,fun _=>⟨rfl,⟨_,_,Tryz.func171,rfl,rfl⟩,fun w2 s=>(VJ m j B w2 ((h.up I).up s) v L G a J A (ab a J) aa _ _ _ _ (ae.cZ (Sb s) (u_ ae.lt)) (ag.cZ (Sb s) (u_ ag.lt)) (af.cZ (Sb s) (u_ af.lt)) (m20.cZ (Sb s) (u_ m20.lt))).mono fun _ _ K=>⟨K.1,K.2.1,K.2.2.mono fun _ hk => .inl hk⟩⟩⟩,I⟩
 refine Lv aG (mY G)<|aC<|aN<|ay<|av (au (m.T.err (nG v) v.node))<|av (.nilFunc)<|av (au (m.T.err (nG v) v.node))<|aC<|Wr<|sR<|aJ (.tuple #[.nilFunc,au (m.T.err (nG v) v.node)]) ?_;have k:iY m v=m.T.err (nG v) v.node:=by unfold iY; rw[A,b_ (by omega)]
 exact⟨⟨.nilFunc,0,#[],by rw[k],rfl,fun z=>N_ (k.symm.trans z) (by first|decide|omega|assumption)⟩,I⟩
end Go.Proofs.YtahbiajdgealnaaGreatDoor
namespace Go.Proofs.YtahbiajdgealnaaGreatDoor
open Go.RowKit Go
namespace Rt
section
variable {x p:Nat->Int} {n d e:Nat} {k v:Int}
theorem Ju : ∀ {d:Nat} {v:Int},jv x p n d v -> ∀ k,k∈jy x p n d v->(jy x p n d k).length<=(jy x p n d v).length
 | 0,v,h,k,hk=>by cases hk
 | d+1,v,h,k,hk=>by
   cases hv:dP x n v with
   | false=>rw[kU hv]at hk; cases hk
   | true =>
     have e:jy x p n (d+1) v=v::jy x p n d (iC x p n v):=(by show(if _ then _ else _)=_; rw[d_ hv]);have a:jv x p n d (iC x p n v):=h hv;rw[e]at hk
     rcases List.mem_cons.1 hk with rfl|hk
     ·exact A_ _
     ·have b:=Ju a k hk;have c:jv x p n d k:=by
       refine AB (d:=d) ?_ (m_ b yM);exact FD a k hk
      have f:=(IW c (Nat.le_succ d)).1;rw[f,e,List.length_cons]; omega
where FD : ∀ {d:Nat} {v:Int},jv x p n d v -> ∀ k,k∈jy x p n d v->jv x p n d k
 | 0,v,h,k,hk=>by cases hk
 | d+1,v,h,k,hk=>by
   cases hv:dP x n v with
   | false=>rw[kU hv]at hk; cases hk
   | true =>
     have e:jy x p n (d+1) v=v::jy x p n d (iC x p n v):=(by show(if _ then _ else _)=_; rw[d_ hv]);have hs:jv x p n d (iC x p n v):=h hv;rw[e]at hk
     rcases List.mem_cons.1 hk with rfl|hk
     ·exact h
     ·exact(IW (FD hs k hk) (Nat.le_succ d)).2
theorem H7 : ∀ {d:Nat} {v:Int},jv x p n d v->(jy x p n d v).Nodup
 | 0,v,h=>List.nodup_nil
 | d+1,v,h=>by
   cases hv:dP x n v with
   | false=>rw[kU hv]; exact List.nodup_nil
   | true =>
     have e:jy x p n (d+1) v=v::jy x p n d (iC x p n v):=(by show(if _ then _ else _)=_; rw[d_ hv]);have a:jv x p n d (iC x p n v):=h hv;rw[e,List.nodup_cons];refine⟨fun c => ?_,H7 a⟩;have f:=Ju a v c;have b:=(IW (Ju.FD a v c) (Nat.le_succ d)).1;rw[e]at b;rw[<- b,List.length_cons]at f;omega
end
section
variable {T:dJ} {l:List Int} {k:Int}
theorem dJ.Ac(h:T.ok)(k:Int):(T.path k).Nodup:=H7 (h.stop k)
theorem dJ.lH(h:T.ok)(e:l=T.path k) : ∀ v,v∈l->T.has v=true:=fun v c=>by
 obtain⟨i,a,b⟩:=List.getElem_of_mem c;have:=dJ.Nu h e a;rw[r_,o_ a]at this;rw[<- b]; exact this
theorem Cm(h:l.Nodup){i j:Nat}(hi:i<l.length)(a:j<l.length)(e:l.getD i 0=l.getD j 0):i=j:=by
 rw[r_,r_,o_ hi,o_ a]at e;exact(List.getElem_inj h).1 e
end
def gN(f:(Nat->Int)->(Nat->Int) × Int)(r:Nat->Nat->Int):Nat->Int
 | 0=>0
 | i+1=>if gN f r i=0 then(f (r i)).2 else gN f r i
section
variable {f:(Nat->Int)->(Nat->Int) × Int} {r:Nat->Nat->Int} {i n:Nat}
theorem Cn(h:gN f r i=0)(a:(f (r i)).2=0):gN f r (i+1)=0:=by unfold gN; rw[d_ h,a]
theorem Ad(h:gN f r i=0)(a : ¬ (f (r i)).2=0) : ∀ n,i<n->gN f r n=(f (r i)).2
 | 0,hn=>N_ hn (z_ _)
 | n+1,hn=>by
   unfold gN;by_cases e:i=n
   ·subst e; rw[d_ h]
   ·rw[Ad h a n (by omega),b_ a]
theorem FE : ∀ {n:Nat},gN f r n=0 -> ∀ i,i<n->(f (r i)).2=0
 | 0,_,i,hi=>N_ hi (z_ _)
 | n+1,h,i,hi=>by
   unfold gN at h;by_cases a:gN f r n=0
   ·rw[d_ a]at h;by_cases e:i=n
    ·rw[e]; exact h
    ·exact FE a i (by omega)
   ·rw[b_ a]at h; exact N_ h a
end
def Bj(m:dU)(k:Int):Nat->Int:=m.R (m.idx k)
def dz(m:dU)(f:(Nat->Int)->(Nat->Int) × Int)(l:List Int):Int:=gN f (fun i=>Bj m (l.getD i 0)) l.length
open Classical in
noncomputable def qM(m:dU)(f:(Nat->Int)->(Nat->Int) × Int)(l:List Int):dU := { m with R:=fun i=>if m.T.x i∈l then(f (m.R i)).1 else m.R i }
def Db(l:List Int)(S:Nat->Bool)(v:Int):Nat->Bool
 | 0=>false
 | n+1=>Db l S v n || (S n&&decide (l.getD n 0=v))
theorem rX{l:List Int}{S:Nat->Bool}{v:Int} : ∀ {n:Nat},Db l S v n=true <-> ∃ q,q<n/\S q=true/\l.getD q 0=v
 | 0=>⟨fun h=>(nomatch h),fun⟨q,h,_⟩=>N_ h (z_ _)⟩
 | n+1=>by
   unfold Db;rw[Bool.or_eq_true,rX,T_,Q_];constructor
   ·rintro (⟨q,c,a,b⟩|⟨c,a⟩)
    ·exact⟨q,by omega,a,b⟩
    ·exact⟨n,by omega,c,a⟩
   ·rintro ⟨q,c,a,b⟩;by_cases e:q=n
    ·subst e; exact .inr ⟨a,b⟩
    ·exact .inl ⟨q,by omega,a,b⟩
def yA(m:dU)(f:(Nat->Int)->(Nat->Int) × Int)(l:List Int)(S:Nat->Bool):Nat->Nat->Int:=fun i=>if Db l S (m.T.x i) l.length=true then(f (m.R i)).1 else m.R i
theorem NA(m:dU)(f:(Nat->Int)->(Nat->Int) × Int)(l:List Int):yA m f l (fun _=>false)=m.R:=by
 funext i
 unfold yA;rw[b_];rw[rX];rintro ⟨q,_,h,_⟩; cases h
theorem QZ{m:dU}(o:m.T.ok){f:(Nat->Int)->(Nat->Int) × Int}{l:List Int}{S:Nat->Bool}{q j:Nat}(t:q<l.length)(s:j<m.T.n)(g:m.T.x j=l.getD q 0) : ∀ i,i<m.T.n->Fx.aM (yA m f l S) j (f (m.R j)).1 i=yA m f l (Fx.aM S q true) i:=fun i p=>by
 unfold Fx.aM;by_cases e:i=j
 ·subst e;rw[d_ rfl];unfold yA;rw[d_];rw[rX];exact⟨q,t,by show(if q=q then true else S q)=true; rw[d_ rfl],g.symm⟩
 ·rw[b_ e];unfold yA;have:Db l S (m.T.x i) l.length=true<->Db l (fun i=>if i=q then true else S i) (m.T.x i) l.length=true:=by
   rw[rX,rX];constructor
   ·rintro ⟨r,d,a,b⟩;exact⟨r,d,by show(if r=q then true else S r)=true; split <;> first|rfl|exact a,b⟩
   ·rintro ⟨r,d,a,b⟩;by_cases k:r=q
    ·subst k;exact N_ (o.inj i j p s (by rw[g,<- b])) e
    ·exact⟨r,d,by have a:(if r=q then true else S r)=true:=a; rw[b_ k]at a; exact a,b⟩
  by_cases c:Db l S (m.T.x i) l.length=true
  ·rw[d_ c,d_ (this.1 c)]
  ·rw[b_ c,b_ (fun h=>c (this.2 h))]
theorem VK{m:dU}{f:(Nat->Int)->(Nat->Int) × Int}{l:List Int}{S:Nat->Bool}(h : ∀ q,q<l.length->S q=true):yA m f l S=(qM m f l).R:=by
 funext i
 show _=if m.T.x i∈l then(f (m.R i)).1 else m.R i;unfold yA;have:Db l S (m.T.x i) l.length=true<->m.T.x i∈l:=by
  rw[rX];constructor
  ·rintro ⟨q,b,_,d⟩;rw[<- d,r_,o_ b]; exact R_ b
  ·intro g;obtain⟨q,a,e⟩:=List.getElem_of_mem g;exact⟨q,a,h q a,by rw[r_,o_ a]; exact e⟩
 by_cases c:m.T.x i∈l
 ·rw[d_ (this.2 c),d_ c]
 rw[b_ (fun h=>c (this.1 h)),b_ c]
def sP(m:dU)(f:(Nat->Int)->(Nat->Int) × Int)(l:List Int):Nat->Value:=fun q => .agg (Fx.aA 54 (Fx.rv .i64 (f (Bj m (l.getD q 0))).1))
theorem H8{m:dU}{f:(Nat->Int)->(Nat->Int) × Int}{l:List Int}{w:World}{b i:Nat}{r:Nat->Int}(h:Fx.Mp w b (i+1) (Fx.aM (fun q=>l.getD q 0) i (l.getD i 0)) (Fx.aM (sP m f l) i (.agg (Fx.aA 54 (Fx.rv .i64 r)))))(e:r=(f (Bj m (l.getD i 0))).1):Fx.Mp w b (i+1) (fun q=>l.getD q 0) (sP m f l):=h.uR fun q a=>by
 unfold Fx.aM;by_cases c:q=i
 ·subst c; rw[d_ rfl,d_ rfl,e]; exact⟨rfl,rfl⟩
 ·rw[b_ c,b_ c]; exact⟨rfl,rfl⟩
end Rt
end Go.Proofs.YtahbiajdgealnaaGreatDoor
namespace Go.Proofs.YtahbiajdgealnaaGreatDoor
open Go.RowKit Rt
open Fx (bF eU fU Lv sN Ln Ws Wl Rp Wr Sb Wk sR Rs Rn Rd Wb Wx Wo DR Jt Ag DL gZ uN uM rv aA aQ bI aM ev Stp aU dB Mp aX iA iQ aZ iR jT bJ cells_one bP unseen jN dK bO bQ cu cB gL gF qm gP)
theorem VL(x:Nat->Int)(v:EvM)(a:Nat)(w:World)(F:1<=v.o/\v.o<=6)(b:aQ w a 14 (bU v) 32) :
 Calls Tryz.prog 175 #[.agg (aA 54 (rv .i64 x)),(pt a)] w fun e C=>e = .returned (.tuple #[.agg (aA 54 (rv .i64 (bC x v.o v.aS).1)),au (bC x v.o v.aS).2])/\Below w.heap.size w C:=by
 have I:=b.lt;refine Kent Tryz.func175 13 ?_;refine ay<|qD fun E Q i c A T => ?_;have⟨k,g⟩:=fD A.old b (Below.refl w.heap.size w);have G:=ig i;have L:=bZ i b.lt;have O:=c.lt;refine uh 54 (rv .i64 (fun _=>0)) fun q R j l B U => ?_;have⟨d,m,n⟩:=jw B.old k c g;have H:=iV j g.size;have⟨M,N⟩:=vY j k.lt c.lt;have P:=l.lt;refine av (au 0)<|aC<|ay<|Lv (.agg (aA 54 (rv .i64 x))) (fP m.aH 0)<|av (pt a)<|Lv (au v.o) (aL d.aH 0)<|av (pf a 11)<|Lv (au v.aS) (aL d.aH 11)<|dZ (adp (x) v.o v.aS _ (by omega)) _ rfl ?_;intro S r;have⟨t,u,y,h⟩:=kR r d m l n;refine av (.agg (aA 54 (rv .i64 ((bC (x) v.o v.aS).1))))<|av (au ((bC (x) v.o v.aS).2))<|fA y 0 fun D z f V => ?_;have s:aQ D q 54 (rv .i64 ((bC (x) v.o v.aS).1)) 59:=aU z;have J:=t.cZ f (by omega);have K:=u.cZ f (by omega);have p:=f.below h h.size (by omega);refine av (au ((bC (x) v.o v.aS).2)) (aC (Wr (⟨.tuple #[.agg (aA 54 (rv .i64 ((bC (x) v.o v.aS).1))),au ((bC (x) v.o v.aS).2)],gP Tryz.results175 ⟨_,rfl,aX s.aH (by kernel_rfl) (by kernel_rfl)⟩ (by exact rfl),?_⟩)));exact⟨rfl,p⟩
theorem VN(x:Nat->Int)(v:EvM)(g:Nat->Int)(b c:Nat)(w:World)(L:1<=v.o/\v.o<=6)(d:aQ w b 14 (bU v) 32)(f:aQ w c 5 (iE g) 66) :
 Calls Tryz.prog 178 #[.agg (aA 54 (rv .i64 x)),(pt b),(pt c)] w fun e I=>e = .returned (.tuple #[.agg (aA 54 (rv .i64 (bG x v.o (g 3)).1)),au (bG x v.o (g 3)).2])/\Below w.heap.size w I:=by
 have O:=d.lt;have P:=f.lt;refine Kent Tryz.func178 14 ?_;refine ay<|qD fun K w1 k h G z1 => ?_;have⟨m,n,i⟩:=jw G.old d f (Below.refl w.heap.size w);have M:=ig k;have⟨T,U⟩:=vY k d.lt f.lt;have Y:=h.lt;refine uh 54 (rv .i64 (fun _=>0)) fun y w2 l p H z2 => ?_;have⟨q,r,s,t⟩:=kR H.old m n h i;have N:=iV l i.size;have⟨V,W,X⟩:=IQ l m.lt n.lt h.lt;have Z:=p.lt;refine av (au 0)<|aC<|ay<|Lv (.agg (aA 54 (rv .i64 x))) (fP s.aH 0)<|av (pt b)<|Lv (au v.o) (aL q.aH 0)<|av (pf c 3)<|Lv (au (g 3)) (aL r.aH 3)<|dZ (adq (x) v.o (g 3) _ (by omega)) _ rfl ?_;intro w3 z;have⟨E,F,A,B,j⟩:=uj z q r s p t;refine av (.agg (aA 54 (rv .i64 ((bG (x) v.o (g 3)).1))))<|av (au ((bG (x) v.o (g 3)).2))<|fA B 0 fun J C a z3 => ?_;have D:aQ J y 54 (rv .i64 ((bG (x) v.o (g 3)).1)) 59:=aU C;have Q:=E.cZ a (by omega);have R:=F.cZ a (by omega);have S:=A.cZ a (by omega);have u:=a.below j j.size (by omega);refine av (au ((bG (x) v.o (g 3)).2)) (aC (Wr (⟨.tuple #[.agg (aA 54 (rv .i64 ((bG (x) v.o (g 3)).1))),au ((bG (x) v.o (g 3)).2)],gP Tryz.results178 ⟨_,rfl,aX D.aH (by kernel_rfl) (by kernel_rfl)⟩ (by exact rfl),?_⟩)));exact⟨rfl,u⟩
theorem Ld(m:dU)(j B:Nat)(w:World)(h:mD w B j m)(o:(Nat->Int)->(Nat->Int) × Int)(l:List Int)(s:Nat)(hgM:m.rb≠s/\m.mb≠s/\m.pb≠s/\m.gb≠s/\m.ab≠s)(hlh : ∀ k,k∈l->m.T.has k=true)(I:Mp w s l.length (fun q=>l.getD q 0) (sP m o l))(z:Nat)(A:Nat)(H:aQ w z 1 (fun _ => .map (some s)) 101)(Z:aQ w A 1 (fun _=>(pt j)) 37) :
 Calls Tryz.prog 187 #[(pt z),(pt A)] w fun e w'=>e = .returned (.tuple #[])/\mD w' B j (qM m o l)/\jT (Fv m j) w w':=by
 have hC:=h.c;have hT:=h.t;have hP:=h.p;have hR:=h.r;have hG:=h.g;have hA:=h.a;have b:=h.ne;have lC:=h.c.lt;have lT:=h.t.lt;have lP:=h.p.lt;have lR:=h.r.lt;have lG:=h.g.lt;have lA:=h.a.lt;have lg8:=H.lt;have ZX:=Z.lt;have lF:=I.lt;obtain⟨hg1,hg2,hg3,hg4,hg5⟩:=hgM;refine Kent Tryz.func187 17 ?_;refine ay<|Lv (.map (some s)) (aL H.aH 0)<|Fx.L.range (by rfl) rfl rfl rfl I Tryz.underlying101 fun F w1 lK m1 s1 z1 => ?_;have⟨m2,m3,m4,m5,m6,m7,m8,m9,m10⟩:=BD s1.old hC hT hP hR hG hA I H Z;have b1:=(uM (Fv m j) w).then s1 (.inr (uM (Fv m j) w).size);have sU:w.heap.size<=F:=by rw[lK]; exact(uM (Fv m j) w).size
 have uq:=m1.lt;refine aC<|Wb ?_;have m11:Mp w1 m.rb m.T.n m.T.x (wS (yA m o l (fun _=>false))):=by rw[NA]; exact m5
 refine DR (fun kE f v => ∃ S:Nat->Bool,∃ K:Nat,K=unseen S l.length/\K=kE/\f 0=(pt z)/\f 1=(pt A)/\f 5=(pt F)/\aQ v j 29 (vE m) 106/\sF v B m.tp m.mb m.T/\Mp v m.pb m.T.n m.T.x (DC m.T)/\iA v m.gb m.gn (fun i=>m.g i 0) (fun i=>m.g i 1) (uF m.g)/\iA v m.ab m.an m.ao m.ar DF/\Mp v s l.length (fun q=>l.getD q 0) (sP m o l)/\aQ v z 1 (fun _ => .map (some s)) 101/\aQ v A 1 (fun _=>(pt j)) 37/\Mp v m.rb m.T.n m.T.x (wS (yA m o l S))/\Fx.It v F s l.length S/\jT (Fv m j) w v) (unseen (fun _=>false) l.length) ⟨(fun _=>false),(unseen (fun _=>false) l.length),rfl,rfl,(by rfl),(by rfl),(by rfl),m2,m3,m4,m6,m7,m8,m9,m10,m11,m1,b1⟩ ?_;rintro kE f1 w2 ⟨S,K,hkk,hkE,W,X,G,m12,m13,m14,m15,m16,m17,m18,m19,m20,M,Q⟩;refine ay<|Fx.L.next (by rfl) rfl rfl G m17 M (fun sD => ?_)<|fun d w3 C hS1 m22 mc1 s2 z2 => ?_
 ·skip
  refine av aF (aC (Ws (aK (Wx (cu (gL (cB (⟨.tuple #[],iR Tryz.results187,?_⟩))))))));have m23:Mp w2 m.rb m.T.n m.T.x (wS (qM m o l).R):=by rw[<- VK sD]; exact m20
  exact⟨rfl,{ c:=m12,t:=m13,p:=m14,r:=m23,g:=m15,a:=m16,ne:=⟨b.mp,b.mr,b.mg,b.ma,b.pr,b.pg,b.pa,b.rg,b.ra,b.ga⟩,lB:=h.lB,pB:=h.pB,rB:=h.rB,gB:=h.gB,aB:=h.aB },Q⟩
 skip
 have y:=M.BF s2;have m24:=m12.dQ y;have nk:=m13.dQ y (by omega);have og:=m14.dQ y (by omega);have oh:=m15.dQ y (by omega);have om:=m16.dQ y (by omega);have N:=m17.dQ y (M.rb.symm);have oF:=m18.dQ y;have lX:=m19.dQ y;have m32:=m20.dQ y (by omega);have D:=Q.then s2 (.inr sU);refine av aG<|aC<|Ws<|aN<|Wk<|sN<|Wb<|ay<|Lv (.tuple #[aD (l.getD d 0),.agg (aA 54 (rv .i64 ((o (Bj m (l.getD d 0))).1)))]) (Fx.Ol (key:=fun q=>l.getD q 0) (val:=sP m o l) (i:=d) rfl G N mc1 C)<|av (aD (l.getD d 0))<|av (.agg (aA 54 (rv .i64 ((o (Bj m (l.getD d 0))).1))))<|uh 54 (rv .i64 (fun _=>0)) fun g2 w4 V O s3 z3 => ?_;have⟨nQ,oq,pU,qQ,qR,oP,rQ,nJ,mO,nK,sZ⟩:=Et s3.old m24 nk og oh om N oF lX m32 mc1 m22;have b4:=D.then s3 (.inr D.size);have pV:=iV V D.size;have⟨aoN,aoO,aoP,aoQ,aoR,aoS,aoT,aoU⟩:=XG V m24.lt og.lt oh.lt om.lt N.lt oF.lt lX.lt m32.lt;have zy:=O.lt;refine av (aD (l.getD d 0))<|fA O 0 fun P rR s4 z4 => ?_;have nR:aQ P g2 54 (rv .i64 ((o (Bj m (l.getD d 0))).1)) 59:=aU rR;have fV:=gZ s4 O.ty;have⟨sw,vL,rA,qU,uU,tV,rD,rE,tu,qV,qw⟩:=ZU fV nQ oq pU qQ qR oP rQ nJ mO nK sZ;have U:=b4.then s4 (.inr pV);refine aC ?_;obtain⟨jz,J,E⟩:=gT (hlh _ (uT C rfl));have ejx:Bj m (l.getD d 0)=m.R jz:=by unfold Bj dU.idx; rw[nY h.t.inv.inj J E]
 refine jV [4,0,1,2,3,5,6] [4,0,0,4,0,4,3] [(6,0,[0]),(6,3,[3]),(6,5,[5])] fun pQ Y iG => ?_;have s5:Stp P.heap.size P pQ:=Sb Y;have⟨qx,xD,qF,vM,oo,tC,m64,wB,vN,wC,wD,tF⟩:=Oi Y sw vL rA qU uU tV rD rE tu qV qw nR;have b6:=U.then s5 (.inr U.size);refine bf (aD (l.getD d 0))<|Rs (pt j) (aL wB.aH 0 (ha:=X)) ?_;refine bf (pt j)<|bf (pf j 20)<|Rs (.map (some m.rb)) (aL qx.aH 20) ?_;refine Rs (.agg (aA 54 (rv .i64 ((o (Bj m (l.getD d 0))).1)))) (fP tF.aH 0) ?_;refine gQ<|Fx.L.abl (by rfl) rfl rfl rfl rfl rfl vN Tryz.underlying101 Tryz.underlying28 J E fun w6 uI s6 z5 => ?_;have u:=vN.BF s6;have uV:=qx.dQ u;have xq:=xD.dQ u (b.mr);have vO:=qF.dQ u (b.pr);have yN:=vM.dQ u (Ne.symm b.rg);have uW:=oo.dQ u (Ne.symm b.ra);have xE:=tC.dQ u (by omega);have xW:=m64.dQ u;have xX:=wB.dQ u;have xu:=wC.dQ u (by omega) (by omega);have xG:=wD.dQ u (by omega) (by omega);have wE:=tF.dQ u;have b7:=b6.then s6 (.inl (.inr (.inr (.inr (.inl rfl)))));have xY:Mp w6 m.rb m.T.n m.T.x (wS (yA m o l (aM S d true))):=by have q9:=Ee _ _ _ _ uI; rw[ejx]at q9; exact q9.uR fun i hi=>⟨rfl,by unfold wS; rw[QZ h.t.inv C J E i hi]⟩
 refine Ln (Rn (bQ (gF ⟨unseen (aM S d true) l.length,(by have W:=Fx.oN hS1 l.length C; omega),(aM S d true),(unseen (aM S d true) l.length),rfl,rfl,W,X,G,uV,xq,vO,yN,uW,xE,xW,xX,xY,xG,b7⟩ (by decide))))
theorem VO(m:dU)(j B:Nat)(w:World)(h:mD w B j m)(C:Int)(v:EvM)(ho:1<=v.o/\v.o<=6)(E:Nat)(u:aQ w E 14 (bU v) 32) :
 Calls Tryz.prog 174 #[(pt j),aD C,.func (.func 175) #[] #[(pt E)]] w fun e w'=>Ry w B j m (qM m (fun x=>bC x v.o v.aS) (m.T.path C)) (dz m (fun x=>bC x v.o v.aS) (m.T.path C)) e w':=by
 have hC:=h.c;have hT:=h.t;have hP:=h.p;have hR:=h.r;have hG:=h.g;have hA:=h.a;have hN:=h.ne;have lC:=h.c.lt;have lT:=h.t.lt;have lP:=h.p.lt;have lR:=h.r.lt;have lG:=h.g.lt;have lA:=h.a.lt;have lge:=u.lt;refine Kent Tryz.func174 44 ?_;refine ay<|yZ (pt j) fun A w1 lK Y s1 z1 => ?_;have⟨m2,m3,m4,m5,m6,m7,m8,b1⟩:=ng s1.old hC hT hP hR hG hA u (Below.refl w.heap.size w);have sU:=ig lK;have⟨nP,zD,xB,Bg,zA,KD⟩:=IU lK hC.lt hP.lt hR.lt hG.lt hA.lt u.lt;have uq:=Y.lt;refine av (.nilFunc)<|av (au 0)<|aC<|ay<|Fx.L.J5 (by rfl) rfl rfl fun d w2 Ak m9 s2 z2 => ?_;have⟨m10,m11,m12,m13,m14,m15,m16,m17,b2⟩:=BD s2.old m2 m3 m4 m5 m6 m7 m8 Y b1;have pV:=iV Ak b1.size;have⟨FH,Fy,Aa,Fz,BK,TM,TN⟩:=ME Ak m2.lt m4.lt m5.lt m6.lt m7.lt m8.lt Y.lt;have zy:=m9.lt;refine uh 1 (fun _ => .map none) fun y w3 zP Z s3 z3 => ?_;have⟨m19,m20,m21,m22,m23,m24,nk,og,oh,b3⟩:=uQ s3.old m10 m11 m12 m13 m14 m15 m16 m17 m9 b2;have za:=iV zP b2.size;have⟨adS,VP,adT,VQ,VR,Ns,adU,Nt⟩:=XG zP m10.lt m12.lt m13.lt m14.lt m15.lt m16.lt m17.lt m9.lt;have I4:=Z.lt;refine jd Z 0 (.map (some d)) fun O om s4 z4 => ?_;have nI:aQ O y 1 (fun _ => .map (some d)) 101:=dK om;have fV:=gZ s4 Z.ty;have⟨oF,lX,m32,pR,nQ,oq,pU,qQ,qR⟩:=abk fV m19 m20 m21 m22 m23 m24 nk og oh;have b4:=s4.below b3 b3.size (by omega);refine aC<|Ws<|ay<|Lv (pt j) (aL qQ.aH 0)<|av (pt j)<|av (pf j 18)<|Lv (pt m.tp) (aL oF.aH 18)<|av (aD C)<|mE (ML C lX) ?_;rintro e9 w5 ⟨ZY,D,u,oP,hb1⟩;refine⟨_,u,?_⟩;clear u;have⟨rQ,nJ,mO,nK,sZ,rR,nR,sw,vL,rA,b5⟩:=Et hb1 oF lX m32 pR nQ oq pU qQ qR nI b4;obtain⟨l,H⟩ : ∃ q,q=dJ.path m.T C:=⟨_,rfl⟩;rw[<- H]at oP ⊢;have hl4:l.length<=4:=by rw[H]; exact dJ.uf
 refine av (au l.length)<|av (au 0)<|aC<|Wb ?_;have qU:Mp w5 d 0 (fun q=>l.getD q 0) (sP m (fun x=>bC x v.o v.aS) l):=vL.uR fun i hi=>N_ hi (z_ _);refine Wo (fun f k => ∃ i:Nat,i<=l.length/\gN (fun x=>bC x v.o v.aS) (fun i=>Bj m (l.getD i 0)) i=0/\f 2 = .func (.func 175) #[] #[(pt E)]/\f 3=(pt A)/\f 8=(pt y)/\f 19 = .slice ZY (l.length) (D)/\f 20=au (l.length:Int)/\f 21=au (i:Int)/\aQ k j 29 (vE m) 106/\sF k B m.tp m.mb m.T/\Mp k m.pb m.T.n m.T.x (DC m.T)/\Mp k m.rb m.T.n m.T.x (wS m.R)/\iA k m.gb m.gn (fun i=>m.g i 0) (fun i=>m.g i 1) (uF m.g)/\iA k m.ab m.an m.ao m.ar DF/\aQ k E 14 (bU v) 32/\aQ k A 1 (fun _=>(pt j)) 37/\aQ k y 1 (fun _ => .map (some d)) 101/\Fx.Own k O.heap.size 28 1 (.slice ZY (l.length) (D)) l.length (xJ l)/\Mp k d i (fun q=>l.getD q 0) (sP m (fun x=>bC x v.o v.aS) l)/\Below w.heap.size w k) (fun f _=>((l.length:Int)-intOf (f 21)).toNat) ⟨0,(by omega),rfl,(by rfl),(by rfl),(by rfl),(by rfl),Fx.ic,Fx.ic,rQ,nJ,mO,nK,sZ,rR,nR,sw,rA,oP,qU,b5⟩ ?_;rintro f1 w6 ⟨i,hi,K,h1,U,V,h4,W,G,uU,tV,rD,rE,tu,qV,qw,N,aa,qF,ac,P⟩;refine ay ?_;by_cases c22:(i:Int)<(l.length:Int)
 ·refine Lv aG (gu c22 (hx:=G) (hy:=W))<|aC<|Ws<|aN<|Wk<|sN<|Ws<|Wb<|ay ?_;obtain⟨Am,S⟩:=qF.addr (by omega);have oo:Fx.Own w6 O.heap.size 28 1 (bM Am l.length D) l.length (xJ l):=qF.dL (M_ (fun q=>Value.slice q l.length D) S);refine Lv (pf Am i) (dh 1 (hx:=(h4.trans (M_ (fun q=>Value.slice q (l.length) (D)) S))) (hi:=G))<|Lv (aD (l.getD i 0)) (aL oo.aH i)<|av (aD (l.getD i 0))<|aC<|Ws ?_;obtain⟨b,hjz,ejz⟩:=gT (dJ.lH h.t.inv H _ (uT (show i<l.length by omega) rfl));have J:Bj m (l.getD i 0)=m.R b:=by unfold Bj dU.idx; rw[nY h.t.inv.inj hjz ejz]
  refine Wl<|aT h1<|Lv (pt j) (aL N.aH 0 (ha:=U))<|av (pt j)<|av (pf j 20)<|Lv (.map (some m.rb)) (aL uU.aH 20)<|av (aD (l.getD i 0))<|Lv (.agg (aA 54 (rv .i64 (m.R b)))) (Fx.yL (z := .agg (aA 54 (rv .i64 (fun _=>0)))) rfl rfl rfl rE Tryz.underlying101 Tryz.underlying28 (by kernel_rfl) hjz ejz rfl)<|Ag (by rfl) (Fx.CG (args := [.agg (aA 54 (rv .i64 (m.R b)))]) rfl rfl rfl (all := #[.agg (aA 54 (rv .i64 (m.R b))),(pt E)]) rfl Tryz.func175 rfl rfl) rfl<|(VL (m.R b) v E _ ho qw).mono ?_;rintro e w7 ⟨u,F⟩;refine⟨.tuple #[.agg (aA 54 (rv .i64 ((bC (m.R b) v.o v.aS).1))),au ((bC (m.R b) v.o v.aS).2)],by rw[u],?_⟩;clear u;have⟨tC,m64,wB,vN,wC,wD,tF,uI,uV,xq,vO,b7⟩:=Oi F uU tV rD rE tu qV qw N aa ac oo P;refine av (.tuple #[.agg (aA 54 (rv .i64 ((bC (m.R b) v.o v.aS).1))),au ((bC (m.R b) v.o v.aS).2)])<|av (.agg (aA 54 (rv .i64 ((bC (m.R b) v.o v.aS).1))))<|av (au ((bC (m.R b) v.o v.aS).2))<|uh 54 (rv .i64 (fun _=>0)) fun g4 w8 MI ad s7 z5 => ?_;have⟨uW,xE,xW,xX,xu,xG,wE,xY,zM,xZ,AO,b8⟩:=Oi s7.old tC m64 wB vN wC wD tF uI uV xq vO b7;have UU:=iV MI b7.size;have⟨adz,adA,adB,adC,aoW,aoX,adV,aoY,adW,adX⟩:=ZV MI tC.lt wB.lt vN.lt wC.lt wD.lt tF.lt uI.lt uV.lt xq.lt vO.lt;have Rx:=ad.lt;refine fA ad 0 fun w9 AP s8 z6 => ?_;have Aj:aQ w9 g4 54 (rv .i64 ((bC (m.R b) v.o v.aS).1)) 59:=aU AP;have jJ:=gZ s8 ad.ty;have⟨zN,zO,AQ,ED,Dy,BO,CV,zS,F5,D6,F6⟩:=ZU jJ uW xE xW xX xu xG wE xY zM xZ AO;have Q:=s8.below b8 b8.size (by omega);refine av (au ((bC (m.R b) v.o v.aS).2))<|aC<|Ws<|ay<|av (au ((bC (m.R b) v.o v.aS).2)) ?_;by_cases I:((bC (m.R b) v.o v.aS).2)=0
  ·refine Lv aF (jP I)<|aC<|aK<|Wk<|sN ?_;have hnd:l.Nodup:=(by rw[H]; exact dJ.Ac h.t.inv C);have hny : ∀ q,q<i->(fun q=>l.getD q 0) q≠l.getD i 0:=fun q hq e=>by have:=Cm hnd (show q<l.length by omega) (show i<l.length by omega) e; omega
   refine Wl<|Lv (.map (some d)) (aL F5.aH 0 (ha:=V))<|av (aD (l.getD i 0))<|Lv (.agg (aA 54 (rv .i64 ((bC (m.R b) v.o v.aS).1)))) (fP Aj.aH 0)<|Fx.L.PZ (by rfl) rfl rfl rfl rfl rfl D6 Tryz.underlying101 Tryz.underlying28 hny fun sV Gf s9 z7 => ?_;have s:=D6.BF s9;have wM:=zN.dQ s;have yg:=zO.dQ s (by omega);have wN:=AQ.dQ s (by omega);have uw:=ED.dQ s (by omega);have pY:=Dy.dQ s (by omega);have oZ:=BO.dQ s (by omega);have qJ:=CV.dQ s;have qb:=zS.dQ s;have rG:=F5.dQ s;have sK:=F6.dQ s;have vg:=Aj.dQ s;have b10:=s9.below Q Q.size (by omega);have rH:Mp sV d (i+1) (fun q=>l.getD q 0) (sP m (fun x=>bC x v.o v.aS) l):=H8 Gf (by rw[J]);refine Ln<|bQ<|sN<|Wl<|Lv (au ((i:Int)+1)) (eO (hx:=G))<|av (au ((i:Int)+1))<|Ln ?_;have uy:Fx.Own sV O.heap.size 28 1 (.slice ZY (l.length) (D)) l.length (xJ l):=sK.dL (M_ (fun q=>Value.slice q l.length D) S.symm);refine gF ⟨i+1,(by omega),(Cn K (by rw[J]; exact I)),h1,U,V,h4,(W.trans Fx.ic),Fx.ic,wM,yg,wN,uw,pY,oZ,qJ,qb,rG,uy,rH,b10⟩ ?_;show((l.length:Int)-intOf (au ((i:Int)+1))).toNat<_;simp only[G,intOf]; omega
  refine Lv aG (mY I)<|aC<|aN<|ay<|av (au ((bC (m.R b) v.o v.aS).2))<|av (.nilFunc)<|av (au ((bC (m.R b) v.o v.aS).2))<|aC<|Wr<|sR<|bO<|sR<|qm<|bO<|sR<|aJ (.tuple #[.nilFunc,au ((bC (m.R b) v.o v.aS).2)]) ?_;have M:dz m (fun x=>bC x v.o v.aS) l=(bC (m.R b) v.o v.aS).2:=by unfold dz; rw[Ad K (by rw[J]; exact I) _ (by omega),J]
  exact⟨⟨.nilFunc,0,#[],by rw[M],rfl,fun e0=>N_ (M.symm.trans e0) (by first|decide|omega|assumption)⟩,Q⟩
 refine Lv aF (gy c22 (hx:=G) (hy:=W))<|aC<|Ws<|aK<|Wx<|cu<|gL<|cB<|sN<|ay<|Lv (.func (.func 187) #[] #[(pt y),(pt A)]) (Fx.mV (us := []) (vs := [(pt y),(pt A)]) rfl rfl (Fx.args2 V U))<|av (.func (.func 187) #[] #[(pt y),(pt A)])<|av (au 0)<|aC<|Wr<|aJ (.tuple #[.func (.func 187) #[] #[(pt y),(pt A)],au 0]) ?_;have hil:i=l.length:=by omega
 rw[hil]at ac K;have hgm:m.rb≠d/\m.mb≠d/\m.pb≠d/\m.gb≠d/\m.ab≠d:=⟨by omega,by omega,by omega,by omega,by omega⟩;have M:dz m (fun x=>bC x v.o v.aS) l=0:=K;exact⟨⟨_,187,#[(pt y),(pt A)],by rw[M],rfl,fun _=>⟨rfl,⟨_,_,Tryz.func187,rfl,rfl⟩,fun w2 F=>(Ld m j B w2 ((h.up P).up F) (fun x=>bC x v.o v.aS) l d hgm (dJ.lH h.t.inv H) (ac.up F) _ _ (aa.cZ (Sb F) (u_ aa.lt)) (N.cZ (Sb F) (u_ N.lt))).mono fun _ _ X=>⟨X.1,X.2.1,X.2.2.mono fun _ hk => .inl hk⟩⟩⟩,P⟩
theorem VT(m:dU)(j B:Nat)(w:World)(h:mD w B j m)(C:Int)(v:EvM)(g:Nat->Int)(ho:1<=v.o/\v.o<=6)(E F:Nat)(u:aQ w E 14 (bU v) 32)(Z:aQ w F 5 (iE g) 66) :
 Calls Tryz.prog 174 #[(pt j),aD C,.func (.func 178) #[] #[(pt E),(pt F)]] w fun e w'=>Ry w B j m (qM m (fun x=>bG x v.o (g 3)) (m.T.path C)) (dz m (fun x=>bG x v.o (g 3)) (m.T.path C)) e w':=by
 have hC:=h.c;have hT:=h.t;have hP:=h.p;have hR:=h.r;have hG:=h.g;have hA:=h.a;have hN:=h.ne;have lC:=h.c.lt;have lT:=h.t.lt;have lP:=h.p.lt;have lR:=h.r.lt;have lG:=h.g.lt;have lA:=h.a.lt;have lge:=u.lt;have lgg:=Z.lt;refine Kent Tryz.func174 44 ?_;refine ay<|yZ (pt j) fun A w1 lK m1 s1 z1 => ?_;have⟨m2,m3,m4,m5,m6,m7,m8,m9,b1⟩:=BD s1.old hC hT hP hR hG hA u Z (Below.refl w.heap.size w);have sU:=ig lK;have⟨nP,zD,xB,Bg,zA,KD,agE⟩:=ME lK hC.lt hP.lt hR.lt hG.lt hA.lt u.lt Z.lt;have uq:=m1.lt;refine av (.nilFunc)<|av (au 0)<|aC<|ay<|Fx.L.J5 (by rfl) rfl rfl fun d w2 Ak m10 s2 z2 => ?_;have⟨m11,m12,m13,m14,m15,m16,m17,m18,m19,b2⟩:=uQ s2.old m2 m3 m4 m5 m6 m7 m8 m9 m1 b1;have pV:=iV Ak b1.size;have⟨Fw,Aa,Fz,BK,TM,TN,adP,aoZ⟩:=XG Ak m2.lt m4.lt m5.lt m6.lt m7.lt m8.lt m9.lt m1.lt;have zy:=m10.lt;refine uh 1 (fun _ => .map none) fun y w3 zP m20 s3 z3 => ?_;have⟨m21,m22,m23,m24,nk,og,oh,om,nI,oF,b3⟩:=Et s3.old m11 m12 m13 m14 m15 m16 m17 m18 m19 m10 b2;have za:=iV zP b2.size;have⟨VP,VQ,VR,Ns,adU,Nt,Vt,Vu,Vv⟩:=XH zP m11.lt m13.lt m14.lt m15.lt m16.lt m17.lt m18.lt m19.lt m10.lt;have I4:=m20.lt;refine jd m20 0 (.map (some d)) fun P lX s4 z4 => ?_;have m32:aQ P y 1 (fun _ => .map (some d)) 101:=dK lX;have fV:=gZ s4 m20.ty;have⟨pR,nQ,oq,pU,qQ,qR,oP,rQ,nJ,mO⟩:=Oj fV m21 m22 m23 m24 nk og oh om nI oF;have b4:=s4.below b3 b3.size (by omega);refine aC<|Ws<|ay<|Lv (pt j) (aL nJ.aH 0)<|av (pt j)<|av (pf j 18)<|Lv (pt m.tp) (aL pR.aH 18)<|av (aD C)<|mE (ML C nQ) ?_;rintro e9 w5 ⟨ZY,D,u,nK,hb1⟩;refine⟨_,u,?_⟩;clear u;have⟨sZ,rR,nR,sw,vL,rA,qU,uU,tV,rD,rE,b5⟩:=Oi hb1 pR nQ oq pU qQ qR oP rQ nJ mO m32 b4;obtain⟨l,I⟩ : ∃ q,q=dJ.path m.T C:=⟨_,rfl⟩;rw[<- I]at nK ⊢;have hl4:l.length<=4:=by rw[I]; exact dJ.uf
 refine av (au l.length)<|av (au 0)<|aC<|Wb ?_;have tu:Mp w5 d 0 (fun q=>l.getD q 0) (sP m (fun x=>bG x v.o (g 3)) l):=rD.uR fun i hi=>N_ hi (z_ _);refine Wo (fun f k => ∃ i:Nat,i<=l.length/\gN (fun x=>bG x v.o (g 3)) (fun i=>Bj m (l.getD i 0)) i=0/\f 2 = .func (.func 178) #[] #[(pt E),(pt F)]/\f 3=(pt A)/\f 8=(pt y)/\f 19 = .slice ZY (l.length) (D)/\f 20=au (l.length:Int)/\f 21=au (i:Int)/\aQ k j 29 (vE m) 106/\sF k B m.tp m.mb m.T/\Mp k m.pb m.T.n m.T.x (DC m.T)/\Mp k m.rb m.T.n m.T.x (wS m.R)/\iA k m.gb m.gn (fun i=>m.g i 0) (fun i=>m.g i 1) (uF m.g)/\iA k m.ab m.an m.ao m.ar DF/\aQ k E 14 (bU v) 32/\aQ k F 5 (iE g) 66/\aQ k A 1 (fun _=>(pt j)) 37/\aQ k y 1 (fun _ => .map (some d)) 101/\Fx.Own k P.heap.size 28 1 (.slice ZY (l.length) (D)) l.length (xJ l)/\Mp k d i (fun q=>l.getD q 0) (sP m (fun x=>bG x v.o (g 3)) l)/\Below w.heap.size w k) (fun f _=>((l.length:Int)-intOf (f 21)).toNat) ⟨0,(by omega),rfl,(by rfl),(by rfl),(by rfl),(by rfl),Fx.ic,Fx.ic,sZ,rR,nR,sw,vL,rA,qU,uU,tV,rE,nK,tu,b5⟩ ?_;rintro f1 w6 ⟨i,hi,M,h1,V,W,h4,X,H,qV,qw,qx,xD,qF,vM,oo,tC,O,wB,vN,wC,Q⟩;refine ay ?_;by_cases c22:(i:Int)<(l.length:Int)
 ·refine Lv aG (gu c22 (hx:=H) (hy:=X))<|aC<|Ws<|aN<|Wk<|sN<|Ws<|Wb<|ay ?_;obtain⟨Am,U⟩:=vN.addr (by omega);have wD:Fx.Own w6 P.heap.size 28 1 (bM Am l.length D) l.length (xJ l):=vN.dL (M_ (fun q=>Value.slice q l.length D) U);refine Lv (pf Am i) (dh 1 (hx:=(h4.trans (M_ (fun q=>Value.slice q (l.length) (D)) U))) (hi:=H))<|Lv (aD (l.getD i 0)) (aL wD.aH i)<|av (aD (l.getD i 0))<|aC<|Ws ?_;obtain⟨b,hjz,ejz⟩:=gT (dJ.lH h.t.inv I _ (uT (show i<l.length by omega) rfl));have K:Bj m (l.getD i 0)=m.R b:=by unfold Bj dU.idx; rw[nY h.t.inv.inj hjz ejz]
  refine Wl<|aT h1<|Lv (pt j) (aL O.aH 0 (ha:=V))<|av (pt j)<|av (pf j 20)<|Lv (.map (some m.rb)) (aL qV.aH 20)<|av (aD (l.getD i 0))<|Lv (.agg (aA 54 (rv .i64 (m.R b)))) (Fx.yL (z := .agg (aA 54 (rv .i64 (fun _=>0)))) rfl rfl rfl xD Tryz.underlying101 Tryz.underlying28 (by kernel_rfl) hjz ejz rfl)<|Ag (by rfl) (Fx.CG (args := [.agg (aA 54 (rv .i64 (m.R b)))]) rfl rfl rfl (all := #[.agg (aA 54 (rv .i64 (m.R b))),(pt E),(pt F)]) rfl Tryz.func178 rfl rfl) rfl<|(VN (m.R b) v g E F _ ho oo tC).mono ?_;rintro e w7 ⟨u,G⟩;refine⟨.tuple #[.agg (aA 54 (rv .i64 ((bG (m.R b) v.o (g 3)).1))),au ((bG (m.R b) v.o (g 3)).2)],by rw[u],?_⟩;clear u;have⟨tF,uI,uV,xq,vO,yN,uW,xE,xW,xX,xu,xG,b7⟩:=ZT G qV qw qx xD qF vM oo tC O wB wC wD Q;refine av (.tuple #[.agg (aA 54 (rv .i64 ((bG (m.R b) v.o (g 3)).1))),au ((bG (m.R b) v.o (g 3)).2)])<|av (.agg (aA 54 (rv .i64 ((bG (m.R b) v.o (g 3)).1))))<|av (au ((bG (m.R b) v.o (g 3)).2))<|uh 54 (rv .i64 (fun _=>0)) fun g4 w8 MI wE s7 z5 => ?_;have⟨xY,zM,xZ,AO,AP,Aj,zN,zO,AQ,ED,Dy,BO,b8⟩:=ZT s7.old tF uI uV xq vO yN uW xE xW xX xu xG b7;have UU:=iV MI b7.size;have⟨adV,adW,adX,apa,apb,apc,apd,ape,apf,apg,aph⟩:=afJ MI tF.lt uV.lt xq.lt vO.lt yN.lt uW.lt xE.lt xW.lt xX.lt xu.lt xG.lt;have Rx:=wE.lt;refine fA wE 0 fun w9 CV s8 z6 => ?_;have zS:aQ w9 g4 54 (rv .i64 ((bG (m.R b) v.o (g 3)).1)) 59:=aU CV;have jJ:=gZ s8 wE.ty;have⟨F5,D6,F6,Gf,wM,yg,wN,uw,pY,oZ,qJ,qb⟩:=afI jJ xY zM xZ AO AP Aj zN zO AQ ED Dy BO;have S:=s8.below b8 b8.size (by omega);refine av (au ((bG (m.R b) v.o (g 3)).2))<|aC<|Ws<|ay<|av (au ((bG (m.R b) v.o (g 3)).2)) ?_;by_cases J:((bG (m.R b) v.o (g 3)).2)=0
  ·refine Lv aF (jP J)<|aC<|aK<|Wk<|sN ?_;have hnd:l.Nodup:=(by rw[I]; exact dJ.Ac h.t.inv C);have hny : ∀ q,q<i->(fun q=>l.getD q 0) q≠l.getD i 0:=fun q hq e=>by have:=Cm hnd (show q<l.length by omega) (show i<l.length by omega) e; omega
   refine Wl<|Lv (.map (some d)) (aL oZ.aH 0 (ha:=W))<|av (aD (l.getD i 0))<|Lv (.agg (aA 54 (rv .i64 ((bG (m.R b) v.o (g 3)).1)))) (fP zS.aH 0)<|Fx.L.PZ (by rfl) rfl rfl rfl rfl rfl qJ Tryz.underlying101 Tryz.underlying28 hny fun sV rG s9 z7 => ?_;have s:=qJ.BF s9;have sK:=F5.dQ s;have vg:=D6.dQ s (by omega);have rH:=F6.dQ s (by omega);have uy:=Gf.dQ s (by omega);have zf:=wM.dQ s (by omega);have vk:=yg.dQ s (by omega);have zh:=wN.dQ s;have BP:=uw.dQ s;have xH:=pY.dQ s;have uz:=oZ.dQ s;have qK:=qb.dQ s;have yh:=zS.dQ s;have b10:=s9.below S S.size (by omega);have yj:Mp sV d (i+1) (fun q=>l.getD q 0) (sP m (fun x=>bG x v.o (g 3)) l):=H8 rG (by rw[K]);refine Ln<|bQ<|sN<|Wl<|Lv (au ((i:Int)+1)) (eO (hx:=H))<|av (au ((i:Int)+1))<|Ln ?_;have uD:Fx.Own sV P.heap.size 28 1 (.slice ZY (l.length) (D)) l.length (xJ l):=qK.dL (M_ (fun q=>Value.slice q l.length D) U.symm);refine gF ⟨i+1,(by omega),(Cn M (by rw[K]; exact J)),h1,V,W,h4,(X.trans Fx.ic),Fx.ic,sK,vg,rH,uy,zf,vk,zh,BP,xH,uz,uD,yj,b10⟩ ?_;show((l.length:Int)-intOf (au ((i:Int)+1))).toNat<_;simp only[H,intOf]; omega
  refine Lv aG (mY J)<|aC<|aN<|ay<|av (au ((bG (m.R b) v.o (g 3)).2))<|av (.nilFunc)<|av (au ((bG (m.R b) v.o (g 3)).2))<|aC<|Wr<|sR<|bO<|sR<|qm<|bO<|sR<|aJ (.tuple #[.nilFunc,au ((bG (m.R b) v.o (g 3)).2)]) ?_;have N:dz m (fun x=>bG x v.o (g 3)) l=(bG (m.R b) v.o (g 3)).2:=by unfold dz; rw[Ad M (by rw[K]; exact J) _ (by omega),K]
  exact⟨⟨.nilFunc,0,#[],by rw[N],rfl,fun e0=>N_ (N.symm.trans e0) (by first|decide|omega|assumption)⟩,S⟩
 refine Lv aF (gy c22 (hx:=H) (hy:=X))<|aC<|Ws<|aK<|Wx<|cu<|gL<|cB<|sN<|ay<|Lv (.func (.func 187) #[] #[(pt y),(pt A)]) (Fx.mV (us := []) (vs := [(pt y),(pt A)]) rfl rfl (Fx.args2 W V))<|av (.func (.func 187) #[] #[(pt y),(pt A)])<|av (au 0)<|aC<|Wr<|aJ (.tuple #[.func (.func 187) #[] #[(pt y),(pt A)],au 0]) ?_;have hil:i=l.length:=by omega
 rw[hil]at wC M;have hgm:m.rb≠d/\m.mb≠d/\m.pb≠d/\m.gb≠d/\m.ab≠d:=⟨by omega,by omega,by omega,by omega,by omega⟩;have N:dz m (fun x=>bG x v.o (g 3)) l=0:=M;exact⟨⟨_,187,#[(pt y),(pt A)],by rw[N],rfl,fun _=>⟨rfl,⟨_,_,Tryz.func187,rfl,rfl⟩,fun w2 G=>(Ld m j B w2 ((h.up Q).up G) (fun x=>bG x v.o (g 3)) l d hgm (dJ.lH h.t.inv I) (wC.up G) _ _ (wB.cZ (Sb G) (u_ wB.lt)) (O.cZ (Sb G) (u_ O.lt))).mono fun _ _ Y=>⟨Y.1,Y.2.1,Y.2.2.mono fun _ hk => .inl hk⟩⟩⟩,Q⟩
section
namespace Rt
def Bl(k1 k2:Nat->Int):Nat->Int->Int->Bool
 | 0,_,_=>false
 | n+1,a,b=>(decide (k1 n=a)&&decide (k2 n=b)) || Bl k1 k2 n a b
def wU(k1 k2:Nat->Int):Nat->Int->Int->Nat
 | 0,_,_=>0
 | n+1,a,b=>if k1 n=a/\k2 n=b then n else wU k1 k2 n a b
section
variable {k1 k2:Nat->Int} {a b:Int}
theorem lI : ∀ {n:Nat},Bl k1 k2 n a b=true <-> ∃ j,j<n/\k1 j=a/\k2 j=b
 | 0=>⟨fun h=>(nomatch h),fun⟨j,h,_⟩=>N_ h (z_ _)⟩
 | n+1=>by
   unfold Bl;rw[Bool.or_eq_true,T_,Q_,Q_,lI];constructor
   ·rintro (⟨f,c⟩|⟨j,f,c,d⟩)
    ·exact⟨n,by omega,f,c⟩
    ·exact⟨j,by omega,c,d⟩
   ·rintro ⟨j,f,c,d⟩;by_cases e:j=n
    ·subst e; exact .inl ⟨c,d⟩
    ·exact .inr ⟨j,by omega,c,d⟩
theorem sQ{n j:Nat}(e:j<n)(c:k1 j=a)(d:k2 j=b):Bl k1 k2 n a b=true:=lI.2 ⟨j,e,c,d⟩
theorem pJ{n:Nat}(h : ∀ i,i<n -> ¬ (k1 i=a/\k2 i=b)):Bl k1 k2 n a b=false:=by
 cases e:Bl k1 k2 n a b with
 | false=>rfl
 | true=>obtain⟨j,f,c,d⟩:=lI.1 e; exact N_ ⟨c,d⟩ (h j f)
theorem yU{j:Nat} : ∀ {n:Nat},(∀ p q,p<n->q<n->k1 p=k1 q->k2 p=k2 q->p=q)->j<n->k1 j=a->k2 j=b->wU k1 k2 n a b=j
 | 0,_,h,_,_=>N_ h (z_ _)
 | n+1,hi,hj,e1,e2=>by
   unfold wU;by_cases c:k1 n=a/\k2 n=b
   ·rw[d_ c]; exact hi n j (by omega) hj (c.1.trans e1.symm) (c.2.trans e2.symm)
   ·rw[b_ c];refine yU (fun p q d f=>hi p q (by omega) (by omega)) ?_ e1 e2;by_cases e:j=n
    ·subst e; exact N_ ⟨e1,e2⟩ c
    ·omega
end
theorem Eh{v:EvM}(h:bR v=true)(a:gU v):Fx.Bq v.o v.req/\Fx.Bq v.o v.of:=by
 have d:=nX h;have b:=a.req;have c:=a.of;unfold kH at b c;exact⟨⟨by omega,by omega⟩,⟨by omega,by omega⟩⟩
theorem YV{w:World}{b k n:Nat}{g:Nat->Nat->Int}{o r:Int}{y:Nat->Value}(h:iA w b k (aM (fun i=>g i 0) n o) (aM (fun i=>g i 1) n r) (aM (uF g) n (.agg (aA 5 y))))(x:Nat->Int)(e0:x 0=o)(a:x 1=r)(d : ∀ j,j<5->y j=iE x j) :
 iA w b k (fun i=>aM g n x i 0) (fun i=>aM g n x i 1) (uF (aM g n x)):=h.uR fun i _=>by
 unfold aM uF;by_cases c:i=n
 ·subst c;refine⟨?_,?_,?_⟩
  ·show(if i=i then o else g i 0)=(if i=i then x else g i) 0;rw[d_ rfl,d_ rfl,e0]
  ·show(if i=i then r else g i 1)=(if i=i then x else g i) 1;rw[d_ rfl,d_ rfl,a]
  ·show(if i=i then Value.agg (aA 5 y)else _)=Value.agg (aA 5 (iE (if i=i then x else g i)));rw[d_ rfl,d_ rfl,Fx.eX d]
 ·refine⟨?_,?_,?_⟩
  ·show(if i=n then o else g i 0)=(if i=n then x else g i) 0;rw[b_ c,b_ c]
  ·show(if i=n then r else g i 1)=(if i=n then x else g i) 1;rw[b_ c,b_ c]
  ·show(if i=n then Value.agg (aA 5 y)else Value.agg (aA 5 (iE (g i))))=Value.agg (aA 5 (iE (if i=n then x else g i)));rw[b_ c,b_ c]
theorem YW{w:World}{b n j:Nat}{g:Nat->Nat->Int}{x:Nat->Int}(h:iA w b n (fun i=>g i 0) (fun i=>g i 1) (aM (uF g) j (.agg (aA 5 (iE x)))))(e0:x 0=g j 0)(a:x 1=g j 1) :
 iA w b n (fun i=>aM g j x i 0) (fun i=>aM g j x i 1) (uF (aM g j x)):=h.uR fun i _=>by
 unfold aM uF;show g i 0=(if i=j then x else g i) 0/\g i 1=(if i=j then x else g i) 1/\_=Value.agg (aA 5 (iE (if i=j then x else g i)));by_cases c:i=j
 ·subst c; rw[d_ rfl,d_ rfl]; exact⟨e0.symm,a.symm,rfl⟩
 ·rw[b_ c,b_ c]; exact⟨rfl,rfl,rfl⟩
theorem Pg{w:World}{b k n:Nat}{o r:Nat->Int}{x y:Int}(h:iA w b k (aM o n x) (aM r n y) (aM DF n (.bool true))):iA w b k (aM o n x) (aM r n y) DF:=h.uR fun i _=>⟨rfl,rfl,by unfold aM DF; split <;> rfl⟩
theorem ahN(x:Nat->Int)(r:Int):dB (iE x) 4 (aD r)=iE (upd x 4 r):=by
 funext p
 unfold dB;by_cases c:p=4
 ·subst c; rw[d_ rfl]; rfl
 rw[b_ c]; unfold iE upd;by_cases a:p=0
 ·rw[d_ a,d_ a]; rfl
 rw[b_ a,b_ a];by_cases b:p=3
 ·rw[d_ b,d_ b]; rfl
 rw[b_ b,b_ b,b_ c]
def F8(a b:Int):Nat->Value:=fun p=>if p=0 then au a else aD b
def VU(m:dU)(a:Nat->Nat->Int)(v:EvM):dU := { m with R:=a,an:=m.an+1,ao:=aM m.ao m.an v.o,ar:=aM m.ar m.an v.req,gn:=m.gn+1,g:=aM m.g m.gn (qy v) }
def Ph(m:dU)(a:Nat->Nat->Int)(v:EvM)(j:Nat):dU := { m with R:=a,an:=m.an+1,ao:=aM m.ao m.an v.o,ar:=aM m.ar m.an v.req,g:=aM m.g j (upd (m.g j) 4 v.req) }
structure Bw(w0 w:World):Prop where
 b:Below w0.heap.size w0 w
theorem Bw.up{a w w':World}(h:Bw a w)(c:Below w.heap.size w w'):Bw a w':=⟨Iw h.b c⟩
instance {a w w':World}:Rt.Tr w w' (Bw a w) (Bw a w'):=⟨fun b h=>h.up b⟩
end Rt
theorem adY{y:Nat->Value}{a b:Int}(c:y 0=au a)(h1:y 1=aD b){w:World}{g:Nat}(h:aQ w g 2 y 113):aQ w g 2 (F8 a b) 113:=h.congr fun j d=>by
 rcases(show j=0\/j=1 by omega)with rfl|rfl
 ·exact c
 ·exact h1
structure LtT(gl gq ge b:Nat):Prop where
 gl:gl<b
 gq:gq<b
 ge:ge<b
structure LtF(gl gq ge gg go b:Nat):Prop where
 gl:gl<b
 gq:gq<b
 ge:ge<b
 gg:gg<b
 go:go<b
theorem VW(m:dU)(l B:Nat)(w:World)(h:mD w B l m)(v:EvM)(hv:bR v=true)(hwf:gU v)(I:Nat->Nat->Int)(D J G:Nat)(adZ:J<=D)(cap:Array Value)(U:Vh w B l m { m with R:=I } D (.func (.func G) #[] cap) G cap)(S:Nat)(K:Nat)(M:Nat)(A:Nat)(Y:aQ w S 1 (fun _ => .func (.func G) #[] cap) 107)(hl:aQ w K 1 (fun _=>(pt l)) 37)(hq:aQ w M 2 (F8 v.o v.req) 113)(E:aQ w A 14 (bU v) 32)(N:LtT K M A D)(hnz : ∀ i,i<m.an -> ¬ (m.ao i=v.o/\m.ar i=v.req))(hny : ∀ i,i<m.gn -> ¬ ((fun i=>m.g i 0) i=v.o/\(fun i=>m.g i 1) i=v.req)) :
 Calls Tryz.prog 177 #[(pt S),(pt K),(pt M),(pt A)] w fun e w'=>e = .returned (.tuple #[])/\mD w' B l (VU m I v)/\jT (Vg m l J) w w':=by
 have hC:=h.c;have hT:=h.t;have hP:=h.p;have hR:=h.r;have hG:=h.g;have hA:=h.a;have d:=h.ne;have lC:=h.c.lt;have lT:=h.t.lt;have lP:=h.p.lt;have lR:=h.r.lt;have lG:=h.g.lt;have lA:=h.a.lt;have lgd:=Y.lt;have ZX:=hl.lt;have lgq:=hq.lt;have lge:=E.lt;have Z:=Eh hv hwf;refine Kent Tryz.func177 25 ?_;refine ay<|Lv (.func (.func G) #[] cap) (aL Y.aH 0)<|Ag (by rfl) (Fx.OY (args := []) rfl rfl rfl (by simp) U.f) rfl<|(U.s _ (Below.refl _ _)).mono ?_;rintro e9 z ⟨E,C,H⟩;refine⟨_,E,?_⟩;clear E;have V:=H.mono (S':=Vg m l J) fun k hk=>hk.imp id (m_ adZ);have m1:aQ z l 29 (vE m) 106:=C.c;have lm1:=m1.lt;have m2:sF z B m.tp m.mb m.T:=C.t;have lm2:=m2.lt;have m3:Mp z m.pb m.T.n m.T.x (DC m.T):=C.p;have lm3:=m3.lt;have m4:Mp z m.rb m.T.n m.T.x (wS (I)):=C.r;have lm4:=m4.lt;have m5:iA z m.gb m.gn (fun i=>m.g i 0) (fun i=>m.g i 1) (uF m.g):=C.g;have lm5:=m5.lt;have m6:iA z m.ab m.an m.ao m.ar DF:=C.a;have lm6:=m6.lt;have m7:=h.Jp hl (by decide) H N.gl;have lm7:=m7.lt;have m8:=h.Jp hq (by decide) H N.gq;have lm8:=m8.lt;have m9:=h.Jp E (by decide) H N.ge;have lm9:=m9.lt;refine aC<|Ws ?_;refine jV [0,1,2,3,4,5] [4,0,0,4,4,3] [(5,0,[0]),(5,3,[3]),(5,4,[4])] fun pQ W iG => ?_;have s1:Stp z.heap.size z pQ:=Sb W;have⟨m10,m11,m12,m13,m14,m15,m16,m17,m18⟩:=BD W m1 m2 m3 m4 m5 m6 m7 m8 m9;have D:=V.then s1 (.inr V.size);refine Rs (pt l) (aL m16.aH 0) ?_;refine bf (pt l)<|bf (pf l 28)<|Rs (.map (some m.ab)) (aL m10.aH 28) ?_;refine Rs (.agg (aA 2 (F8 v.o v.req))) (fP m17.aH 0) ?_;refine gQ<|Fx.L.Sj (by rfl) rfl rfl rfl ((show ev _ _ = .agg (aA 2 (F8 v.o v.req))from rfl).trans (Fx.zw (y:=F8 v.o v.req) (a:=v.o) (b:=v.req) rfl rfl)) Z.1 rfl m15 Tryz.underlying103 Gm hnz fun O m19 s2 z1 => ?_;have q:=m15.BF s2;have m20:=m10.dQ q;have m21:=m11.dQ q (d.ma);have m22:=m12.dQ q (d.pa);have m23:=m13.dQ q (d.ra);have m24:=m14.dQ q (d.ga);have nk:=m16.dQ q;have og:=m17.dQ q;have oh:=m18.dQ q;have Q:=D.then s2 (.inl (.inl (.inr (.inr (.inr (.inr (.inr rfl)))))));have om:iA O m.ab (m.an+1) (aM m.ao m.an v.o) (aM m.ar m.an v.req) DF:=Pg m19;refine Ln<|bS ?_;refine jV [5,7,9,11,0,1,2,3,4,6,8,10,12,13,14] [4,0,0,4,4,0,4,0,4,0,4,0,4,0,3] [(14,0,[0]),(14,3,[3]),(14,4,[4]),(14,6,[6]),(14,8,[8]),(14,10,[10]),(14,12,[12])] fun CP X nO => ?_;have s3:Stp O.heap.size O CP:=Sb X;have⟨nI,oF,lX,m32,pR,nQ,oq,F,qQ⟩:=BD X m20 m21 m22 m23 m24 nk og oh om;have b3:=Q.then s3 (.inr Q.size);refine bf (pt A)<|bf (pf A 12)<|bf (pf A 9)<|bf (pf A 11)<|Rs (pt l) (aL nQ.aH 0) ?_;refine bf (pt l)<|bf (pf l 27)<|Rs (.map (some m.gb)) (aL nI.aH 27) ?_;refine Rs (.agg (aA 2 (F8 v.o v.req))) (fP oq.aH 0) ?_;refine Rs (au v.o) (aL F.aH 0) ?_;refine Rs (aD v.req) (aL F.aH 12) ?_;refine Rs (aD v.node) (aL F.aH 9) ?_;refine Rs (au v.aS) (aL F.aH 11) ?_;refine bf (.agg (aA 5 (bI (bI (bI (bI (fun P=>if P<1 then au 0 else if P<3 then aD 0 else if P<4 then au 0 else aD 0) 0 1 (fun _=>au v.o)) 1 1 (fun _=>aD v.req)) 2 1 (fun _=>aD v.node)) 3 1 (fun _=>au v.aS))))<|gQ<|Fx.L.Sj (by rfl) rfl rfl rfl ((show ev _ _ = .agg (aA 2 (F8 v.o v.req))from rfl).trans (Fx.zw (y:=F8 v.o v.req) (a:=v.o) (b:=v.req) rfl rfl)) Z.1 rfl pR Tryz.underlying102 Gm hny fun w3 qR s4 z2 => ?_;have u:=pR.BF s4;have oP:=nI.dQ u;have rQ:=oF.dQ u (d.mg);have nJ:=lX.dQ u (d.pg);have mO:=m32.dQ u (d.rg);have nK:=nQ.dQ u;have sZ:=oq.dQ u;have rR:=F.dQ u;have nR:=qQ.dQ u (Ne.symm d.ga);have b4:=b3.then s4 (.inl (.inl (.inr (.inr (.inr (.inr (.inl rfl)))))));have sw:iA w3 m.gb (m.gn+1) (fun i=>aM m.g m.gn (qy v) i 0) (fun i=>aM m.g m.gn (qy v) i 1) (uF (aM m.g m.gn (qy v))):=YV qR (qy v) rfl rfl (by intro j hj; rcases(show j=0\/j=1\/j=2\/j=3\/j=4 by omega)with rfl|rfl|rfl|rfl|rfl <;> rfl)
 refine Ln (Rn (⟨.tuple #[],iR Tryz.results177,?_⟩));unfold VU;exact⟨rfl,{ c:=oP,t:=rQ,p:=nJ,r:=mO,g:=sw,a:=nR,ne:=⟨d.mp,d.mr,d.mg,d.ma,d.pr,d.pg,d.pa,d.rg,d.ra,d.ga⟩,lB:=h.lB,pB:=h.pB,rB:=h.rB,gB:=h.gB,aB:=h.aB },b4⟩
theorem VX(m:dU)(l B:Nat)(w:World)(h:mD w B l m)(v:EvM)(hv:bR v=true)(hwf:gU v)(K:Nat->Nat->Int)(E H I:Nat)(adZ:H<=E)(cap:Array Value)(S:Vh w B l m { m with R:=K } E (.func (.func I) #[] cap) I cap)(j:Nat)(Q:Nat)(M:Nat)(N:Nat)(J:Nat)(A:Nat)(go:Nat)(X:aQ w Q 1 (fun _ => .func (.func I) #[] cap) 107)(hl:aQ w M 1 (fun _=>(pt l)) 37)(hq:aQ w N 2 (F8 v.o v.req) 113)(F:aQ w J 14 (bU v) 32)(Y:aQ w A 5 (iE (m.g j)) 66)(hof:aQ w go 2 (F8 v.o v.of) 113)(hgg:H<=A)(G:LtF M N J A go E)(hnz : ∀ i,i<m.an -> ¬ (m.ao i=v.o/\m.ar i=v.req))(Z:j<m.gn)(ejy:(fun i=>m.g i 0) j=v.o)(fjy:(fun i=>m.g i 1) j=v.of) :
 Calls Tryz.prog 180 #[(pt Q),(pt M),(pt N),(pt J),(pt A),(pt go)] w fun e w'=>e = .returned (.tuple #[])/\mD w' B l (Ph m K v j)/\jT (Vg m l H) w w':=by
 have hC:=h.c;have hT:=h.t;have hP:=h.p;have hR:=h.r;have hG:=h.g;have hA:=h.a;have d:=h.ne;have lC:=h.c.lt;have lT:=h.t.lt;have lP:=h.p.lt;have lR:=h.r.lt;have lG:=h.g.lt;have lA:=h.a.lt;have lgd:=X.lt;have ZX:=hl.lt;have lgq:=hq.lt;have lge:=F.lt;have lgg:=Y.lt;have lgo:=hof.lt;have aa:=Eh hv hwf;have awI:=Z;refine Kent Tryz.func180 22 ?_;refine ay<|Lv (.func (.func I) #[] cap) (aL X.aH 0)<|Ag (by rfl) (Fx.OY (args := []) rfl rfl rfl (by simp) S.f) rfl<|(S.s _ (Below.refl _ _)).mono ?_;rintro e9 z ⟨F,D,C⟩;refine⟨_,F,?_⟩;clear F;have U:=C.mono (S':=Vg m l H) fun k hk=>hk.imp id (m_ adZ);have m1:aQ z l 29 (vE m) 106:=D.c;have lm1:=m1.lt;have m2:sF z B m.tp m.mb m.T:=D.t;have lm2:=m2.lt;have m3:Mp z m.pb m.T.n m.T.x (DC m.T):=D.p;have lm3:=m3.lt;have m4:Mp z m.rb m.T.n m.T.x (wS (K)):=D.r;have lm4:=m4.lt;have m5:iA z m.gb m.gn (fun i=>m.g i 0) (fun i=>m.g i 1) (uF m.g):=D.g;have lm5:=m5.lt;have m6:iA z m.ab m.an m.ao m.ar DF:=D.a;have lm6:=m6.lt;have m7:=h.Jp hl (by decide) C G.gl;have lm7:=m7.lt;have m8:=h.Jp hq (by decide) C G.gq;have lm8:=m8.lt;have m9:=h.Jp F (by decide) C G.ge;have lm9:=m9.lt;have m10:=h.Jp Y (by decide) C G.gg;have awJ:=m10.lt;have m11:=h.Jp hof (by decide) C G.go;have awK:=m11.lt;refine aC<|Ws ?_;refine jV [0,1,2,3,4,5] [4,0,0,4,4,3] [(5,0,[0]),(5,3,[3]),(5,4,[4])] fun pQ V iG => ?_;have s1:Stp z.heap.size z pQ:=Sb V;have⟨m12,m13,m14,m15,m16,m17,m18,m19,m20,m21,m22⟩:=Et V m1 m2 m3 m4 m5 m6 m7 m8 m9 m10 m11;have E:=U.then s1 (.inr U.size);refine Rs (pt l) (aL m18.aH 0) ?_;refine bf (pt l)<|bf (pf l 28)<|Rs (.map (some m.ab)) (aL m12.aH 28) ?_;refine Rs (.agg (aA 2 (F8 v.o v.req))) (fP m19.aH 0) ?_;refine gQ<|Fx.L.Sj (by rfl) rfl rfl rfl ((show ev _ _ = .agg (aA 2 (F8 v.o v.req))from rfl).trans (Fx.zw (y:=F8 v.o v.req) (a:=v.o) (b:=v.req) rfl rfl)) aa.1 rfl m17 Tryz.underlying103 Gm hnz fun w2 m23 s2 z1 => ?_;have q:=m17.BF s2;have m24:=m12.dQ q;have nk:=m13.dQ q (d.ma);have og:=m14.dQ q (d.pa);have oh:=m15.dQ q (d.ra);have om:=m16.dQ q (d.ga);have nI:=m18.dQ q;have oF:=m19.dQ q;have lX:=m20.dQ q;have m32:=m21.dQ q;have pR:=m22.dQ q;have b2:=E.then s2 (.inl (.inl (.inr (.inr (.inr (.inr (.inr rfl)))))));have nQ:iA w2 m.ab (m.an+1) (aM m.ao m.an v.o) (aM m.ar m.an v.req) DF:=Pg m23;refine Ln<|bS<|ay<|av (pf J 12)<|Lv (aD v.req) (aL lX.aH 12)<|av (pf A 4)<|jd m32 4 (aD v.req) fun O oq s3 z2 => ?_;have pU:aQ O A 5 (iE (upd (m.g j) 4 v.req)) 66:=oq.to (ahN _ _);have fV:=gZ s3 m32.ty;have⟨qQ,qR,oP,rQ,nJ,mO,nK,sZ,rR,nR⟩:=Oj fV m24 nk og oh om nI oF lX pR nQ;have P:=b2.then s3 (.inl (.inr hgg));refine aC ?_;refine jV [0,1,2,3,4,5,6] [4,0,0,4,4,4,3] [(6,0,[0]),(6,3,[3]),(6,4,[4]),(6,5,[5])] fun CP W nO => ?_;have s4:Stp O.heap.size O CP:=Sb W;have⟨sw,vL,rA,qU,uU,tV,rD,rE,tu,qV,qw⟩:=Et W qQ qR oP rQ nJ mO nK sZ rR nR pU;have b4:=P.then s4 (.inr P.size);refine Rs (pt l) (aL tV.aH 0) ?_;refine bf (pt l)<|bf (pf l 27)<|Rs (.map (some m.gb)) (aL sw.aH 27) ?_;refine Rs (.agg (aA 2 (F8 v.o v.of))) (fP tu.aH 0) ?_;refine Rs (.agg (aA 5 (iE (upd (m.g j) 4 v.req)))) (fP qw.aH 0) ?_;refine gQ<|Fx.L.afK (by rfl) rfl rfl rfl ((show ev _ _ = .agg (aA 2 (F8 v.o v.of))from rfl).trans (Fx.zw (y:=F8 v.o v.of) (a:=v.o) (b:=v.of) rfl rfl)) aa.2 rfl uU Tryz.underlying102 Gm Z ejy fjy fun w4 qx s5 z3 => ?_;have u:=uU.BF s5;have xD:=sw.dQ u;have qF:=vL.dQ u (d.mg);have vM:=rA.dQ u (d.pg);have oo:=qU.dQ u (d.rg);have tC:=tV.dQ u;have m64:=rD.dQ u;have wB:=rE.dQ u;have vN:=tu.dQ u;have wC:=qV.dQ u (Ne.symm d.ga);have wD:=qw.dQ u;have b5:=b4.then s5 (.inl (.inl (.inr (.inr (.inr (.inr (.inl rfl)))))));have tF:iA w4 m.gb m.gn (fun i=>aM m.g j (upd (m.g j) 4 v.req) i 0) (fun i=>aM m.g j (upd (m.g j) 4 v.req) i 1) (uF (aM m.g j (upd (m.g j) 4 v.req))):=YW qx rfl rfl;refine Ln (Rn (⟨.tuple #[],iR Tryz.results180,?_⟩));unfold Ph;exact⟨rfl,{ c:=xD,t:=qF,p:=vM,r:=oo,g:=tF,a:=wC,ne:=⟨d.mp,d.mr,d.mg,d.ma,d.pr,d.pg,d.pa,d.rg,d.ra,d.ga⟩,lB:=h.lB,pB:=h.pB,rB:=h.rB,gB:=h.gB,aB:=h.aB },b5⟩
end
namespace Rt
def gW(m:dU)(o r:Int):Bool:=Bl m.ao m.ar m.an o r
def iK(m:dU)(o r:Int):Bool:=Bl (fun i=>m.g i 0) (fun i=>m.g i 1) m.gn o r
def fE(m:dU)(o r:Int):Nat:=wU (fun i=>m.g i 0) (fun i=>m.g i 1) m.gn o r
noncomputable def VY(m:dU)(v:EvM):dU:=qM m (fun x=>bC x v.o v.aS) (m.T.path v.node)
def jK(m:dU)(v:EvM):Int:=if gW m v.o v.req=true then 14 else if m.T.has v.node=false then 9 else dz m (fun x=>bC x v.o v.aS) (m.T.path v.node)
noncomputable def kL(m:dU)(v:EvM):dU:=VU m (VY m v).R v
noncomputable def VZ(m:dU)(v:EvM):dU:=qM m (fun x=>bG x v.o (m.g (fE m v.o v.of) 3)) (m.T.path (m.g (fE m v.o v.of) 2))
def jo(m:dU)(v:EvM):Int:=if gW m v.o v.req=true then 14 else if iK m v.o v.of=false\/m.g (fE m v.o v.of) 4≠0 then 12 else dz m (fun x=>bG x v.o (m.g (fE m v.o v.of) 3)) (m.T.path (m.g (fE m v.o v.of) 2))
noncomputable def iF(m:dU)(v:EvM):dU:=Ph m (VZ m v).R v (fE m v.o v.of)
def Q0(m:dU):Prop := ∀ i,i<m.gn->gW m (m.g i 0) (m.g i 1)=true
end Rt
theorem Fx.ahO{f:Nat->Value}{x1 x2 e g h i:Operand}{v1 v2 a b c d:Value}(h1:ev f x1=v1)(j:ev f x2=v2)(k:ev f e=a)(l:ev f g=b)(m:ev f h=c)(n:ev f i=d) : [x1,x2,e,g,h,i].map (ev f) = [v1,v2,a,b,c,d]:=by rw[List.map_cons,h1,Fx.afD j k l m n]
theorem Vh.up{w w':World}{B d a b:Nat}{m e:dU}{c:Value}{cap:Array Value}(h:Vh w B d m e a c b cap)(f:Below w.heap.size w w'):Vh w' B d m e a c b cap := { h with s:=fun i g=>h.s i (Iw f g) }
instance {w w':World} {B e a c:Nat} {m f:dU} {d:Value} {cap:Array Value}:Rt.Tr w w' (Vh w B e m f a d c cap) (Vh w' B e m f a d c cap):=⟨fun b h=>h.up b⟩
theorem YX(m:dU)(d B:Nat)(w:World)(h:mD w B d m)(v:EvM)(M:bR v=true)(hwf:gU v)(hga:Q0 m) :
 Calls Tryz.prog 164 #[(pt d),.agg (aA 14 (bU v))] w fun e w'=>Ry w B d m (kL m v) (jK m v) e w':=by
 have hC:=h.c;have hT:=h.t;have hP:=h.p;have hR:=h.r;have hG:=h.g;have hA:=h.a;have hN:=h.ne;have lC:=h.c.lt;have lT:=h.t.lt;have lP:=h.p.lt;have lR:=h.r.lt;have lG:=h.g.lt;have lA:=h.a.lt;obtain⟨a,ha,ho⟩ : ∃ a:Nat,a<6/\v.o=(a:Int)+1:=fH (iP M);have hra:aO v=a:=by unfold aO; omega
 have hko:=Eh M hwf;have hvo:1<=v.o/\v.o<=6:=by omega
 refine Kent Tryz.func164 40 ?_;refine ay<|yZ (pt d) fun C w1 lK N s1 z1 => ?_;have⟨m2,m3,m4,m5,m6,m7,V⟩:=jQ s1.old hC hT hP hR hG hA (Below.refl w.heap.size w);have sU:=ig lK;have⟨nP,zD,xB,Bg,zA⟩:=Dq lK hC.lt hP.lt hR.lt hG.lt hA.lt;have uq:=N.lt;refine qD fun f w2 Ak D s2 z2 => ?_;have⟨m9,m10,m11,m12,m13,m14,m15,W⟩:=ng s2.old m2 m3 m4 m5 m6 m7 N V;have pV:=iV Ak V.size;have⟨K6,Fw,Fy,Aa,Fz,BK⟩:=IU Ak m2.lt m4.lt m5.lt m6.lt m7.lt N.lt;have zy:=D.lt;refine av (.nilFunc)<|av (au 0)<|aC<|ay<|av (pt f)<|Lv (au v.o) (aL D.aH 0)<|av (pf f 12)<|Lv (aD v.req) (aL D.aH 12)<|av (.agg (aA 2 (bI (bI (fun q=>if q<1 then au 0 else aD 0) 0 1 (fun _=>au v.o)) 1 1 (fun _=>aD v.req))))<|uh 2 (fun q=>if q<1 then au 0 else aD 0) fun l w3 zP O s3 z3 => ?_;have⟨m17,m18,m19,m20,m21,m22,m23,m24,X⟩:=BD s3.old m9 m10 m11 m12 m13 m14 m15 D W;have za:=iV zP W.size;have⟨V4,adS,apk,VP,adT,VQ,VR⟩:=ME zP m9.lt m11.lt m12.lt m13.lt m14.lt m15.lt D.lt;have I4:=O.lt;refine fA O 0 (h1:=(bP (bP (fun jq _=>by show((fun q=>if q<1 then au 0 else aD 0:Nat->Value) jq).oneCell'=true; simp only[]; repeat (first|rfl|split)) (fun _ _=>rfl)) (fun _ _=>rfl))) fun w4 nk s4 z4 => ?_
 have og:aQ w4 l 2 (bI (bI (fun q=>if q<1 then au 0 else aD 0) 0 1 (fun _=>au v.o)) 1 1 (fun _=>aD v.req)) 113:=aU nk;have oh:aQ w4 l 2 (F8 v.o v.req) 113:=adY (Fx.Au (by omega) (Fx.qz (j:=0) (by omega) (by omega) rfl)) (Fx.qz (j:=0) (by omega) (by omega) rfl) og;have fV:=gZ s4 O.ty;have⟨om,nI,oF,lX,m32,pR,nQ,oq⟩:=abj fV m17 m18 m19 m20 m21 m22 m23 m24;have b4:=s4.below X X.size (by omega);refine aC<|Ws<|Ws ?_;refine jV [0,1,2,3,4,5] [4,0,0,4,4,4] [] fun pQ dR iG => ?_;have⟨pU,qQ,qR,oP,rQ,P,mO,nK,sZ,Y⟩:=uQ dR om nI oF lX m32 pR nQ oq oh b4;refine Rs (pt d) (aL mO.aH 0) ?_;refine bf (pt d)<|bf (pf d 28)<|Rs (.map (some m.ab)) (aL pU.aH 28) ?_;refine Rs (.agg (aA 2 (F8 v.o v.req))) (fP sZ.aH 0) ?_
 rcases Fx.xU m.ao m.ar m.an v.o v.req with ⟨VF,C8,C9,Lf⟩|jY
 ·refine Rs aG (Fx.J9 (z := .bool false) rfl rfl ((show ev _ _ = .agg (aA 2 (F8 v.o v.req))from rfl).trans (Fx.zw (y:=F8 v.o v.req) (a:=v.o) (b:=v.req) rfl rfl)) hko.1 P Tryz.underlying103 Gm (by rfl) C8 C9 Lf rfl) ?_;refine bS<|aN<|ay<|av (.nilFunc)<|av (au 14)<|aC<|Wr<|sR<|aJ (.tuple #[.nilFunc,au 14]) ?_;have k:jK m v=14:=by unfold jK; exact d_ (sQ C8 C9 Lf)
  exact⟨⟨.nilFunc,0,#[],by rw[k],rfl,fun A=>N_ (k.symm.trans A) (by first|decide|omega|assumption)⟩,Y⟩
 refine Rs aF (Fx.J8 (z := .bool false) rfl rfl ((show ev _ _ = .agg (aA 2 (F8 v.o v.req))from rfl).trans (Fx.zw (y:=F8 v.o v.req) (a:=v.o) (b:=v.req) rfl rfl)) hko.1 P Tryz.underlying103 Gm (by rfl) jY) ?_;refine bS<|aK<|Wk<|sN<|Ws<|Ws ?_;refine jV [4,0,1,2,3,5,6,7] [4,0,0,4,0,4,3,0] [(6,0,[3,2,1,0]),(6,3,[3]),(6,5,[5]),(7,6,[6])] fun CP gJ nO => ?_;have⟨rR,nR,sw,vL,rA,qU,Q,G,rD,I⟩:=uQ gJ pU qQ qR oP rQ P mO nK sZ Y;refine bf (pf f 9)<|Rs (pt d) (aL Q.aH 0) ?_;refine bf (pt d)<|bf (pf d 18)<|Rs (pt m.tp) (aL rR.aH 18) ?_;refine Rs (aD v.node) (aL G.aH 9) ?_;refine gQ ?_;by_cases s:(dJ.has m.T v.node)=true
 ·refine mF (aai v.node nR) aG (by rw[s])<|Ln<|bf aF<|bS<|aK<|Wk<|sN<|ay<|Lv (pt d) (aL Q.aH 0)<|av (pf f 9)<|Lv (aD v.node) (aL G.aH 9)<|Lv (.func (.func 175) #[] #[(pt f)]) (Fx.mV (us := []) (vs := [(pt f)]) rfl rfl rfl)<|mE (VO m d B _ (h.up I) v.node v hvo f G) ?_;rintro e9 H ⟨⟨F,fi1,Qa,he,ho1,hD1⟩,hb1⟩;refine⟨_,he,?_⟩;clear he;have⟨rE,qV,qw,qx,xD,qF,vM,oo,Z⟩:=BD hb1 rR sw vL rA qU Q G rD I;have bw1:Bw H H:=⟨Below.refl _ _⟩;refine av (.tuple #[F,au (dz m (fun x=>bC x v.o v.aS) (m.T.path (v.node)))])<|av (F)<|av (au (dz m (fun x=>bC x v.o v.aS) (m.T.path (v.node))))<|uh 1 (fun _ => .nilFunc) fun n w6 K S s8 z5 => ?_;have⟨uI,uV,xq,vO,b8⟩:=uj s8.old qF vM oo bw1 Z;have UU:=iV K Z.size;have⟨apl,adt,adu,adv,adw,adx,apm,ady⟩:=XG K rE.lt qV.lt qw.lt qx.lt xD.lt qF.lt vM.lt oo.lt;have Rx:=S.lt;have kg4:H.heap.size<=n:=by rw[K]; exact bw1.b.size
  refine jd S 0 F (h1:=ho1) fun w7 yN U z6 => ?_;have uW:aQ w7 n 1 (fun _=>F) 107:=dK yN;have jJ:=gZ U S.ty;have⟨xY,zM,xZ⟩:=Dp jJ uI uV xq;have AO:=(⟨U.below vO.b vO.b.size kg4⟩:Bw H _);have J:=U.below b8 b8.size (by omega);refine av (au (dz m (fun x=>bC x v.o v.aS) (m.T.path (v.node))))<|aC<|Ws<|ay<|av (au (dz m (fun x=>bC x v.o v.aS) (m.T.path (v.node)))) ?_;by_cases E:(dz m (fun x=>bC x v.o v.aS) (m.T.path (v.node)))=0
  ·refine Lv aF (jP E)<|aC<|aK<|Wk<|sN<|ay<|Lv (.func (.func 177) #[] #[(pt n),(pt C),(pt l),(pt f)]) (Fx.mV (us := []) (vs := [(pt n),(pt C),(pt l),(pt f)]) rfl rfl rfl)<|av (.func (.func 177) #[] #[(pt n),(pt C),(pt l),(pt f)])<|av (au 0)<|aC<|Wr<|aJ (.tuple #[.func (.func 177) #[] #[(pt n),(pt C),(pt l),(pt f)],au 0]) ?_;have hD0:=hD1 E;have hfe:=hD0.e;subst hfe;have b01:w.heap.size<=CP.heap.size:=(by omega);have k:jK m v=0:=(by unfold jK; rw[b_ (show ¬ gW m v.o v.req=true by unfold gW; rw[pJ jY]; decide)]; rw[b_ (by rw[s]; decide)]; exact E);exact⟨⟨_,177,#[(pt n),(pt C),(pt l),(pt f)],by rw[k],rfl,fun _=>⟨rfl,⟨_,_,Tryz.func177,rfl,rfl⟩,fun w2 u=>(VW m d B w2 ((h.up J).up u) v M hwf (VY m v).R CP.heap.size w.heap.size _ (by omega) _ (hD0.up (Iw AO.b u)) _ _ _ _ (uW.cZ (Sb u) (u_ uW.lt)) (xY.cZ (Sb u) (u_ xY.lt)) (xZ.cZ (Sb u) (u_ xZ.lt)) (zM.cZ (Sb u) (u_ zM.lt)) ⟨by omega,by omega,by omega⟩ jY (fun i hi e=>by have q9:=hga i hi; obtain⟨j9,hj9,e9,f9⟩:=lI.1 q9; exact jY j9 hj9 ⟨e9.trans e.1,f9.trans e.2⟩)).mono fun _ _ L=>⟨L.1,L.2.1,L.2.2.mono fun _ hk=>hk⟩⟩⟩,J⟩
  refine Lv aG (mY E)<|aC<|aN<|ay<|av (au (dz m (fun x=>bC x v.o v.aS) (m.T.path (v.node))))<|av (.nilFunc)<|av (au (dz m (fun x=>bC x v.o v.aS) (m.T.path (v.node))))<|aC<|Wr<|sR<|aJ (.tuple #[.nilFunc,au (dz m (fun x=>bC x v.o v.aS) (m.T.path (v.node)))]) ?_;have k:jK m v=dz m (fun x=>bC x v.o v.aS) (m.T.path (v.node)):=by unfold jK; rw[b_ (show ¬ gW m v.o v.req=true by unfold gW; rw[pJ jY]; decide)]; rw[b_ (by rw[s]; decide)]
  exact⟨⟨.nilFunc,0,#[],by rw[k],rfl,fun A=>N_ (k.symm.trans A) (by first|decide|omega|assumption)⟩,J⟩
 rw[U_]at s;refine mF (aai v.node nR) aF (by rw[s])<|Ln<|bf aG<|bS<|aN<|ay<|av (.nilFunc)<|av (au 9)<|aC<|Wr<|sR<|aJ (.tuple #[.nilFunc,au 9]) ?_;have k:jK m v=9:=by unfold jK; rw[b_ (show ¬ gW m v.o v.req=true by unfold gW; rw[pJ jY]; decide)]; exact d_ s
 exact⟨⟨.nilFunc,0,#[],by rw[k],rfl,fun A=>N_ (k.symm.trans A) (by first|decide|omega|assumption)⟩,I⟩
theorem YZ(m:dU)(A B:Nat)(w:World)(h:mD w B A m)(v:EvM)(hv:bR v=true)(hwf:gU v) :
 Calls Tryz.prog 165 #[(pt A),.agg (aA 14 (bU v))] w fun e w'=>Ry w B A m (iF m v) (jo m v) e w':=by
 have hC:=h.c;have hT:=h.t;have hP:=h.p;have hR:=h.r;have hG:=h.g;have hA:=h.a;have hN:=h.ne;have lC:=h.c.lt;have lT:=h.t.lt;have lP:=h.p.lt;have lR:=h.r.lt;have lG:=h.g.lt;have lA:=h.a.lt;obtain⟨a,ha,ho⟩ : ∃ a:Nat,a<6/\v.o=(a:Int)+1:=fH (iP hv);have hra:aO v=a:=by unfold aO; omega
 have ac:=Eh hv hwf;have hvo:1<=v.o/\v.o<=6:=by omega
 refine Kent Tryz.func165 56 ?_;refine ay<|yZ (pt A) fun K w1 lK m1 s1 z1 => ?_;have⟨m2,m4,m5,m6,m7,b1⟩:=um s1.old hC hP hR hG hA (Below.refl w.heap.size w);have sU:=ig lK;have⟨nP,zD,xB,Bg,zA⟩:=Dq lK hC.lt hP.lt hR.lt hG.lt hA.lt;have uq:=m1.lt;refine qD fun n w2 Ak E s2 z2 => ?_;have⟨m9,m11,m12,m13,m14,m15,b2⟩:=jQ s2.old m2 m4 m5 m6 m7 m1 b1;have pV:=iV Ak b1.size;have⟨K6,Fw,Fy,Aa,Fz,BK⟩:=IU Ak m2.lt m4.lt m5.lt m6.lt m7.lt m1.lt;have zy:=E.lt;refine av (.nilFunc)<|av (au 0)<|aC<|Ws ?_;refine Jt (T1:=113) (T2:=113) (T1':=113) (T2':=113) (a1 := .tmp 6) (v1 := .tmp 16) (a2 := .tmp 7) (v2 := .tmp 21) (m1:=2) (m2:=2) (z1:=fun d=>if d<1 then au 0 else aD 0) (y1:=bI (bI (fun d=>if d<1 then au 0 else aD 0) 0 1 (fun _=>au v.o)) 1 1 (fun _=>aD v.req)) (z2:=fun d=>if d<1 then au 0 else aD 0) (y2:=bI (bI (fun d=>if d<1 then au 0 else aD 0) 0 1 (fun _=>au v.o)) 1 1 (fun _=>aD v.of)) (u1 := .agg (aA 2 (bI (bI (fun d=>if d<1 then au 0 else aD 0) 0 1 (fun _=>au v.o)) 1 1 (fun _=>aD v.req)))) (u2 := .agg (aA 2 (bI (bI (fun d=>if d<1 then au 0 else aD 0) 0 1 (fun _=>au v.o)) 1 1 (fun _=>aD v.of)))) 10 11 12 13 [[],[],[],[],[],[],[],[],[],[],[],[],[(0,[10]),(1,[11])],[(0,[10]),(1,[11]),(2,[12])]] [[(2,[0]),(3,[0])],[(2,[1]),(3,[1])],[(2,[2]),(3,[2])],[(2,[3]),(3,[3])],[(2,[4]),(3,[4])],[(3,[5])],[(3,[6])],[(3,[7])],[(3,[8])],[(3,[9])],[(2,[10]),(3,[10])],[(2,[11]),(3,[11])],[(3,[12])],[]] #[(pt n),au v.o,(pf n 12),aD v.req,.agg (aA 2 (bI (bI (fun d=>if d<1 then au 0 else aD 0) 0 1 (fun _=>au v.o)) 1 1 (fun _=>aD v.req))),(pt n),au v.o,(pf n 13),aD v.of,.agg (aA 2 (bI (bI (fun d=>if d<1 then au 0 else aD 0) 0 1 (fun _=>au v.o)) 1 1 (fun _=>aD v.of))),undef,undef,undef,undef] (by kernel_rfl) (by kernel_rfl) (by kernel_rfl) (by kernel_rfl) (by kernel_rfl) (by kernel_rfl) (by kernel_rfl) (by kernel_rfl) (by kernel_rfl) (by kernel_rfl) rfl rfl (by kernel_rfl) (by kernel_rfl) rfl rfl rfl rfl (by kernel_rfl) (by kernel_rfl) (fun k l=>(show ev _ (.tmp 6)=(pt k)from by kernel_rfl)) (fun k l=>(show ev _ (.tmp 7)=(pt l)from by kernel_rfl)) (fun k l=>(show ev _ (.tmp 16) = .agg (aA 2 (bI (bI (fun d=>if d<1 then au 0 else aD 0) 0 1 (fun _=>au v.o)) 1 1 (fun _=>aD v.req)))from by kernel_rfl)) (fun k l=>(show ev _ (.tmp 21) = .agg (aA 2 (bI (bI (fun d=>if d<1 then au 0 else aD 0) 0 1 (fun _=>au v.o)) 1 1 (fun _=>aD v.of)))from by kernel_rfl)) (bJ _ _) (bJ _ _) (bP (bP (fun jq _=>by show((fun d=>if d<1 then au 0 else aD 0:Nat->Value) jq).oneCell'=true; simp only[]; repeat (first|rfl|split)) (fun _ _=>rfl)) (fun _ _=>rfl)) (bP (bP (fun jq _=>by show((fun d=>if d<1 then au 0 else aD 0:Nat->Value) jq).oneCell'=true; simp only[]; repeat (first|rfl|split)) (fun _ _=>rfl)) (fun _ _=>rfl)) (fun k l => ?_) ?_
 ·refine⟨?_,?_,?_,?_,?_,?_,?_,?_,?_,?_,?_,?_,?_,?_,trivial⟩
  ·exact .inr oD
  ·exact .inr (nC (au v.o) fun G u=>bF (x:=bU v) rfl (show ev _ (.tmp 12)=(pt n)from by kernel_rfl) (by kernel_rfl) (E.aH.below u (by have:=E.lt; omega)) (i:=0) (by omega) (by omega) rfl)
  ·exact .inr oD
  ·exact .inr (nC (aD v.req) fun G u=>bF (x:=bU v) rfl (show ev _ (.tmp 14)=(pf n 12)from by kernel_rfl) (by kernel_rfl) (E.aH.below u (by have:=E.lt; omega)) (i:=12) (by omega) (by omega) rfl)
  ·exact .inr (nC (.agg (aA 2 (bI (bI (fun d=>if d<1 then au 0 else aD 0) 0 1 (fun _=>au v.o)) 1 1 (fun _=>aD v.req)))) fun G u=>fU (vs := [(0,au v.o),(1,aD v.req)]) (places := #[(0,1),(1,1)]) (m:=2) (x:=fun d=>if d<1 then au 0 else aD 0) rfl (Fx.Mt (show ev _ (.tmp 13)=au v.o from by kernel_rfl) (show ev _ (.tmp 15)=aD v.req from by kernel_rfl)) Tryz.underlying113 (by kernel_rfl) (by kernel_rfl) (by rw[aZ (off:=0) (s:=1) (y:=fun _=>au v.o) (by kernel_rfl) (cells_one (by rfl)) (by rfl)]; rw[aZ (off:=1) (s:=1) (y:=fun _=>aD v.req) (by kernel_rfl) (cells_one (by rfl)) (by rfl)]; rfl))
  ·exact .inr oD
  ·exact .inr (nC (au v.o) fun G u=>bF (x:=bU v) rfl (show ev _ (.tmp 17)=(pt n)from by kernel_rfl) (by kernel_rfl) (E.aH.below u (by have:=E.lt; omega)) (i:=0) (by omega) (by omega) rfl)
  ·exact .inr oD
  ·exact .inr (nC (aD v.of) fun G u=>bF (x:=bU v) rfl (show ev _ (.tmp 19)=(pf n 13)from by kernel_rfl) (by kernel_rfl) (E.aH.below u (by have:=E.lt; omega)) (i:=13) (by omega) (by omega) rfl)
  ·exact .inr (nC (.agg (aA 2 (bI (bI (fun d=>if d<1 then au 0 else aD 0) 0 1 (fun _=>au v.o)) 1 1 (fun _=>aD v.of)))) fun G u=>fU (vs := [(0,au v.o),(1,aD v.of)]) (places := #[(0,1),(1,1)]) (m:=2) (x:=fun d=>if d<1 then au 0 else aD 0) rfl (Fx.Mt (show ev _ (.tmp 18)=au v.o from by kernel_rfl) (show ev _ (.tmp 20)=aD v.of from by kernel_rfl)) Tryz.underlying113 (by kernel_rfl) (by kernel_rfl) (by rw[aZ (off:=0) (s:=1) (y:=fun _=>au v.o) (by kernel_rfl) (cells_one (by rfl)) (by rfl)]; rw[aZ (off:=1) (s:=1) (y:=fun _=>aD v.of) (by kernel_rfl) (cells_one (by rfl)) (by rfl)]; rfl))
  ·exact .inl rfl
  ·exact .inl rfl
  ·exact .inl rfl
  exact .inl rfl
 rintro k l w3 S P H I ne1 m16 m17 hb1;have ahu:A≠k:=u_ (n_ (m9.lt) H);have V6:m.pb≠k:=u_ (n_ (m11.lt) H);have V7:m.rb≠k:=u_ (n_ (m12.lt) H);have V9:m.gb≠k:=u_ (n_ (m13.lt) H);have Wd:m.ab≠k:=u_ (n_ (m14.lt) H);have apn:K≠k:=u_ (n_ (m15.lt) H);have aht:n≠k:=u_ (n_ (E.lt) H);have atr:A≠l:=u_ (n_ (m9.lt) I);have apo:m.pb≠l:=u_ (n_ (m11.lt) I);have apq:m.rb≠l:=u_ (n_ (m12.lt) I);have apr:m.gb≠l:=u_ (n_ (m13.lt) I);have aea:m.ab≠l:=u_ (n_ (m14.lt) I);have aeb:K≠l:=u_ (n_ (m15.lt) I);have att:n≠l:=u_ (n_ (E.lt) I);have⟨m18,m20,m21,m22,m23,m24,nk,b3⟩:=ng hb1 m9 m11 m12 m13 m14 m15 E b2;have H:w.heap.size<=k:=m_ b2.size H;have I4:=m16.lt;have I:w.heap.size<=l:=m_ b2.size I;have Rx:=m17.lt;have q1:S 2=(pt K):=by rw[P]; kernel_rfl
 have q2:S 3=(pt n):=by rw[P]; kernel_rfl
 have q3:S 4 = .nilFunc:=by rw[P]; kernel_rfl
 have q4:S 5=au 0:=by rw[P]; kernel_rfl
 have q5:S 6=(pt k):=by rw[P]; kernel_rfl
 have q6:S 7=(pt l):=by rw[P]; kernel_rfl
 clear P;refine sN<|Ws<|Ws ?_;refine jV [0,1,2,3,4,5] [4,0,0,4,4,4] [] fun pQ dR iG => ?_;have⟨og,om,nI,oF,lX,m32,pR,nQ,oq,b4⟩:=uQ dR m18 m20 m21 m22 m23 m24 nk m16 m17 b3;refine Rs (pt A) (aL m32.aH 0 (ha:=q1)) ?_;refine bf (pt A)<|bf (pf A 28)<|Rs (.map (some m.ab)) (aL og.aH 28) ?_;refine Rs (.agg (aA 2 (bI (bI (fun d=>if d<1 then au 0 else aD 0) 0 1 (fun _=>au v.o)) 1 1 (fun _=>aD v.req)))) (fP nQ.aH 0 (ha:=q5)) ?_
 rcases Fx.xU m.ao m.ar m.an v.o v.req with ⟨VF,C8,C9,Lf⟩|jY
 ·refine Rs aG (Fx.J9 (z := .bool false) rfl rfl ((show ev _ _ = .agg (aA 2 (bI (bI (fun d=>if d<1 then au 0 else aD 0) 0 1 (fun _=>au v.o)) 1 1 (fun _=>aD v.req)))from rfl).trans (Fx.zw (y:=bI (bI (fun d=>if d<1 then au 0 else aD 0) 0 1 (fun _=>au v.o)) 1 1 (fun _=>aD v.req)) (a:=v.o) (b:=v.req) (Fx.Au (by omega) (Fx.qz (j:=0) (by omega) (by omega) rfl)) (Fx.qz (j:=0) (by omega) (by omega) rfl))) ac.1 lX Tryz.underlying103 Gm (by rfl) C8 C9 Lf rfl) ?_;refine bS<|aN<|ay<|av (.nilFunc)<|av (au 14)<|aC<|Wr<|sR<|aJ (.tuple #[.nilFunc,au 14]) ?_;have C:jo m v=14:=by unfold jo; exact d_ (sQ C8 C9 Lf)
  exact⟨⟨.nilFunc,0,#[],by rw[C],rfl,fun L=>N_ (C.symm.trans L) (by first|decide|omega|assumption)⟩,b4⟩
 refine Rs aF (Fx.J8 (z := .bool false) rfl rfl ((show ev _ _ = .agg (aA 2 (bI (bI (fun d=>if d<1 then au 0 else aD 0) 0 1 (fun _=>au v.o)) 1 1 (fun _=>aD v.req)))from rfl).trans (Fx.zw (y:=bI (bI (fun d=>if d<1 then au 0 else aD 0) 0 1 (fun _=>au v.o)) 1 1 (fun _=>aD v.req)) (a:=v.o) (b:=v.req) (Fx.Au (by omega) (Fx.qz (j:=0) (by omega) (by omega) rfl)) (Fx.qz (j:=0) (by omega) (by omega) rfl))) ac.1 lX Tryz.underlying103 Gm (by rfl) jY) ?_;refine bS<|aK<|Wk<|sN<|Ws ?_;refine jV [0,1,2,3,4,5,6,7,8,9,10,11] [1,0,0,1,1,1,0,0,0,2,3,0] [(10,0,[0]),(10,3,[3]),(10,4,[4]),(10,5,[5]),(10,9,[9]),(11,9,[9]),(11,10,[10])] fun CP gJ nO => ?_;have⟨U,qR,oP,V,nJ,W,nK,sZ,X,Y⟩:=uQ gJ og om nI oF lX m32 pR nQ oq b4;refine Rd (v:=(pt A)) (by rfl) (by rfl) (uN _) (fun G u=>bF (x:=fun _=>(pt A)) rfl q1 (by kernel_rfl) (W.aH.below u (by have:=W.lt; omega)) (i:=0) (by omega) (by omega) rfl) ?_;refine bf (pt A)<|bf (pf A 27)<|Rd (v := .map (some m.gb)) (by rfl) (by rfl) (uN _) (fun G u=>bF (x:=vE m) rfl rfl (by kernel_rfl) (U.aH.below u (by have:=U.lt; omega)) (i:=27) (by omega) (by omega) rfl) ?_;refine Rd (v := .agg (aA 2 (bI (bI (fun d=>if d<1 then au 0 else aD 0) 0 1 (fun _=>au v.o)) 1 1 (fun _=>aD v.of)))) (by rfl) (by rfl) (uN _) (fun G u=>eU (x:=bI (bI (fun d=>if d<1 then au 0 else aD 0) 0 1 (fun _=>au v.o)) 1 1 (fun _=>aD v.of)) (y:=bI (bI (fun d=>if d<1 then au 0 else aD 0) 0 1 (fun _=>au v.o)) 1 1 (fun _=>aD v.of)) rfl q6 (by kernel_rfl) (by kernel_rfl) (X.aH.below u (by have:=X.lt; omega)) (i:=0) (by omega) (by omega) (fun j _=>by rw[H_])) ?_
 rcases Fx.xU (fun i=>m.g i 0) (fun i=>m.g i 1) m.gn v.o v.of with ⟨f,Q,M,N⟩|aax
 ·refine Rd (v := .tuple #[.agg (aA 5 (iE (m.g f))),.bool true]) (by rfl) (by rfl) (uN _) (fun G u=>Fx.P7 (z := .agg (aA 5 (fun d=>if d<1 then au 0 else if d<3 then aD 0 else if d<4 then au 0 else aD 0))) rfl rfl ((show ev _ _ = .agg (aA 2 (bI (bI (fun d=>if d<1 then au 0 else aD 0) 0 1 (fun _=>au v.o)) 1 1 (fun _=>aD v.of)))from rfl).trans (Fx.zw (y:=bI (bI (fun d=>if d<1 then au 0 else aD 0) 0 1 (fun _=>au v.o)) 1 1 (fun _=>aD v.of)) (a:=v.o) (b:=v.of) (Fx.Au (by omega) (Fx.qz (j:=0) (by omega) (by omega) rfl)) (Fx.qz (j:=0) (by omega) (by omega) rfl))) ac.2 (V.up u) Tryz.underlying102 Gm (by kernel_rfl) Q M N rfl) ?_;refine bf (.tuple #[.agg (aA 5 (iE (m.g f))),.bool true])<|bf (.agg (aA 5 (iE (m.g f))))<|bf aG<|BA<|uh 5 (fun d=>if d<1 then au 0 else if d<3 then aD 0 else if d<4 then au 0 else aD 0) fun D w4 eg5 nR s6 z3 => ?_;have⟨sw,rA,qU,uU,tV,rD,rE,tu,qV,b6⟩:=uQ s6.old U qR oP V nJ W nK sZ X Y;have lg5:=iV eg5 Y.size;have⟨aps,apt,apu,apv,apw,apx,apy,apz,apA⟩:=XH eg5 U.lt qR.lt oP.lt V.lt nJ.lt W.lt nK.lt sZ.lt X.lt;have tg5:=nR.lt;refine Ln ⟨s6.old,?_⟩;refine gQ<|fA nR 0 (h1:=(fun j hj=>by rcases j with _|_|_|_|_|_|_|_|_|_|_|_|_|_|j <;> first|rfl|omega)) fun w5 qw s7 z4 => ?_
  have qx:aQ w5 D 5 (iE (m.g f)) 66:=aU qw;have ad:aQ w5 D 5 (iE (m.g f)) 66:=qx;have fV:=gZ s7 nR.ty;have⟨qF,oo,tC,m64,wB,vN,wC,wD,tF⟩:=abk fV sw rA qU uU tV rD rE tu qV;have b7:=s7.below b6 b6.size (by omega);refine Ln<|bf aG<|bS<|Ws<|ay<|av aG<|av aF<|av aF<|av (pf D 4)<|Lv (aD ((m.g f) 4)) (aL ad.aH 4) ?_;by_cases SN:((m.g f) 4)=0
  ·refine Lv aF (jP SN)<|av aF<|aC<|aK<|Wk<|sN<|ay<|Lv (pt A) (aL vN.aH 0 (ha:=q1))<|av (pf D 2)<|Lv (aD ((m.g f) 2)) (aL ad.aH 2)<|Lv (.func (.func 178) #[] #[(pt n),(pt D)]) (Fx.mV (us := []) (vs := [(pt n),(pt D)]) rfl rfl (Fx.args2 q2 rfl))<|mE (VT m A B _ (h.up b7) ((m.g f) 2) v (m.g f) hvo n D wC ad) ?_;rintro e9 w6 ⟨⟨aa,fi1,Qa,he,ho1,hD1⟩,F⟩;refine⟨_,he,?_⟩;clear he;have⟨uI,xq,vO,yN,uW,xE,xW,xX,xu,xG,b8⟩:=Et F qF oo tC m64 wB vN wC wD tF ad b7;have bw1:Bw w6 w6:=⟨Below.refl _ _⟩;refine av (.tuple #[aa,au (dz m (fun x=>bG x v.o (m.g f 3)) (m.T.path ((m.g f) 2)))])<|av (aa)<|av (au (dz m (fun x=>bG x v.o (m.g f 3)) (m.T.path ((m.g f) 2))))<|uh 1 (fun _ => .nilFunc) fun O w7 eg6 wE s9 z5 => ?_;have⟨zN,zO,AQ,ED,Dy,BO,b9⟩:=jQ s9.old xE xW xX xu xG bw1 b8;have lg6:=iV eg6 b8.size;have⟨apC,apD,apE,apF,apG,apH,apI,apJ,apK,apL⟩:=ZV eg6 uI.lt xq.lt vO.lt yN.lt uW.lt xE.lt xW.lt xX.lt xu.lt xG.lt;have tg6:=wE.lt;have kg6:w6.heap.size<=O:=(by rw[eg6]; exact bw1.b.size);refine jd wE 0 aa (h1:=ho1) fun w8 CV s10 z6 => ?_;have zS:aQ w8 O 1 (fun _=>aa) 107:=dK CV;have jJ:=gZ s10 wE.ty;have⟨wN,uw,pY,oZ,qJ⟩:=sj jJ zN zO AQ ED Dy;have qb:=(⟨s10.below BO.b BO.b.size kg6⟩:Bw w6 _);have b10:=s10.below b9 b9.size (by omega);refine av (au (dz m (fun x=>bG x v.o (m.g f 3)) (m.T.path ((m.g f) 2))))<|aC<|Ws<|ay<|av (au (dz m (fun x=>bG x v.o (m.g f 3)) (m.T.path ((m.g f) 2)))) ?_;by_cases Z:(dz m (fun x=>bG x v.o (m.g f 3)) (m.T.path ((m.g f) 2)))=0
   ·refine Lv aF (jP Z)<|aC<|aK<|Wk<|sN<|ay<|Lv (.func (.func 180) #[] #[(pt O),(pt K),(pt k),(pt n),(pt D),(pt l)]) (Fx.mV (us := []) (vs := [(pt O),(pt K),(pt k),(pt n),(pt D),(pt l)]) rfl rfl (Fx.ahO rfl q1 q5 q2 rfl q6))<|av (.func (.func 180) #[] #[(pt O),(pt K),(pt k),(pt n),(pt D),(pt l)])<|av (au 0)<|aC<|Wr<|aJ (.tuple #[.func (.func 180) #[] #[(pt O),(pt K),(pt k),(pt n),(pt D),(pt l)],au 0]) ?_;have J:fE m v.o v.of=f:=yU h.g.inj Q M N;have hD0:=hD1 Z;have hfe:=hD0.e;subst hfe;have em:iF m v=Ph m (qM m (fun x=>bG x v.o (m.g f 3)) (m.T.path (m.g f 2))).R v f:=(by unfold iF VZ; rw[J]);rw[em];have C:jo m v=0:=by unfold jo; rw[b_ (show ¬ gW m v.o v.req=true by unfold gW; rw[pJ jY]; decide)]; rw[b_ (show ¬ (iK m v.o v.of=false\/m.g (fE m v.o v.of) 4≠0) by rw[J,show iK m v.o v.of=true from sQ Q M N]; rintro (q|q) <;> first|(exact N_ q (by decide))|omega),J]; exact Z
    exact⟨⟨_,180,#[(pt O),(pt K),(pt k),(pt n),(pt D),(pt l)],by rw[C],rfl,fun _=>⟨rfl,⟨_,_,Tryz.func180,rfl,rfl⟩,fun w2 F=>(VX m A B w2 ((h.up b10).up F) v hv hwf _ w5.heap.size w.heap.size _ (by omega) _ (hD0.up (Iw qb.b F)) f _ _ _ _ _ _ (zS.cZ (Sb F) (u_ zS.lt)) (wN.cZ (Sb F) (u_ wN.lt)) (pY.cZ (Sb F) (u_ pY.lt)) (uw.cZ (Sb F) (u_ uw.lt)) (qJ.cZ (Sb F) (u_ qJ.lt)) (oZ.cZ (Sb F) (u_ oZ.lt)) lg5 ⟨by omega,by omega,by omega,by omega,by omega⟩ jY Q M N).mono fun _ _ hc=>⟨hc.1,hc.2.1,hc.2.2.mono fun _ hk=>hk⟩⟩⟩,b10⟩
   refine Lv aG (mY Z)<|aC<|aN<|ay<|av (au (dz m (fun x=>bG x v.o (m.g f 3)) (m.T.path ((m.g f) 2))))<|av (.nilFunc)<|av (au (dz m (fun x=>bG x v.o (m.g f 3)) (m.T.path ((m.g f) 2))))<|aC<|Wr<|sR<|aJ (.tuple #[.nilFunc,au (dz m (fun x=>bG x v.o (m.g f 3)) (m.T.path ((m.g f) 2)))]) ?_;have J:fE m v.o v.of=f:=yU h.g.inj Q M N;have C:jo m v=dz m (fun x=>bG x v.o (m.g f 3)) (m.T.path ((m.g f) 2)):=by unfold jo; rw[b_ (show ¬ gW m v.o v.req=true by unfold gW; rw[pJ jY]; decide)]; rw[b_ (show ¬ (iK m v.o v.of=false\/m.g (fE m v.o v.of) 4≠0) by rw[J,show iK m v.o v.of=true from sQ Q M N]; rintro (q|q) <;> first|(exact N_ q (by decide))|omega),J]
   exact⟨⟨.nilFunc,0,#[],by rw[C],rfl,fun L=>N_ (C.symm.trans L) (by first|decide|omega|assumption)⟩,b10⟩
  refine Lv aG (mY SN)<|av aG<|aC<|aN<|ay<|av (.nilFunc)<|av (au 12)<|aC<|Wr<|sR<|aJ (.tuple #[.nilFunc,au 12]) ?_;have J:fE m v.o v.of=f:=yU h.g.inj Q M N;have C:jo m v=12:=by unfold jo; rw[b_ (show ¬ gW m v.o v.req=true by unfold gW; rw[pJ jY]; decide)]; exact d_ (.inr (by rw[J]; omega))
  exact⟨⟨.nilFunc,0,#[],by rw[C],rfl,fun L=>N_ (C.symm.trans L) (by first|decide|omega|assumption)⟩,b7⟩
 refine Rd (v := .tuple #[.agg (aA 5 (fun d=>if d<1 then au 0 else if d<3 then aD 0 else if d<4 then au 0 else aD 0)),.bool false]) (by rfl) (by rfl) (uN _) (fun G u=>Fx.P6 (z := .agg (aA 5 (fun d=>if d<1 then au 0 else if d<3 then aD 0 else if d<4 then au 0 else aD 0))) rfl rfl ((show ev _ _ = .agg (aA 2 (bI (bI (fun d=>if d<1 then au 0 else aD 0) 0 1 (fun _=>au v.o)) 1 1 (fun _=>aD v.of)))from rfl).trans (Fx.zw (y:=bI (bI (fun d=>if d<1 then au 0 else aD 0) 0 1 (fun _=>au v.o)) 1 1 (fun _=>aD v.of)) (a:=v.o) (b:=v.of) (Fx.Au (by omega) (Fx.qz (j:=0) (by omega) (by omega) rfl)) (Fx.qz (j:=0) (by omega) (by omega) rfl))) ac.2 (V.up u) Tryz.underlying102 Gm (by kernel_rfl) aax) ?_;refine bf (.tuple #[.agg (aA 5 (fun d=>if d<1 then au 0 else if d<3 then aD 0 else if d<4 then au 0 else aD 0)),.bool false])<|bf (.agg (aA 5 (fun d=>if d<1 then au 0 else if d<3 then aD 0 else if d<4 then au 0 else aD 0)))<|bf aF<|BA<|uh 5 (fun d=>if d<1 then au 0 else if d<3 then aD 0 else if d<4 then au 0 else aD 0) fun g7 w9 eg7 rG s11 z7 => ?_;have b11:=bH s11.old Y;have lg7:=iV eg7 Y.size;have⟨ajX,ajY,ajZ,akb,akc,akd,ake,akf,akg⟩:=XH eg7 U.lt qR.lt oP.lt V.lt nJ.lt W.lt nK.lt sZ.lt X.lt;have tg7:=rG.lt;refine Ln ⟨s11.old,?_⟩;refine gQ<|fA rG 0 (h1:=(fun j hj=>by rcases j with _|_|_|_|_|_|_|_|_|_|_|_|_|_|j <;> first|rfl|omega)) fun sV qK s12 z8 => ?_
 have yh:aQ sV g7 5 (fun d=>if d<1 then au 0 else if d<3 then aD 0 else if d<4 then au 0 else aD 0) 66:=aU qK;have b12:=s12.below b11 b11.size (by omega);refine Ln<|bf aF<|bS<|Ws<|ay<|av aF<|av aG<|av aG<|bX<|bX<|bX<|av aG<|aC<|aN<|ay<|av (.nilFunc)<|av (au 12)<|aC<|Wr<|sR<|aJ (.tuple #[.nilFunc,au 12]) ?_;have C:jo m v=12:=by unfold jo; rw[b_ (show ¬ gW m v.o v.req=true by unfold gW; rw[pJ jY]; decide)]; exact d_ (.inl (pJ aax))
 exact⟨⟨.nilFunc,0,#[],by rw[C],rfl,fun L=>N_ (C.symm.trans L) (by first|decide|omega|assumption)⟩,b12⟩
namespace Rt
noncomputable def iO(m:dU)(v:EvM):dU:=if v.kind=1 then Da m v else if v.kind=2 then uH m v else if v.kind=3 then kL m v else if v.kind=4 then iF m v else if v.kind=5 then CZ m v else if v.kind=6 then Hy m v else Ch m v
def eF(m:dU)(v:EvM):Int:=if v.kind=1 then iY m v else if v.kind=2 then jE m v else if v.kind=3 then jK m v else if v.kind=4 then jo m v else if v.kind=5 then kK m v else if v.kind=6 then 0 else 0
def bV(m:dU)(v:EvM):Int:=if bR v=false then 1 else if mI m.known v=true then 14 else if dD m.known v=false then 13 else if m.inn (aO v)=false\/m.left (aO v)=true then 10 else eF m v
structure QlK(m:dU):Prop where
 own : ∀ a,a<6->0<=m.own a/\m.own a<=1000
 row : ∀ i,i<m.T.n -> ∀ p,p<54->0<=m.R i p/\m.R i p<=1125899906842624
 ga:Q0 m
 kn:Gd m.known
def kfn(k:Nat):Nat:=if k=1 then 162 else if k=2 then 163 else if k=3 then 164 else if k=4 then 165 else if k=5 then 166 else if k=6 then 167 else 168
def Gn:Nat->Value:=fun p=>if p=0 then .nilFunc else .func (.func (kfn p)) #[] #[]
theorem Y0{p:Nat}(h:1<=p):Gn p = .func (.func (kfn p)) #[] #[]:=b_ (by omega)
end Rt
theorem ahT {k : Nat} (h1 : 1 ≤ k) (b : k ≤ 7) : ∃ a c, Tryz.prog.funcs[kfn k]? = some a ∧ (a.name == "runtime.NumGoroutine") = false ∧ a.body = some c := by
 rcases(show k=1\/k=2\/k=3\/k=4\/k=5\/k=6\/k=7 by omega)with rfl|rfl|rfl|rfl|rfl|rfl|rfl
 ·exact⟨_,_,Tryz.func162,rfl,rfl⟩
 ·exact⟨_,_,Tryz.func163,rfl,rfl⟩
 ·exact⟨_,_,Tryz.func164,rfl,rfl⟩
 ·exact⟨_,_,Tryz.func165,rfl,rfl⟩
 ·exact⟨_,_,Tryz.func166,rfl,rfl⟩
 ·exact⟨_,_,Tryz.func167,rfl,rfl⟩
 exact⟨_,_,Tryz.func168,rfl,rfl⟩
theorem Vh.low{w:World}{B f b c d:Nat}{m g:dU}{e:Value}{cap:Array Value}(h:Vh w B f m g b e d cap)(i:c<=b):Vh w B f m g c e d cap := { h with s:=fun n j=>(h.s n j).mono fun _ _ a=>⟨a.1,a.2.1,a.2.2.mono fun k l=>l.imp id (m_ i)⟩ }
theorem Y1(m:dU)(a B:Nat)(w:World)(h:mD w B a m)(v:EvM)(d:bR v=true)(f:gU v)(e:QlK m)(k:Nat)(l:v.kind=(k:Int))(j:1<=k/\k<=7) :
 Calls Tryz.prog (kfn k) #[(pt a),.agg (aA 14 (bU v))] w (Ry w B a m (iO m v) (eF m v)):=by
 rcases(show k=1\/k=2\/k=3\/k=4\/k=5\/k=6\/k=7 by omega)with rfl|rfl|rfl|rfl|rfl|rfl|rfl
 ·have c:v.kind=1:=by omega
  rw[show iO m v=Da m v by unfold iO; rw[d_ (by omega)],show eF m v=iY m v by unfold eF; rw[d_ (by omega)]];exact YU m a B w h v d e.own
 ·have c:v.kind=2:=by omega
  rw[show iO m v=uH m v by unfold iO; rw[b_ (by omega),d_ (by omega)],show eF m v=jE m v by unfold eF; rw[b_ (by omega),d_ (by omega)]];exact Vs m a B w h v d c e.row
 ·have c:v.kind=3:=by omega
  rw[show iO m v=kL m v by unfold iO; rw[b_ (by omega),b_ (by omega),d_ (by omega)],show eF m v=jK m v by unfold eF; rw[b_ (by omega),b_ (by omega),d_ (by omega)]];exact YX m a B w h v d f e.ga
 ·have c:v.kind=4:=by omega
  rw[show iO m v=iF m v by unfold iO; rw[b_ (by omega),b_ (by omega),b_ (by omega),d_ (by omega)],show eF m v=jo m v by unfold eF; rw[b_ (by omega),b_ (by omega),b_ (by omega),d_ (by omega)]];exact YZ m a B w h v d f
 ·have c:v.kind=5:=by omega
  rw[show iO m v=CZ m v by unfold iO; rw[b_ (by omega),b_ (by omega),b_ (by omega),b_ (by omega),d_ (by omega)],show eF m v=kK m v by unfold eF; rw[b_ (by omega),b_ (by omega),b_ (by omega),b_ (by omega),d_ (by omega)]];exact YJ m a B w h v d c
 ·have c:v.kind=6:=by omega
  rw[show iO m v=Hy m v by unfold iO; rw[b_ (by omega),b_ (by omega),b_ (by omega),b_ (by omega),b_ (by omega),d_ (by omega)],show eF m v=0 by unfold eF; rw[b_ (by omega),b_ (by omega),b_ (by omega),b_ (by omega),b_ (by omega),d_ (by omega)]];obtain⟨b,g,i⟩:=G8 d c;exact YK m a B w h v d b g i
 have c:v.kind=7:=by omega
 rw[show iO m v=Ch m v by unfold iO; rw[b_ (by omega),b_ (by omega),b_ (by omega),b_ (by omega),b_ (by omega),b_ (by omega)],show eF m v=0 by unfold eF; rw[b_ (by omega),b_ (by omega),b_ (by omega),b_ (by omega),b_ (by omega),b_ (by omega)]];exact Vw m a B w h v d
theorem Pj(m:dU)(b B:Nat)(w:World)(h:mD w B b m)(v:EvM)(n:gU v)(R:QlK m)(hB:1<=B)(N:iQ w 0 0 8 Gn) :
 Calls Tryz.prog 40 #[(pt b),.agg (aA 14 (bU v))] w fun e w'=>Ry w B b m (iO m v) (bV m v) e w':=by
 have M:=h.c;have hT:=h.t;have hP:=h.p;have hR:=h.r;have hG:=h.g;have hA:=h.a;have hN:=h.ne;have lC:=h.c.lt;have lT:=h.t.lt;have lP:=h.p.lt;have lR:=h.r.lt;have lG:=h.g.lt;have lA:=h.a.lt;obtain⟨s,Q⟩ : ∃ s:Nat,v.kind=(s:Int):=⟨v.kind.toNat,by have:=n.kind; omega⟩;have O:Kr m.known:=fun i hi=>by have:=R.kn i hi; exact⟨by omega,by omega⟩
 refine Kent Tryz.func40 55 ?_;refine ay<|qD fun y w1 A F s1 z1 => ?_;have⟨m2,m8,H⟩:=jw s1.old M N (Below.refl w.heap.size w);have sU:=ig A;have⟨nP,zD,xB,Bg,zA⟩:=Dq A M.lt hP.lt hR.lt hG.lt hA.lt;have KD:0≠y:=by rw[A]; exact u_ (N.lt (by omega))
 have uq:=F.lt;refine av (.nilFunc)<|av (au 0)<|aC<|Ws<|Wb<|ay<|av (pt b)<|Lv aF (Fx.yH rfl rfl rfl (by kernel_rfl))<|av aF<|aC<|aK<|ay<|Lv (.agg (aA 14 (bU v))) (fP F.aH 0) ?_;by_cases k:(bR v)=true
 ·have D:bR v=true:=k;obtain⟨a,ha,ho⟩ : ∃ a:Nat,a<6/\v.o=(a:Int)+1:=fH (iP D);have E:aO v=a:=by unfold aO; omega
  have hkr:=jh D;refine dZ (Hu v _ n) aG (by rw[k]) ?_;intro w2 hb1;have⟨m9,m15,m16,b2⟩:=kR hb1 m2 m8 F H;refine av aF<|av aF<|aC<|aK<|Ws ?_;refine jV [0,1,2,3,4,5,6] [0,0,0,4,4,3,0] [(5,3,[3]),(5,4,[4]),(6,5,[5])] fun pQ dR iG => ?_;have⟨S,m23,T,I⟩:=kR dR m9 m15 m16 b2;refine bf (pt b)<|bf (pt b)<|bf (pf b 12)<|Rs (.agg (aA 6 (rv .u64 m.known))) (fP S.aH 12 (fun j hj=>vF (p:=j) (by omega) (by omega))) ?_;refine Rs (.agg (aA 14 (bU v))) (fP T.aH 0) ?_;refine gQ ?_;by_cases l:(mI m.known v)=true
  ·refine dZ (Vp m.known v _ n) aG (by rw[l]) ?_;intro w3 hb2;have b4:=bH hb2 I;refine Ln<|bf aG<|bS<|aN<|ay<|av (.nilFunc)<|av (au 14)<|aC<|Wr<|bO<|sR<|aJ (.tuple #[.nilFunc,au 14]) ?_;have d:bV m v=14:=(by unfold bV; rw[b_ (by rw[k]; decide)]; exact d_ l);exact⟨⟨.nilFunc,0,#[],by rw[d],rfl,fun f=>N_ (d.symm.trans f) (by first|decide|omega|assumption)⟩,b4⟩
  rw[U_]at l;refine dZ (Vp m.known v _ n) aF (by rw[l]) ?_;intro w4 hb3;have⟨pR,oP,rQ,b5⟩:=kR hb3 S m23 T I;refine Ln<|bf aF<|bS<|aK<|Ws ?_;refine jV [0,1,2,3,4,5,6,7] [0,0,0,4,4,3,0,0] [(5,3,[3]),(5,4,[4]),(6,5,[5]),(7,5,[5])] fun CP gJ nO => ?_;have⟨U,sw,V,J⟩:=kR gJ pR oP rQ b5;refine bf (pt b)<|bf (pt b)<|bf (pf b 12)<|Rs (.agg (aA 6 (rv .u64 m.known))) (fP U.aH 12 (fun j hj=>vF (p:=j) (by omega) (by omega))) ?_;refine Rs (.agg (aA 14 (bU v))) (fP V.aH 0) ?_;refine gQ ?_;by_cases q:(dD m.known v)=true
  ·refine dZ (O5 m.known v _ n O) aG (by rw[q]) ?_;intro w5 hb4;have⟨rA,tu,qV,b7⟩:=kR hb4 U sw V J;refine Ln<|bf aF<|bf aF<|bS<|aK<|Ws<|Ws ?_;refine jV [0,1,4,5,2,3,6,7,8,9] [0,0,4,0,0,0,0,4,0,0] [] fun Rv lW AJ => ?_;have⟨G,tC,W,K⟩:=kR lW rA tu qV b7;refine bf (pt b)<|bf (pt y)<|bf (pt b)<|bf (pt b)<|Rs (au v.o) (aL W.aH 0) ?_;refine Rp (au a) (fun _=>gH)<|Rp (pf b a) (fun _=>jC 6 1) ?_;by_cases u:(m.inn a)=true
   ·refine Rs aG (aL G.aH a ((Ce (by omega)).trans (M_ Value.bool u))) ?_;refine bf aF<|bf aF<|bS<|aK ?_;refine jV [0,1,4,5,2,3,6,7,8] [0,0,4,0,0,0,0,4,0] [] fun wt4 qP GL => ?_;have⟨X,uV,Y,L⟩:=kR qP G tC W K;refine bf (pt b)<|bf (pt y)<|bf (pt b)<|bf (pf b 6)<|Rs (au v.o) (aL Y.aH 0) ?_;refine Rp (au a) (fun _=>gH)<|Rp (pf b (a+6)) (fun _=>jC 6 1) ?_;by_cases x:(m.left a)=true
    ·refine Rs aG (aL X.aH (a+6) ((Bd (p:=a) (by omega) (by omega)).trans (M_ Value.bool x))) ?_;refine bf aG<|bS<|aN<|ay<|av (.nilFunc)<|av (au 10)<|aC<|Wr<|bO<|sR<|aJ (.tuple #[.nilFunc,au 10]) ?_;have d:bV m v=10:=(by unfold bV; rw[b_ (by rw[k]; decide)]; rw[b_ (by rw[l]; decide)]; rw[b_ (by rw[q]; decide)]; exact d_ (.inr (by rw[E]; exact x)));exact⟨⟨.nilFunc,0,#[],by rw[d],rfl,fun f=>N_ (d.symm.trans f) (by first|decide|omega|assumption)⟩,L⟩
    rw[U_]at x;refine Rs aF (aL X.aH (a+6) ((Bd (p:=a) (by omega) (by omega)).trans (M_ Value.bool x))) ?_;refine bf aF<|bS<|aK<|Wk<|bQ<|sN<|Ws ?_;refine jV [0,4,1,2,3,5,6,7,8,9,10] [0,4,0,4,0,4,3,0,0,0,0] [(6,1,[3,2,1]),(6,3,[3]),(6,5,[5]),(7,6,[6]),(8,6,[6]),(9,6,[6]),(10,6,[6])] fun wt5 zx SY => ?_;have⟨xu,Z,z⟩:=jw zx uV Y L;refine bf (pf y 8)<|bf (pt b)<|Rs (.int .u8 (s:Int)) (aL Z.aH 8 (M_ (Value.int IntKind.u8) Q)) ?_;refine Rp (pf 0 s) (fun _=>jC 8 1)<|Rs (.func (.func (kfn s)) #[] #[]) (aL xu s (Y0 (by omega))) ?_;refine Rs (.agg (aA 14 (bU v))) (fP Z.aH 0) ?_;refine gQ<|Ag (by rfl) (Fx.OY (args := [(pt b),.agg (aA 14 (bU v))]) rfl rfl rfl (by rfl) (ahT (by omega) (by omega))) rfl<|(Y1 m b B _ (h.up z) v D n R s Q (by omega)).mono ?_;rintro e9 w6 ⟨⟨C,fi1,Qa,P,ho1,hD1⟩,hb5⟩;refine⟨_,P,?_⟩;clear P;have aa:=bH hb5 z;refine Ln<|bf (C)<|bf (au (eF m v))<|bf (C)<|bf (au (eF m v))<|bS<|Wr<|aJ (.tuple #[C,au (eF m v)]) ?_;have d:bV m v=eF m v:=(by unfold bV; rw[b_ (by rw[k]; decide)]; rw[b_ (by rw[l]; decide)]; rw[b_ (by rw[q]; decide)]; exact b_ (by rw[E,u,x]; decide));exact⟨⟨_,_,_,by rw[d],ho1,fun f=>(hD1 (d.symm.trans f)).low z.size⟩,aa⟩
   rw[U_]at u;refine Rs aF (aL G.aH a ((Ce (by omega)).trans (M_ Value.bool u))) ?_;refine bf aG<|bf aG<|bS<|aN<|Wk<|sN<|aN<|ay<|av (.nilFunc)<|av (au 10)<|aC<|Wr<|bO<|sR<|aJ (.tuple #[.nilFunc,au 10]) ?_;have d:bV m v=10:=(by unfold bV; rw[b_ (by rw[k]; decide)]; rw[b_ (by rw[l]; decide)]; rw[b_ (by rw[q]; decide)]; exact d_ (.inl (by rw[E]; exact u)));exact⟨⟨.nilFunc,0,#[],by rw[d],rfl,fun f=>N_ (d.symm.trans f) (by first|decide|omega|assumption)⟩,K⟩
  rw[U_]at q;refine dZ (O5 m.known v _ n O) aF (by rw[q]) ?_;intro w7 hb6;have ab:=bH hb6 J;refine Ln<|bf aG<|bf aG<|bS<|aN<|ay<|av (.nilFunc)<|av (au 13)<|aC<|Wr<|bO<|sR<|aJ (.tuple #[.nilFunc,au 13]) ?_;have d:bV m v=13:=by unfold bV; rw[b_ (by rw[k]; decide)]; rw[b_ (by rw[l]; decide)]; exact d_ q
  exact⟨⟨.nilFunc,0,#[],by rw[d],rfl,fun f=>N_ (d.symm.trans f) (by first|decide|omega|assumption)⟩,ab⟩
 rw[U_]at k;refine dZ (Hu v _ n) aF (by rw[k]) ?_;intro w8 hb7;have ac:=bH hb7 H;refine av aG<|av aG<|aC<|aN<|ay<|av (.nilFunc)<|av (au 1)<|aC<|Wr<|bO<|sR<|aJ (.tuple #[.nilFunc,au 1]) ?_;have d:bV m v=1:=by unfold bV; exact d_ k
 exact⟨⟨.nilFunc,0,#[],by rw[d],rfl,fun f=>N_ (d.symm.trans f) (by first|decide|omega|assumption)⟩,ac⟩
namespace Rt
noncomputable def jL(m:dU)(v:EvM):dU:=if bV m v=0 then { iO m v with known:=aI (iO m v).known (aO v) ((iO m v).known (aO v)+1) } else m
theorem Lg(m:dU)(v:EvM):(iO m v).known=m.known:=by
 unfold iO
 repeat (first|rfl|split)
def H9:Nat->Int:=fun _=>0
def bA(m:dU)(k:Int):Nat->Int:=if m.T.has k=true then Bj m k else H9
end Rt
theorem mD.known{w w':World}{B d:Nat}{m:dU}{K:Nat->Int}(h:mD w B d m)(f:Stp d w w')(e:aQ w' d 29 (vE { m with known:=K }) 106):mD w' B d { m with known:=K }:=by
 have b:=gZ f h.c.ty;exact { c:=e,t:=h.t.kM b (by decide),p:=h.p.kM b trivial,r:=h.r.kM b trivial,g:=h.g.kM b trivial,a:=h.a.kM b trivial,ne:=⟨h.ne.mp,h.ne.mr,h.ne.mg,h.ne.ma,h.ne.pr,h.ne.pg,h.ne.pa,h.ne.rg,h.ne.ra,h.ne.ga⟩,lB:=h.lB,pB:=h.pB,rB:=h.rB,gB:=h.gB,aB:=h.aB }
theorem qj{m:dU}{v:EvM}(h:bV m v=0):bR v=true:=by
 cases hc:bR v with
 | true=>rfl
 | false=>unfold bV at h; rw[d_ hc]at h; cases h
theorem ql{m:dU}{v:EvM}(h:bV m v=0):v.seq=m.known (aO v)+1/\eF m v=0/\m.inn (aO v)=true/\m.left (aO v)=false:=by
 have d:=qj h;unfold bV at h;rw[b_ (by rw[d]; decide)]at h;by_cases c:mI m.known v=true
 ·rw[d_ c]at h; cases h
 rw[b_ c]at h;by_cases a:dD m.known v=false
 ·rw[d_ a]at h; cases h
 rw[b_ a]at h;by_cases b:m.inn (aO v)=false\/m.left (aO v)=true
 ·rw[d_ b]at h; cases h
 rw[b_ b]at h;refine⟨?_,h,?_,?_⟩
 ·have a:dD m.known v=true:=by cases e:dD m.known v with|true=>rfl|false=>exact N_ e a
  unfold dD at a;simp only[T_,Q_]at a;exact a.1.2
 ·cases e:m.inn (aO v)with|true=>rfl|false=>exact N_ (.inl e) b
 cases e:m.left (aO v)with|false=>rfl|true=>exact N_ (.inr e) b
theorem apM(m:dU)(b B:Nat)(w:World)(h:mD w B b m)(v:EvM)(D:gU v)(C:QlK m)(s:1<=B)(j:iQ w 0 0 8 Gn) :
 Calls Tryz.prog 22 #[(pt b),.agg (aA 14 (bU v))] w fun e G=>e = .returned (au (bV m v))/\Below w.heap.size w G:=by
 have u:=h.c;have M:=h.t;have y:=h.p;have z:=h.r;have x:=h.g;have q:=h.a;have L:=h.ne;have P:=h.c.lt;have T:=h.t.lt;have R:=h.p.lt;have S:=h.r.lt;have Q:=h.g.lt;have O:=h.a.lt;refine Kent Tryz.func22 14 ?_;refine ay<|qD fun o w1 d l F z1 => ?_;have⟨E,i⟩:=fD F.old j (Below.refl w.heap.size w);have U:=ig d;have⟨V,W,X,Y,Z⟩:=Dq d u.lt y.lt z.lt x.lt q.lt;have aa:0≠o:=by rw[d]; exact u_ (j.lt (by omega))
 have ab:=l.lt;refine av (au 0)<|aC<|ay<|av (pt b)<|Lv (.agg (aA 14 (bU v))) (fP l.aH 0)<|mE (Pj m b B _ (h.up i) v D C s E) ?_;rintro I w2 ⟨⟨f,J,H,k,N,K⟩,A⟩;refine⟨_,k,?_⟩;clear k;have n:=bH A i;refine av (.tuple #[f,au (bV m v)])<|av (f)<|av (au (bV m v))<|av (f)<|av (au (bV m v))<|aC<|ay<|av (au (bV m v))<|av (au (bV m v))<|aC<|Wr<|aJ (au (bV m v)) ?_;exact⟨rfl,n⟩
theorem Y2(m:dU)(b B:Nat)(w:World)(h:mD w B b m)(v:EvM)(hwf:gU v)(M:QlK m)(hB:1<=B)(I:iQ w 0 0 8 Gn) :
 Calls Tryz.prog 15 #[(pt b),.agg (aA 14 (bU v))] w fun e S=>e = .returned (au (bV m v))/\mD S B b (jL m v)/\jT (Vg m b w.heap.size) w S:=by
 have F:=h.c;have hT:=h.t;have hP:=h.p;have hR:=h.r;have hG:=h.g;have Z:=h.a;have hN:=h.ne;have lC:=h.c.lt;have lT:=h.t.lt;have lP:=h.p.lt;have lR:=h.r.lt;have lG:=h.g.lt;have lA:=h.a.lt;refine Kent Tryz.func15 30 ?_;refine ay<|qD fun E w1 x D s1 z1 => ?_;have⟨d,m8,l⟩:=jw s1.old F I (Below.refl w.heap.size w);have sU:=ig x;have⟨nP,zD,xB,Bg,zA⟩:=Dq x F.lt hP.lt hR.lt hG.lt Z.lt;have KD:0≠E:=by rw[x]; exact u_ (I.lt (by omega))
 have uq:=D.lt;refine av (au 0)<|aC<|ay<|av (pt b)<|Lv (.agg (aA 14 (bU v))) (fP D.aH 0)<|mE (Pj m b B _ (h.up l) v hwf M hB m8) ?_;rintro W w2 ⟨⟨z,Y,V,j,ho1,hD1⟩,hb1⟩;refine⟨_,j,?_⟩;clear j;have⟨O,n⟩:=fD hb1 D l;refine av (.tuple #[z,au (bV m v)])<|av (z)<|av (au (bV m v))<|av (z)<|av (au (bV m v))<|aC<|Ws<|ay<|av (au (bV m v)) ?_;by_cases i:(bV m v)=0
 ·refine Lv aF (jP i)<|aC<|aK<|Wk<|sN<|Ws ?_;have A:=hD1 i;have hfe:=A.e;subst hfe;refine Wl<|av (.func (.func Y) #[] V)<|Ag (by rfl) (Fx.OY (args := []) rfl rfl rfl (by simp) A.f) rfl<|(A.s _ (Below.refl _ _)).mono ?_;rintro W u ⟨j,C,G⟩;refine⟨_,j,?_⟩;clear j;have J:jT (Vg m b w.heap.size) w u:=(Fx.jT.of_below n) |> fun q=>Fx.jT.trans _ _ _ q (G.mono fun k hk=>hk.imp id (m_ l.size));obtain⟨d,y⟩ : ∃ q,q=iO m v:=⟨_,rfl⟩;rw[<- y]at C;have X:d.known=m.known:=by rw[y,Lg]
  have H:=C.c;have lC2:=H.lt;have hkb:=(ql i).1;have N:=qj i;obtain⟨a,K,ho⟩ : ∃ a:Nat,a<6/\v.o=(a:Int)+1:=fH (iP N);have hra:aO v=a:=by unfold aO; omega
  have hbd:=nX N;have hka:=M.kn a K;have P:=(h.up n).Jp (w':=u) (O) (by decide) G (by have:=O.lt; have:=l.size; omega);have awO:=P.lt;refine aC<|Ws ?_;refine jV [0,1,4,5,9,10,2,3,6,7,8,11,12] [0,0,4,0,0,0,0,4,0,0,0,0,3] [(12,2,[2]),(12,7,[7])] fun pQ L iG => ?_;have s3:Stp u.heap.size u pQ:=Sb L;have⟨Q,m19,m20⟩:=jw L H C P;have T:=J.then s3 (.inr J.size);refine bf (pt b)<|bf (pt E)<|bf (pt b)<|bf (pf b 12)<|bf (pt b)<|bf (pf b 12)<|Rs (au v.o) (aL m20.aH 0) ?_;refine Rp (au a) (fun _=>gH)<|Rp (pf b (a+12)) (fun _=>jC 6 1)<|Rs (aD (d.known a)) (aL Q.aH (a+12) (vF (p:=a) (by omega) (by omega))) ?_;refine Rp (aD (d.known a+1)) (fun v1=>Fx.Gs rfl rfl rfl (jN (by rw[X]; omega) rfl))<|Rp (pf b (a+12)) (fun _=>jC 6 1)<|gQ<|jd Q (a+12) (aD (d.known a+1)) fun w4 m21 R z2 => ?_;have m22:aQ w4 b 29 (vE { d with known:=aI d.known a (d.known a+1) }) 106:=m21.to (QT K (by omega) _);have U:=T.then R (.inl (.inl (.inl rfl)));refine Ln (bS (ay (av (au 0) (aC (Wr (aJ (au 0) (⟨by rw[i],?_,U⟩)))))));rw[show jL m v = { d with known:=aI d.known a (d.known a+1) } by unfold jL; rw[d_ i,<- y,hra]];exact m19.known R m22
 refine Lv aG (mY i) (aC (aN (ay (av (au (bV m v)) (av (au (bV m v)) (aC (Wr (sR (aJ (au (bV m v)) (⟨rfl,?_,Fx.jT.of_below n⟩))))))))));rw[show jL m v=m by unfold jL; exact b_ i]; exact h.up n
namespace Rt
def yB(k f c d e b a:Nat):dU := { inn:=fun i=>decide (i<k),left:=fun _=>false,known:=fun _=>0,own:=fun _=>0,T:=dJ.zero,R:=fun _ _=>0,gn:=0,g:=fun _ _=>0,an:=0,ao:=fun _=>0,ar:=fun _=>0,tp:=f,mb:=c,pb:=d,rb:=e,gb:=b,ab:=a }
end Rt
theorem Wh(k g c d f b a:Nat)(h:k<6):dB (vE (yB k g c d f b a)) k (.bool true)=vE (yB (k+1) g c d f b a):=by
 rw[Ve h];have:aI (yB k g c d f b a).inn k true=(yB (k+1) g c d f b a).inn:=by
  funext i
  show(if i=k then true else decide (i<k))=decide (i<k+1);by_cases e:i=k
  ·subst e; rw[d_ rfl]; exact(f_ (by omega)).symm
  ·rw[b_ e]; exact decide_eq_decide.2 (by omega)
 show vE { yB k g c d f b a with inn:=_ }=_;rw[this]; rfl
theorem ahU(k:Nat)(hk:1<=k/\k<=6)(w:World) :
 Calls Tryz.prog 14 #[au (k:Int)] w fun e w' => ∃ W m,e = .returned (.tuple #[(pt W),au 0])/\(∃ tp mb pb rb gb ab,m=yB k tp mb pb rb gb ab)/\mD w' w.heap.size W m/\Below w.heap.size w w':=by
 refine Kent Tryz.func14 30 ?_;refine ay<|av (.pointer none)<|av (au 0)<|aC<|Ws<|ay<|av (au k)<|Lv aF Gy<|av aF<|av (au k)<|Lv aF xQ<|av aF<|aC<|aK<|Wk<|sN<|ay<|mE (aah _) ?_;rintro e9 w1 ⟨n,x,V,hg1,X,hb1⟩;refine⟨_,V,?_⟩;clear V;have J:=bH hb1 (Below.refl w.heap.size w);have m2:sF w1 (w.heap.size) n x dJ.zero:=X.weak (Below.refl w.heap.size w).size;clear X hg1;refine Fx.L.J5 (by rfl) rfl rfl fun o w2 Q G s2 z1 => ?_;have⟨m4,K⟩:=fD s2.old m2 J;have sU:=iV Q J.size;have aec:=bZ Q m2.lt;have uq:=G.lt;refine Fx.L.J5 (by rfl) rfl rfl fun q w3 R H s3 z2 => ?_;have⟨m6,m7,M⟩:=jw s3.old m4 G K;have pV:=iV R K.size;have⟨aed,KH⟩:=vY R m4.lt G.lt;have zy:=H.lt;refine Fx.L.Sk (by rfl) rfl rfl fun s w4 S I s4 z3 => ?_;have⟨m9,Y,Z,N⟩:=kR s4.old m6 m7 H M;have za:=iV S M.size;have⟨aee,apN,V6⟩:=IQ S m6.lt m7.lt H.lt;have I4:=I.lt;refine Fx.L.Sk (by rfl) rfl rfl fun u w5 T E s5 z4 => ?_;have⟨m13,aa,ac,ad,O⟩:=uj s5.old m9 Y Z I N;have UU:=iV T N.size;have⟨aef,aea,aeb,aeg⟩:=XF T m9.lt Y.lt Z.lt I.lt;have Rx:=E.lt;refine av (.agg (aA 29 (bI (bI (bI (bI (bI (fun d=>if d<12 then .bool false else if d<18 then aD 0 else if d<19 then .pointer none else if d<21 then .map none else if d<27 then au 0 else .map none) 18 1 (fun _=>(pt n))) 19 1 (fun _ => .map (some o))) 20 1 (fun _ => .map (some q))) 27 1 (fun _ => .map (some s))) 28 1 (fun _ => .map (some u)))))<|DL (m:=29) (y:=bI (bI (bI (bI (bI (fun d=>if d<12 then .bool false else if d<18 then aD 0 else if d<19 then .pointer none else if d<21 then .map none else if d<27 then au 0 else .map none) 18 1 (fun _=>(pt n))) 19 1 (fun _ => .map (some o))) 20 1 (fun _ => .map (some q))) 27 1 (fun _ => .map (some s))) 28 1 (fun _ => .map (some u))) (by rfl) rfl rfl (bJ _ _) rfl fun b w6 U ae s6 z5 => ?_;have⟨m18,m19,m20,m21,m22,b6⟩:=um s6.old m13 aa ac ad E O;have lg5:=iV U O.size;have⟨apO,apP,apQ,apR⟩:=XF U aa.lt ac.lt ad.lt E.lt;have tg5:=ae.lt;have l:QlN (yB 0 n x o q s u):=⟨aec,aed,aee,aef,by assumption,by assumption,by assumption,by assumption,by assumption,by assumption⟩;have m23:aQ w6 b 29 (vE (yB 0 n x o q s u)) 106:=ae.congr (fun j hj=>match j,hj with|0,_=>rfl|1,_=>rfl|2,_=>rfl|3,_=>rfl|4,_=>rfl|5,_=>rfl|6,_=>rfl|7,_=>rfl|8,_=>rfl|9,_=>rfl|10,_=>rfl|11,_=>rfl|12,_=>rfl|13,_=>rfl|14,_=>rfl|15,_=>rfl|16,_=>rfl|17,_=>rfl|18,_=>rfl|19,_=>rfl|20,_=>rfl|21,_=>rfl|22,_=>rfl|23,_=>rfl|24,_=>rfl|25,_=>rfl|26,_=>rfl|27,_=>rfl|28,_=>rfl|j+29,h=>N_ h (by omega))
 refine av (pt b)<|aC<|Ws<|ay<|av (au k)<|av (au 0)<|aC<|Wb<|Wo (fun f z => ∃ i:Nat,i<=k/\f 4=(pt b)/\f 19=au (k:Int)/\f 20=au (i:Int)/\sF z (w.heap.size) n x dJ.zero/\Mp z o 0 (fun _=>0) (fun _ => .pointer none)/\Mp z q 0 (fun _=>0) (fun _ => .pointer none)/\iA z s 0 (fun _=>0) (fun _=>0) (fun _ => .pointer none)/\iA z u 0 (fun _=>0) (fun _=>0) (fun _ => .pointer none)/\aQ z b 29 (vE (yB i n x o q s u)) 106/\Below w.heap.size w z) (fun f _=>((k:Int)-intOf (f 20)).toNat) ⟨0,(by omega),(by rfl),Fx.ic,Fx.ic,m18,m19,m20,m21,m22,m23,b6⟩ ?_;rintro f1 w7 ⟨i,v,C,D,A,m24,nk,og,oh,om,F,B⟩;refine ay ?_;by_cases P:(i:Int)<(k:Int)
 ·refine Lv aG (gu P (hx:=A) (hy:=D))<|aC<|Ws<|aN<|Wk<|sN<|Ws<|Wb<|ay<|aT A<|av (au i)<|aC<|Wl<|aT C<|av (au i)<|av (pt b)<|av (pt b)<|Lv (pf b i) (jC 6 1)<|jd F i aG fun w8 oF s7 z6 => ?_;have lX:aQ w8 b 29 (vE (yB (i+1) n x o q s u)) 106:=oF.to (Wh i _ _ _ _ _ _ (by omega));have fV:=gZ s7 F.ty;have⟨m32,pR,nQ,oq,pU⟩:=sj fV m24 nk og oh om;have b8:=s7.below B B.size (by omega);refine Ln<|bQ<|sN<|Wl<|Lv (au ((i:Int)+1)) (eO (hx:=A))<|av (au ((i:Int)+1))<|Ln<|gF ⟨i+1,(by omega),C,(D.trans Fx.ic),Fx.ic,m32,pR,nQ,oq,pU,lX,b8⟩ ?_;show((k:Int)-intOf (au ((i:Int)+1))).toNat<_;simp only[A,intOf]; omega
 refine Lv aF (gy P (hx:=A) (hy:=D))<|aC<|Ws<|aK<|Wx<|cu<|gL<|cB<|sN<|ay<|aT C<|av (pt b)<|av (au 0)<|aC<|Wr<|aJ (.tuple #[(pt b),au 0]) ?_;have eik:i=k:=by omega
 subst eik;exact⟨b,yB i n x o q s u,rfl,⟨_,_,_,_,_,_,rfl⟩,{ c:=F,t:=m24,p:=nk.uR fun i v=>N_ v (z_ _),r:=og.uR fun i v=>N_ v (z_ _),g:=oh.uR fun i v=>N_ v (z_ _),a:=om.uR fun i v=>N_ v (z_ _),ne:=⟨l.mp,l.mr,l.mg,l.ma,l.pr,l.pg,l.pa,l.rg,l.ra,l.ga⟩,lB:=lg5,pB:=sU,rB:=pV,gB:=za,aB:=UU },B⟩
end Go.Proofs.YtahbiajdgealnaaGreatDoor
namespace Go.Proofs.YtahbiajdgealnaaGreatDoor.Fx
open Go.RowKit Go.Shelf Go.Sort Go.Lib
def kP(a b:Int):Int:=if a<b then -1 else if b<a then 1 else 0
theorem Pk(a b:Int):kP a b<0<->a<b:=by
 unfold kP;split
 ·simp_all
 split <;> simp_all
theorem Y3{c:Type}(ky:c->Int):SWO (ltOf fun x y=>kP (ky x) (ky y)):=by
 have e : ∀ x y,(ltOf fun x y=>kP (ky x) (ky y)) x y=decide (ky x<ky y):=fun x y=>by
  unfold ltOf;exact decide_eq_decide.2 (Pk _ _)
 refine⟨fun x => ?_,fun x y z a b => ?_,fun x y z a b => ?_⟩ <;> simp only[e,decide_eq_true_eq,decide_eq_false_iff_not]at * <;> omega
end Go.Proofs.YtahbiajdgealnaaGreatDoor.Fx
namespace Go.Proofs.YtahbiajdgealnaaGreatDoor.Fx
open Go.RowKit Go.Shelf Go.Sort Go.Lib
theorem Lh{w:World}{B g cap m N s:Nat}{E:TypeId}(a:Array Value)(os:Array Obj){x:Nat->Value}(h:Own w B E s (.slice (some ⟨g,0,none⟩) m cap) m x)(f:a.size=m*s) :
 Own (sortWorld id w g 0 N a os) B E s (.slice (some ⟨g,0,none⟩) m cap) m (fun q=>a[q]!)/\Stp g w (sortWorld id w g 0 N a os):=by
 rcases h.2 with ⟨b,_⟩|⟨g',cap',cur,b,hB,hg,hn,hm,hs,ht⟩
 ·cases b
 simp only[Value.slice.injEq,Option.some.injEq,Addr.mk.injEq]at b;obtain⟨⟨rfl,_⟩,_,rfl⟩:=b;have n:g<w.heap.size:=(t_.1 hg).1;have d:(sortWorld id w g 0 N a os).heap=(w.heap.modify g (onCells (putCells id 0 a)))++os:=rfl;have e : ∀ k,k<w.heap.size->(sortWorld id w g 0 N a os).heap[k]? = (w.heap.modify g (onCells (putCells id 0 a)))[k]? := fun k c=>by
  rw[d,Array.getElem?_append_left (by simpa using c)]
 have p:m*s<=cap*s:=Nat.mul_le_mul_right s hn;refine⟨⟨by simp,.inr ⟨g,cap,putCells id 0 a cur,rfl,hB,?_,hn,hm,?_,?_⟩⟩,⟨rfl,rfl,rfl,by rw[d]; simp,fun k c o => ?_⟩⟩
 ·rw[e g n,Array.getElem?_modify,d_ rfl,hg]; rfl
 ·simp[putCells,hs]
 ·apply List.ext_getElem?;intro i;by_cases j:i<m*s
  ·have l:i<cur.size:=(by omega);rw[List.getElem?_take_of_lt (by omega),Array.getElem?_toList];unfold putCells;rw[Array.getElem?_mapIdx,Array.getElem?_eq_getElem l];simp[j,f]
  rw[List.getElem?_eq_none (by simp; omega),List.getElem?_eq_none (by simp; omega)]
 rw[e k c,Array.getElem?_modify,b_ (Ne.symm o)]
theorem NC{w:World}{B g cap m s:Nat}{E:TypeId}(d:Array Value){x:Nat->Value}(h:Own w B E s (.slice (some ⟨g,0,none⟩) m cap) m x)(n:d.size=m*s)(hx : ∀ q,q<m*s->x q=d[q]!)(i:0<m) :
 Holds id w g 0 d/\g<w.heap.size:=by
 obtain⟨l,k,e,_,f,_,c⟩:=h.form i
 rcases h.2 with ⟨a,_⟩|⟨g2,cap2,cur,a,hB,hg,hn,hm,hs,ht⟩
 ·cases a
 simp only[Value.slice.injEq,Option.some.injEq,Addr.mk.injEq]at a e;obtain⟨⟨rfl,_⟩,_,rfl⟩:=a;obtain⟨⟨rfl,_⟩,_,rfl⟩:=e;refine⟨fun j o=>⟨?_,?_⟩,f⟩
 ·have b:=c j (by omega);rw[b,hx j (by omega)]; rfl
 simp[World.frozen?,hg]
theorem Ia{a:Type} [Inhabited a]{s:Nat}{enc:a->Nat->Value}{e0:a}{l:List a}(f:0<s) : ∀ q,q<l.length*s->flat s (fun k=>enc (l.getD k e0)) q=(Go.Sort.flatK (fun x=>(List.range s).map (enc x)) s l.toArray)[q]! := fun q b=>by
 have d:q / s<l.length:=Nat.div_lt_of_lt_mul (by rw[Nat.mul_comm]; exact b);have e:q % s<s:=K_ _ f;rw[Go.Sort.get_flatK _ _ _ q (by simpa using b)];unfold flat;have c:l.toArray[q / s]! = l.getD (q / s) e0:=by simp[d]
 rw[c];simp[e]
theorem Wi{P:Program}{ρ:Ren}(I:SlLaysF0.n6 P ρ){p:Nat}(U : ∀ J w,(callFunc p J).run P w = .ok (.enter p J) w){w:World}{B cap s:Nat}{a:Option Addr}{E:TypeId}(L:0<s)
 (S : ∀ w,(isAgg (ρ.t 24)).run P w = .ok true w) (zE : ∀ w,(Go.sizeOf (ρ.t 24)).run P w = .ok s w) {o:Type} [Inhabited o] {enc:o->Nat->Value} {e0:o} (h1 : ∀ x j,j<s->(enc x j).oneCell'=true) {ky:o->Int} {l:List o}
 (h:Own w B E s (.slice a l.length cap) l.length (flat s fun q=>enc (l.getD q e0)))
 (Y : ∀ O x y,Calls P p #[.agg (aA s (enc x)),.agg (aA s (enc y))] O fun e c=>e = .returned (.int .i64 (kP (ky x) (ky y))) /\ ∃ q os',c=grow (O.drewN q) os') (hm:l.length<4611686018427387904) :
 Calls P (ρ.f 6) #[.slice a l.length cap,.func (.func p) #[] #[]] w fun e c=>e = .returned (.tuple #[]) /\ ∃ H:List o,H.Perm l/\H.Pairwise (fun x y=>ky x<=ky y)/\Own c B E s (.slice a l.length cap) l.length (flat s fun q=>enc (H.getD q e0))/\(∀ k,k<w.heap.size->(Value.slice a l.length cap).ownBlock≠some k->c.heap[k]? = w.heap[k]?)/\iU [E] w c/\Below B w c:=by
 by_cases V:l.length=0
 ·have F:l = []:=List.length_eq_zero_iff.1 V;subst F;refine(AnyF.slices_SortFunc_none I a cap _ w).mono ?_;rintro e c ⟨D,rfl⟩;exact⟨D,[],List.Perm.refl _,List.Pairwise.nil,h,fun _ _ _=>rfl,vX _,Below.refl _ _⟩
 obtain⟨g,c2,u,hB,hg,hmc,_⟩:=h.form (by omega);simp only[Value.slice.injEq]at u;obtain⟨rfl,_,rfl⟩:=u;have A : ∀ x,((fun x=>(List.range s).map (enc x)) x).length=s:=fun x=>by simp
 have hsz:(Go.Sort.flatK (fun x=>(List.range s).map (enc x)) s l.toArray).size=l.length*s:=by simp
 obtain⟨X,F⟩:=NC _ h hsz (Ia L) (by omega);have hty:Ty w g E:=h.ty rfl;have C : ∀ x,((List.range s).map (enc x)).toArray=aA s (enc x):=fun x=>by
  apply Array.ext
  ·simp[bY]
  ·intro i h1 W;have m:i<s:=(by simpa using h1);have:=gI (enc x) m;rw[Array.getElem?_eq_getElem W]at this;rw[C_ this]; simp
 have K:=AnyQ.slices_SortFunc I s S zE (fun x=>(List.range s).map (enc x)) A (fun x v C=>by
  obtain⟨j,z,rfl⟩:=List.mem_map.1 C;exact h1 x j (P_.1 z)) (fun x y=>kP (ky x) (ky y)) (Y3 _) p #[] g 0 cap l.toArray w U
  (fun N r dk hdk x y=>by rw[C,C]; exact Y _ x y) X F (by simpa using hm)
 rw[show l.toArray.size=l.length by simp]at K;refine K.mono ?_;rintro e c ⟨D,b,N,r,⟨n,_,M⟩,hso,rfl⟩;have n:b.size=l.length:=by simpa using n
 have hw:sortWorldK (fun x=>(List.range s).map (enc x)) s w g 0 N b r=sortWorld id w g 0 N (Go.Sort.flatK (fun x=>(List.range s).map (enc x)) s b) r:=rfl;rw[hw];obtain⟨o1,d⟩:=Lh (N:=N) (Go.Sort.flatK (fun x=>(List.range s).map (enc x)) s b) r h (by simp[n]);have u:(b.extract 0 l.length).toList=b.toList:=by
  rw[<- n]; simp
 have T:(l.toArray.extract 0 l.length).toList=l:=by simp
 rw[u,T]at M;refine⟨D,b.toList,M,?_,?_,fun k A hne=>d.block k A (fun e=>hne (by rw[e]; rfl)),gZ d hty,⟨d.os,d.tape,d.output,d.size,fun k A=>d.block k (by omega) (by omega)⟩⟩
 ·rw[List.pairwise_iff_getElem];intro i j Z z aa;have m:=hso i j (L_ _) aa (by rw[<- n]; simpa using z);unfold ltOf at m;rw[decide_eq_false_iff_not,Pk]at m;have Q:b[i]! = b.toList[i]:=by rw[getElem!_pos b i (by simpa using Z)]; simp
  have R:b[j]! = b.toList[j]:=by rw[getElem!_pos b j (by simpa using z)]; simp
  rw[Q,R]at m;exact Int.not_lt.1 m
 have:=fun q (G:q<l.length*s)=>Ia (enc:=enc) (e0:=e0) (l:=b.toList) L q (by simpa [n] using G);have o3:Own (sortWorld id w g 0 N (Go.Sort.flatK (fun x=>(List.range s).map (enc x)) s b) r) B E s (.slice (some ⟨g,0,none⟩) l.length cap) l.length (flat s fun q=>enc (b.toList.getD q e0)):=o1.congr fun q G=>by
  have:=this q G;simp only[Array.toArray_toList]at this;exact this.symm
 exact o3
end Go.Proofs.YtahbiajdgealnaaGreatDoor.Fx
namespace Go.Proofs.YtahbiajdgealnaaGreatDoor
open Go.Shelf
def Q5:Go.Shelf.Ren:=⟨fun|6=>43|15=>68|14=>67|28=>102|29=>103|20=>94|21=>95|22=>96|23=>97|24=>98|25=>99|26=>100|27=>101|46=>121|47=>122|48=>123|49=>124|50=>125|57=>138|n=>n,fun|22=>51|24=>66|25=>118|3=>3|39=>142|0=>0|53=>173|55=>28|4=>4|46=>166|45=>165|50=>170|5=>5|9=>9|66=>184|70=>188|76=>200|77=>201|n=>n,fun|n=>n⟩
theorem ahV:Go.Proofs.SlLaysF0.n6 Tryz.prog Q5 := {
 mixed:=by kernel_rfl
 f6:=⟨Tryz.f43.name,by decide,Tryz.func43.trans (M_ some (by kernel_rfl))⟩
 f14:=⟨Tryz.f67.name,by decide,Tryz.func67.trans (M_ some (by kernel_rfl))⟩
 f15:=Tryz.func68.trans (M_ some (by kernel_rfl))
 f20:=⟨Tryz.f94.name,by decide,Tryz.func94.trans (M_ some (by kernel_rfl))⟩
 f21:=⟨Tryz.f95.name,by decide,Tryz.func95.trans (M_ some (by kernel_rfl))⟩
 f22:=⟨Tryz.f96.name,by decide,Tryz.func96.trans (M_ some (by kernel_rfl))⟩
 f23:=⟨Tryz.f97.name,by decide,Tryz.func97.trans (M_ some (by kernel_rfl))⟩
 f24:=⟨Tryz.f98.name,by decide,Tryz.func98.trans (M_ some (by kernel_rfl))⟩
 f25:=⟨Tryz.f99.name,by decide,Tryz.func99.trans (M_ some (by kernel_rfl))⟩
 f26:=⟨Tryz.f100.name,by decide,Tryz.func100.trans (M_ some (by kernel_rfl))⟩
 f27:=⟨Tryz.f101.name,by decide,Tryz.func101.trans (M_ some (by kernel_rfl))⟩
 f28:=Tryz.func102.trans (M_ some (by kernel_rfl))
 f29:=Tryz.func103.trans (M_ some (by kernel_rfl))
 f46:=⟨Tryz.f121.name,by decide,Tryz.func121.trans (M_ some (by kernel_rfl))⟩
 f47:=Tryz.func122.trans (M_ some (by kernel_rfl))
 f48:=Tryz.func123.trans (M_ some (by kernel_rfl))
 f49:=⟨Tryz.f124.name,by decide,Tryz.func124.trans (M_ some (by kernel_rfl))⟩
 f50:=⟨Tryz.f125.name,by decide,Tryz.func125.trans (M_ some (by kernel_rfl))⟩
 f57:=⟨Tryz.f138.name,by decide,Tryz.func138.trans (M_ some (by kernel_rfl))⟩
 t0:=Tryz.underlying0
 a0:=Tryz.isAgg0
 z0:=Tryz.sizeOf0
 v0:=Tryz.zeroValue0
 t3:=Tryz.underlying3
 a3:=Tryz.isAgg3
 z3:=Tryz.sizeOf3
 v3:=Tryz.zeroValue3
 t4:=Tryz.underlying4
 a4:=Tryz.isAgg4
 z4:=Tryz.sizeOf4
 v4:=Tryz.zeroValue4
 t5:=Tryz.underlying5
 a5:=Tryz.isAgg5
 z5:=Tryz.sizeOf5
 v5:=Tryz.zeroValue5
 t9:=Tryz.underlying9
 a9:=Tryz.isAgg9
 z9:=Tryz.sizeOf9
 v9:=Tryz.zeroValue9
 t22:=Tryz.underlying51
 a22:=Tryz.isAgg51
 z22:=Tryz.sizeOf51
 v22:=Tryz.zeroValue51
 t25:=Tryz.underlying118
 a25:=Tryz.isAgg118
 z25:=Tryz.sizeOf118
 v25:=Tryz.zeroValue118
 t39:=Tryz.underlying142
 a39:=Tryz.isAgg142
 z39:=Tryz.sizeOf142
 v39:=Tryz.zeroValue142
 t45:=Tryz.underlying165
 a45:=Tryz.isAgg165
 z45:=Tryz.sizeOf165
 v45:=Tryz.zeroValue165
 t46:=Tryz.underlying166
 a46:=Tryz.isAgg166
 z46:=Tryz.sizeOf166
 v46:=Tryz.zeroValue166
 t50:=Tryz.underlying170
 a50:=Tryz.isAgg170
 z50:=Tryz.sizeOf170
 v50:=Tryz.zeroValue170
 t53:=Tryz.underlying173
 a53:=Tryz.isAgg173
 z53:=Tryz.sizeOf173
 v53:=Tryz.zeroValue173
 t55:=Tryz.underlying28
 a55:=Tryz.isAgg28
 z55:=Tryz.sizeOf28
 v55:=Tryz.zeroValue28
 t66:=Tryz.underlying184
 a66:=Tryz.isAgg184
 z66:=Tryz.sizeOf184
 v66:=Tryz.zeroValue184
 t70:=Tryz.underlying188
 a70:=Tryz.isAgg188
 z70:=Tryz.sizeOf188
 v70:=Tryz.zeroValue188
 t76:=Tryz.underlying200
 a76:=Tryz.isAgg200
 z76:=Tryz.sizeOf200
 v76:=Tryz.zeroValue200
 t77:=Tryz.underlying201
 a77:=Tryz.isAgg201
 z77:=Tryz.sizeOf201
 v77:=Tryz.zeroValue201 }
end Go.Proofs.YtahbiajdgealnaaGreatDoor
namespace Go.Proofs.YtahbiajdgealnaaGreatDoor
open Go.RowKit Go.Sort Rt
namespace Fx
def Y4(w w':World):Prop := ∃ q a,w'=grow (w.drewN q) a
theorem Y4.refl(w:World):Y4 w w:=⟨0,#[],by rw[grow_empty]; rfl⟩
theorem Y4.alloc{w a b:World}(h:Y4 w a)(z : ∃ o,b=a.alloc o):Y4 w b:=by
 obtain⟨q,c,rfl⟩:=h;obtain⟨o,rfl⟩:=z;exact⟨q,c ++ #[o],by rw[alloc_eq_grow,grow_grow]⟩
theorem Y4.drew{w a b:World}(h:Y4 w a)(z:b=a.drew):Y4 w b:=by
 obtain⟨q,c,rfl⟩:=h;subst z;exact⟨q+1,c,rfl⟩
section
variable {P:Program} {n:Nat} {Q:Post} {f:Nat->Value} {w:World} {ops:Array Oper} {rest:List Oper} {o:Oper}
theorem L.ahW{T:TypeId}{x:Operand}{v:Value}{m:Nat}{y:Nat->Value}(i:Region.wanted o (yf ops f)=true)(d:o.op = .box T x)(hx:ev f x=v)(b:v.cells=aA m y)(c:inn n o.dst=true)
 (h : ∀ g a,g=w.heap.size->aQ a g m y T->Stp w.heap.size w a->(∃ o,a=w.alloc o)->L P n ops Q rest (put f o.dst (.pointer (some ⟨g,0,none⟩))) a):L P n ops Q (o::rest) f w:=by
 have e:(execOp (ev f) o).run P w = .ok (.value (.pointer (some ⟨w.heap.size,0,none⟩))) (w.alloc (.cells v.cells T)):=by
  unfold execOp;simp[d,hx,Instr.box,newVar,newRow]
 refine L.val i e c (h _ _ rfl ?_ (Stp.alloc _ _) ⟨_,rfl⟩);show(w.alloc _).heap[w.heap.size]? = _;rw[alloc_at,d_ rfl,b]
theorem L.Y5{T E:TypeId}{len s:Nat}{l:List (Nat × Operand)}{vs:List (Nat × Value)}{zc y:Nat->Value}(I:Region.wanted o (yf ops f)=true)(B:o.op = .buildSlice T len l.toArray)(C:l.map (fun p=>(p.1,ev f p.2))=vs)(H:P.underlying T=some (.slice E))(k:(P.info? E).map (·.size)=some s)
 (q:Nat.ble (len*s) 16777216=true) (d:Nat.beq (len*s) 0=false) (J:((P.info? E).bind (·.zero)).map (·.cells)=some (aA s zc)) (u:Instr.fill (fun i=>some (i*s,s)) (aA (len*s) (fun j=>zc (j % s))) vs=some (aA (len*s) y)) (t:inn n o.dst=true)
 (h : ∀ g a,g=w.heap.size->aQ a g (len*s) y E->Stp w.heap.size w a->(∃ o,a=w.alloc o)->L P n ops Q rest (put f o.dst (.slice (some ⟨g,0,none⟩) len len)) a):L P n ops Q (o::rest) f w:=by
 obtain⟨z,K,M⟩:=Option.map_eq_some_iff.1 J;obtain⟨i,c,N⟩:=Option.bind_eq_some_iff.1 K;have G:i.size=s:=by rw[c]at k; simpa using k
 have O : ¬ len*s>2^24:=by have:=Nat.le_of_ble_eq_true q; omega
 have b:len*s≠0:=fun e=>by rw[e]at d; exact N_ d (by decide)
 have F:0<s:=Nat.pos_of_ne_zero fun e=>b (by rw[e,Nat.mul_zero]);have r:(Array.range (len*s)).map (fun j=>z.cells[j % z.cells.size]!)=aA (len*s) (fun j=>zc (j % s)):=by
  refine uK (by simp) fun j x => ?_;have A:j % s<s:=K_ _ F;have v:=gI zc A;rw[M];simp[x,bY];rw[getElem!_def,v]
 have D:(execOp (ev f) o).run P w = .ok (.value (.slice (some ⟨w.heap.size,0,none⟩) len len)) (w.alloc (.cells (aA (len*s) y) E)):=by
  unfold execOp;simp only[B,List.map_toArray,C];unfold Instr.buildSlice;have m : ¬ 16777216<len*s:=by omega
  simp[underlying,sizeOf,typeInfo,zeroValue,H,c,G,N,m];simp[b,r,u,newRow]
 refine L.val I D t (h _ _ rfl ?_ (Stp.alloc _ _) ⟨_,rfl⟩);show(w.alloc _).heap[w.heap.size]? = _;rw[alloc_at,d_ rfl]
end
section
variable {P:Program} {n:Nat} {ops:List Oper} {Q:Post}
theorem W.aeh{f:Nat->Value}{w:World}{id:Nat}(l:List Nat)(cs:List Nat)(S:World->World->Prop)(j : ∀ w,S w w)(m : ∀ a b c,S a b->S b c->S a c)(fM:List (Nat × Nat × List Nat))(t:P.follows .mixedOrders=true)(u:lV n ops=true)(x:Region.noSelect ops.toArray=true)(e:zI ops l=true)(v:vV ops cs fM l=true)
 (h : ∀ g,Below w.heap.size w g->g=w.drew->R P n ops cs S Q l f g):W P n (.region id ops.toArray true) Q f w:=fun a o=>by
 refine wp_region_any t ?_;unfold zI at e;rw[T_,T_,T_,List.all_eq_true,List.all_eq_true]at e;obtain⟨⟨⟨y,z⟩,p3⟩,p4⟩:=e;have s:=B_ y;have A:l.Nodup:=h_ p3;have:=R.any (P:=P) (Q:=Q) (fM:=fM) u x j m ops.length l (Array.replicate ops.length false) a f w.drew s (by simp) (JJ.start _ _ _) (fun i=>by
  have p : ∀ i,(Array.replicate ops.length false).getD i false=false:=fun i=>getD_replicate_false _ _;constructor
  ·intro d; exact⟨by simpa [Nat.blt_eq] using z i d,p i⟩
  ·intro d;obtain⟨k,q,r⟩:=List.any_eq_true.1 (p4 i (by simpa using d.1));rw[B_ r]; exact q) A (vW v) o (h w.drew (Below.refl _ _).drew rfl)
 simpa using this
end
end Fx
namespace Rt
structure Jv where
 x:Nat->Int
 h:0<=x 1/\x 1<=18446744073709551615
def g0:Jv:=⟨fun _=>0,by decide⟩
instance:Inhabited Jv:=⟨g0⟩
def JQ(x:Nat->Int):Jv:=if h:0<=x 1/\x 1<=18446744073709551615 then⟨x,h⟩else g0
def Li(x:Jv):Int:=x.x 0*18446744073709551616+x.x 1
theorem aay{x:Nat->Int}(h:0<=x 1/\x 1<=18446744073709551615):(JQ x).x=x:=by unfold JQ; rw[dif_pos h]
def RA(a b:Int):Int:=if a=0 then b else a
def ND(a b:Int)(i:Nat):Int:=if i=0 then a else b
def orW(a b:Int):Nat->Value:=fun j => .int .i64 (ND a b j)
section
variable {a b:Int} {i:Nat}
theorem apS(d:i=0\/a=0)(c:ND a b i=0):i+1=0\/a=0:=by
 unfold ND at c
 rcases d with rfl|e
 ·exact .inr (by simpa using c)
 exact .inr e
theorem apT(d:i=0\/a=0)(c:ND a b i=0):i+1<2\/RA a b=0:=by
 unfold ND at c;by_cases e:i=0
 ·exact .inl (by omega)
 rw[b_ e]at c
 rcases d with h|h
 ·exact N_ h e
 exact .inr (by unfold RA; rw[d_ h]; exact c)
theorem apU(d:i=0\/a=0)(c : ¬ ND a b i=0):RA a b=ND a b i:=by
 unfold ND at c ⊢;unfold RA;by_cases e:i=0
 ·rw[d_ e]at c ⊢; rw[b_ c]
 rw[b_ e]
 rcases d with h|h
 ·exact N_ h e
 rw[d_ h]
theorem apV(h:i<2\/RA a b=0)(c : ¬ (i:Int)<2):RA a b=0:=by
 rcases h with h|h
 ·omega
 exact h
end
theorem aei(x y:Jv):RA (Fx.kP (x.x 0) (y.x 0)) (Fx.kP (x.x 1) (y.x 1))=Fx.kP (Li x) (Li y):=by
 have a:=x.h;have b:=y.h;unfold RA Fx.kP Li
 repeat' split
 all_goals first|rfl|omega
structure Q6(n:Nat)(S:Nat->Bool)(il:List Nat):Prop where
 nd:il.Nodup
 mem : ∀ i,i∈il<->(i<n/\S i=true)
theorem Q6.start(n:Nat):Q6 n (fun _=>false) []:=⟨List.nodup_nil,fun i=>⟨fun h=>(nomatch h),fun h=>(nomatch h.2)⟩⟩
theorem Q6.step{n i:Nat}{S:Nat->Bool}{c:List Nat}(h:Q6 n S c)(hi:i<n)(l:S i=false):Q6 n (Fx.aM S i true) (c ++ [i]):=by
 have k:i ∉ c:=fun g=>by have:=((h.mem i).1 g).2; rw[l]at this; cases this
 refine⟨List.nodup_append.2 ⟨h.nd,by simp,fun a f b d e => ?_⟩,fun j => ?_⟩
 ·rw[List.mem_singleton]at d; subst d; subst e; exact k f
 rw[List.mem_append,List.mem_singleton,h.mem];show _<->(j<n/\(if j=i then true else S j)=true);by_cases e:j=i
 ·subst e; rw[d_ rfl]; exact⟨fun _=>⟨hi,rfl⟩,fun _ => .inr rfl⟩
 rw[b_ e]; exact⟨fun h=>h.elim id fun h=>N_ h e,fun h => .inl h⟩
theorem Q6.len{n:Nat}{S:Nat->Bool}{c:List Nat}(h:Q6 n S c):c.length<=n :=
 Ci n c.length (fun q=>c.getD q 0) (fun q d=>by
  have:c.getD q 0∈c:=by rw[r_,o_ d]; exact R_ d
  exact((h.mem _).1 this).1) fun a b f g e=>by
  have e:c.getD a 0=c.getD b 0:=e;rw[r_,r_,o_ f,o_ g]at e;exact(List.getElem_inj h.nd).1 e
structure GrS(m:dU)(l:List Jv):Prop where
 mem : ∀ x,x∈l -> ∃ i,i<m.gn/\x.x=m.g i
 all : ∀ i,i<m.gn -> ∃ x,x∈l/\x.x=m.g i
 up:l.Pairwise fun x y=>Li x<Li y
theorem GrS.of{m:dU}{w:World}{b:Nat}{t:List Nat}{l:List Jv}{S:Nat->Bool}(o:Fx.iA w b m.gn (fun i=>m.g i 0) (fun i=>m.g i 1) (uF m.g))(hi:Q6 m.gn S t)(z : ∀ i,i<m.gn->S i=true)(r:l.Perm (t.map fun i=>JQ (m.g i)))(B:l.Pairwise fun x y=>Li x<=Li y):GrS m l:=by
 have k : ∀ i,i<m.gn->(JQ (m.g i)).x=m.g i:=fun i hi=>aay (o.ok hi).b;have f : ∀ i,i∈t<->i<m.gn:=fun i=>by rw[hi.mem]; exact⟨fun h=>h.1,fun h=>⟨h,z i h⟩⟩
 have p : ∀ x,x∈l -> ∃ i,i<m.gn/\x=JQ (m.g i):=fun x s=>by
  obtain⟨i,c,d⟩:=List.mem_map.1 (r.mem_iff.1 s);exact⟨i,(f i).1 c,d.symm⟩
 have A:l.Nodup:=by
  rw[r.nodup_iff,List.nodup_iff_pairwise_ne,List.pairwise_map];refine(List.nodup_iff_pairwise_ne.1 hi.nd).imp_of_mem fun {a b} ha hb q e=>q ?_;have c:=M_ Jv.x e;rw[k a ((f a).1 ha),k b ((f b).1 hb)]at c;exact o.inj a b ((f a).1 ha) ((f b).1 hb) (by show m.g a 0=m.g b 0; rw[c]) (by show m.g a 1=m.g b 1; rw[c])
 refine⟨fun x s => ?_,fun i c => ?_,?_⟩
 ·obtain⟨i,c,d⟩:=p x s;exact⟨i,c,by rw[d,k i c]⟩
 ·exact⟨JQ (m.g i),r.mem_iff.2 (List.mem_map.2 ⟨i,(f i).2 c,rfl⟩),k i c⟩
 refine(B.and (List.nodup_iff_pairwise_ne.1 A)).imp_of_mem fun {a b} ha hb h => ?_;obtain⟨i,c,u⟩:=p a ha;obtain⟨j,d,v⟩:=p b hb;have q:=h.2
 rcases Int.lt_or_eq_of_le h.1 with h3|h3
 ·exact h3
 exfalso;have C:=a.h;have D:=b.h;unfold Li at h3;refine q ?_;have n:a.x 0=b.x 0/\a.x 1=b.x 1:=by omega
 rw[u,v,k i c,k j d]at n;have:=o.inj i j c d n.1 n.2;rw[u,v,this]
def Wj(m:dU)(l:List Int)(k:Nat):Nat->Value:=ji (l.getD k 0) (m.T.par (l.getD k 0)) (Bj m (l.getD k 0))
def Xp(l:List Jv)(k:Nat):Nat->Value:=iE (l.getD k g0).x
theorem Lj{id par:Int}{R:Nat->Int}{z:Nat->Value} : ∀ j,j<56->Fx.bI (Fx.bI (Fx.bI z 0 1 (fun _ => .int .u64 id)) 1 1 (fun _ => .int .u64 par)) 2 54 (Fx.rv .i64 R) j=ji id par R j:=fun j a=>by
 unfold Fx.bI ji
 rcases(show j=0\/j=1\/2<=j by omega)with rfl|rfl|h
 ·rfl
 ·rfl
 ·rw[d_ (by omega),b_ (by omega),b_ (by omega)]; rfl
theorem Y6{m:dU}{l:List Int}{n:Nat}{id par:Int}{R:Nat->Int}{z z2:Nat->Value}(b:l.getD n 0=id)(c:m.T.par id=par)(d:Bj m id=R) : ∀ j,j<(n+1)*56->Fx.iy (Fx.flat 56 (Wj m l)) (n*56) (Fx.bI z (0*56) 56 (Fx.bI (Fx.bI (Fx.bI z2 0 1 (fun _ => .int .u64 id)) 1 1 (fun _ => .int .u64 par)) 2 54 (Fx.rv .i64 R))) j=Fx.flat 56 (Wj m l) j:=fun j a =>
 (Fx.uO j a).trans (Fx.bL (fun k _ q f=>by
  unfold Fx.qC;by_cases e:k=n
  ·subst e; rw[d_ rfl,Lj q f]; unfold Wj; rw[b,c,d]
  ·rw[b_ e]) j a)
theorem Y7{g:Nat->Nat->Int}{a:List Nat}{i:Nat}{z:Nat->Value} : ∀ j,j<(a.length+1)*5->Fx.iy (Fx.flat 5 fun k=>iE (g (a.getD k 0))) (a.length*5) (Fx.bI z (0*5) 5 (iE (g i))) j=Fx.flat 5 (fun k=>iE (g ((a ++ [i]).getD k 0))) j:=fun j b =>
 (Fx.uO j b).trans (Fx.bL (fun k c q _=>by
  unfold Fx.qC;by_cases e:k=a.length
  ·subst e; rw[d_ rfl]; simp[r_]
  ·rw[b_ e]; show iE (g (a.getD k 0)) q=_; rw[r_,r_,List.getElem?_append_left (by omega)]) j b)
theorem Y8{m:dU}{a:List Nat}{S:Nat->Bool}{w:World}{b:Nat}(d:Fx.iA w b m.gn (fun i=>m.g i 0) (fun i=>m.g i 1) (uF m.g))(hi:Q6 m.gn S a) : ∀ j,j<(a.map fun i=>JQ (m.g i)).length*5->Fx.flat 5 (fun k=>iE (m.g (a.getD k 0))) j=Fx.flat 5 (Xp (a.map fun i=>JQ (m.g i))) j:=fun j f =>
 Fx.bL (n:=(a.map fun i=>JQ (m.g i)).length) (fun k c q _=>by
  rw[List.length_map]at c;unfold Xp;have h:a.getD k 0∈a:=by rw[r_,o_ c]; exact R_ c
  have e:((a.map fun i=>JQ (m.g i)).getD k g0)=JQ (m.g (a.getD k 0)):=by
   rw[r_,r_,o_ (by rw[List.length_map]; exact c),o_ c,List.getElem_map]; rfl
  rw[e,aay (d.ok ((hi.mem _).1 h).1).b]) j f
theorem Q7(s:Al)(a:Option Addr)(n c:Nat):Fx.dB (jZ s) 18 (.slice a n c)=jZ { s with na:=a,nn:=n,nc:=c }:=by
 funext p
 unfold Fx.dB jZ;by_cases e:p=18
 ·subst e; rw[d_ rfl,b_ (by omega),b_ (by omega),b_ (by omega),d_ rfl]
 rw[b_ e]
 repeat' split
 all_goals first|rfl|omega
theorem NG(s:Al)(a:Option Addr)(n c:Nat) : ∀ p,p<20->Fx.dB (jZ s) 19 (.slice a n c) p=jZ { s with ga:=a,gn:=n,gc:=c } p:=fun p b=>by
 unfold Fx.dB jZ;by_cases e:p=19
 ·subst e; rw[d_ rfl,b_ (by omega),b_ (by omega),b_ (by omega),b_ (by omega)]
 ·rw[b_ e]
  repeat' split
  all_goals first|rfl|omega
def Wm(m:dU)(d:Option Addr)(f e:Nat)(a:Option Addr)(c b:Nat):Al:=⟨m.inn,m.left,m.known,d,f,e,a,c,b⟩
theorem Y9{id par:Int}{R:Nat->Int}{z z2:Nat->Value} : ∀ j,j<1*56->(Fx.bI z (0*56) 56 (Fx.bI (Fx.bI (Fx.bI z2 0 1 (fun _ => .int .u64 id)) 1 1 (fun _ => .int .u64 par)) 2 54 (Fx.rv .i64 R)) j).oneCell'=true:=fun j a=>by
 rw[show Fx.bI z (0*56) 56 (Fx.bI (Fx.bI (Fx.bI z2 0 1 (fun _ => .int .u64 id)) 1 1 (fun _ => .int .u64 par)) 2 54 (Fx.rv .i64 R)) j=Fx.bI (Fx.bI (Fx.bI z2 0 1 (fun _ => .int .u64 id)) 1 1 (fun _ => .int .u64 par)) 2 54 (Fx.rv .i64 R) (j-0*56) by unfold Fx.bI; rw[d_ (by omega)],Lj _ (by omega)];exact uZ _ _ _ _
theorem Za{x:Nat->Int}{z:Nat->Value} : ∀ j,j<1*5->(Fx.bI z (0*5) 5 (iE x) j).oneCell'=true:=fun j a=>by
 unfold Fx.bI; rw[d_ (by omega)]; exact tZ x _
theorem aej{m:dU}{c:List Nat}{S:Nat->Bool}{w f:World}{b B cap d:Nat}{a:Option Addr}{T:TypeId}(l:Fx.iA w b m.gn (fun i=>m.g i 0) (fun i=>m.g i 1) (uF m.g))(hi:Q6 m.gn S c)(e:d=c.length)(n:Fx.Own f B T 5 (.slice a d cap) d (Fx.flat 5 fun k=>iE (m.g (c.getD k 0)))) :
 Fx.Own f B T 5 (.slice a (c.map fun i=>JQ (m.g i)).length cap) (c.map fun i=>JQ (m.g i)).length (Fx.flat 5 (Xp (c.map fun i=>JQ (m.g i)))):=by
 have h:=n.congr (y:=Fx.flat 5 (Xp (c.map fun i=>JQ (m.g i)))) (fun j o=>Y8 l hi j (by rw[List.length_map,<- e]; exact o));rw[List.length_map,<- e]; exact h
theorem Wn(m:dU){z:Nat->Value}(e : ∀ j,18<=j->z j = .slice none 0 0){x1 x2:Nat->Value}(h1 : ∀ j,j<6->x1 j = .bool (m.inn j))(d : ∀ j,j<6->x2 j = .bool (m.left j)) : ∀ j,j<20->Fx.bI (Fx.bI (Fx.bI z 0 6 x1) 6 6 x2) 12 6 (Fx.rv .u64 m.known) j=jZ (Wm m none 0 0 none 0 0) j:=fun j f=>by
 unfold Fx.bI jZ;by_cases a:j<6
 ·rw[b_ (by omega),b_ (by omega),d_ (by omega),d_ a]; exact h1 _ (by omega)
 ·by_cases b:j<12
  ·rw[b_ (by omega),d_ (by omega),b_ a,d_ b]; exact d _ (by omega)
  ·by_cases c:j<18
   ·rw[d_ (by omega),b_ a,b_ b,d_ c]; rfl
   ·rw[b_ (by omega),b_ (by omega),b_ (by omega),b_ a,b_ b,b_ c,e j (by omega)];split <;> rfl
end Rt
structure StQ(w:World)(B:Nat)(m:dU)(s:Al)(l:List Int)(gl:List Jv):Prop where
 inn:s.inn=m.inn
 left:s.left=m.left
 known:s.known=m.known
 nn:s.nn=l.length
 gn:s.gn=gl.length
 ls:l.Pairwise (· < ·) /\ ∀ k,k∈l<->m.T.has k=true
 len:l.length<=32
 gs:GrS m gl
 glb:gl.length<=m.gn
 n:Fx.Own w B 61 56 (.slice s.na s.nn s.nc) s.nn (Fx.flat 56 (Wj m l))
 g:Fx.Own w B 66 5 (.slice s.ga s.gn s.gc) s.gn (Fx.flat 5 (Xp gl))
end Go.Proofs.YtahbiajdgealnaaGreatDoor
namespace Go.Proofs.YtahbiajdgealnaaGreatDoor
open Go.RowKit Rt
open Fx (bF Lv sN Ln Ws Wl Rp Wr Wk rV sR Rs Rn Rd Wb Wx Wo DR Wt xI yG Dl qN gZ yI uN vX vU yF Aw rv aA aQ bI aM aU flat Mp aX iA iQ aZ kP bJ cells_one iU bP unseen bO bQ cu cB gL gF qm)
theorem Pm(n:Int)(w:World) :
 Calls Tryz.prog 69 #[au n] w fun e a=>e = .returned (.bool false)/\a=w:=by
 refine Kent Tryz.func69 6 ?_;refine ay<|av aF<|aC<|ay<|av (au n)<|av (au n)<|Lv aF (jP rfl)<|av aF<|aC<|Wr<|aJ aF ?_;exact⟨rfl,rfl⟩
theorem Zb(a b:Int)(w:World) :
 Calls Tryz.prog 46 #[au a,au b] w fun e f=>e = .returned (au (kP a b))/\f=w:=by
 refine Kent Tryz.func46 20 ?_;refine ay<|av (au 0)<|aC<|ay<|av (au a)<|mF (Pm a _) _ rfl<|av aF<|aC<|ay<|av (au b)<|mF (Pm b _) _ rfl<|av aF<|aC<|Ws<|ay<|av aF<|aC<|aK<|Wk<|sN<|Ws<|ay<|av aF<|aC<|aK<|Wk<|sN<|Ws<|ay<|av (au a)<|av (au b) ?_;by_cases c:a<b
 ·refine Lv aG (gu c)<|aC<|aN<|ay<|av (au (-1))<|aC<|Wr<|sR<|aJ (au (-1)) ?_;exact⟨by unfold kP; simp[c],rfl⟩
 refine Lv aF (gy c)<|aC<|aK<|Wk<|sN<|Ws<|ay<|av (au a)<|av (au b) ?_;by_cases d:b<a
 ·refine Lv aG (mW d)<|aC<|aN<|ay<|av (au 1)<|aC<|Wr<|sR<|aJ (au 1) ?_;exact⟨by unfold kP; simp[c,d],rfl⟩
 refine Lv aF (mX d)<|aC<|aK<|Wk<|sN<|ay<|av (au 0)<|aC<|Wr<|aJ (au 0) ?_;exact⟨by unfold kP; simp[c,d],rfl⟩
theorem Pn(n:Int)(w:World) :
 Calls Tryz.prog 70 #[aD n] w fun e a=>e = .returned (.bool false)/\a=w:=by
 refine Kent Tryz.func70 6 ?_;refine ay<|av aF<|aC<|ay<|av (aD n)<|av (aD n)<|Lv aF (jP rfl)<|av aF<|aC<|Wr<|aJ aF ?_;exact⟨rfl,rfl⟩
theorem Zc(a b:Int)(w:World) :
 Calls Tryz.prog 47 #[aD a,aD b] w fun e f=>e = .returned (au (kP a b))/\f=w:=by
 refine Kent Tryz.func47 20 ?_;refine ay<|av (au 0)<|aC<|ay<|av (aD a)<|mF (Pn a _) _ rfl<|av aF<|aC<|ay<|av (aD b)<|mF (Pn b _) _ rfl<|av aF<|aC<|Ws<|ay<|av aF<|aC<|aK<|Wk<|sN<|Ws<|ay<|av aF<|aC<|aK<|Wk<|sN<|Ws<|ay<|av (aD a)<|av (aD b) ?_;by_cases c:a<b
 ·refine Lv aG (gu c)<|aC<|aN<|ay<|av (au (-1))<|aC<|Wr<|sR<|aJ (au (-1)) ?_;exact⟨by unfold kP; simp[c],rfl⟩
 refine Lv aF (gy c)<|aC<|aK<|Wk<|sN<|Ws<|ay<|av (aD a)<|av (aD b) ?_;by_cases d:b<a
 ·refine Lv aG (mW d)<|aC<|aN<|ay<|av (au 1)<|aC<|Wr<|sR<|aJ (au 1) ?_;exact⟨by unfold kP; simp[c,d],rfl⟩
 refine Lv aF (mX d)<|aC<|aK<|Wk<|sN<|ay<|av (au 0)<|aC<|Wr<|aJ (au 0) ?_;exact⟨by unfold kP; simp[c,d],rfl⟩
theorem apW(a b:Int)(c:Nat)(w:World)(q:iQ w c 0 2 (orW a b)) :
 Calls Tryz.prog 45 #[bM c 2 2] w fun e s=>e = .returned (au (RA a b))/\s=w:=by
 refine Kent Tryz.func45 18 ?_;refine ay<|av (au 0)<|aC<|ay<|av (au 0)<|aC<|Ws<|ay<|av (bM c 2 2)<|av (au 2)<|av (au 0)<|aC<|Wb<|Wo (fun f p => ∃ i:Nat,i<=2/\(i=0\/a=0)/\(i<2\/RA a b=0)/\p=w/\f 3=au 0/\f 6=bM c 2 2/\f 7=au 2/\f 8=au (i:Int)/\iQ p c 0 2 (orW a b)) (fun f _=>(2-intOf (f 8)).toNat) ⟨0,(by omega),(.inl rfl),(.inl (by decide)),rfl,Fx.ic,(by rfl),Fx.ic,Fx.ic,q⟩ ?_;rintro t v ⟨i,u,m,r,l,j,n,k,g,o⟩;refine ay ?_;by_cases h:(i:Int)<2
 ·refine Lv aG (gu h (hx:=g) (hy:=k))<|aC<|Ws<|aN<|Wk<|sN<|Ws<|Wb<|ay<|Lv (pf c i) (dh 1 (hx:=n) (hi:=g))<|Lv (au (ND a b i)) (aL o i)<|av (au (ND a b i))<|aC<|ay<|av (au (ND a b i))<|aT j ?_;by_cases d:(ND a b i)=0
  ·refine Lv aF (jP d)<|aC<|aK<|Wk<|bQ<|sN<|Wl<|Lv (au ((i:Int)+1)) (eO (hx:=g))<|av (au ((i:Int)+1))<|Ln<|gF ⟨i+1,(by omega),(apS m d),(apT m d),l,(j.trans Fx.ic),n,(k.trans Fx.ic),Fx.ic,o⟩ ?_;show(2-intOf (au ((i:Int)+1))).toNat<_;simp only[g,intOf]; omega
  refine Lv aG (mY d)<|aC<|aN<|ay<|av (au (ND a b i))<|av (au (ND a b i))<|aC<|Wr<|bO<|sR<|qm<|bO<|sR<|aJ (au (ND a b i)) ?_;exact⟨by rw[apU m d],l⟩
 refine Lv aF (gy h (hx:=g) (hy:=k))<|aC<|Ws<|aK<|Wx<|cu<|gL<|cB<|sN<|ay<|aT j<|av (au 0)<|aC<|Wr<|aJ (au 0) ?_;exact⟨by rw[apV r h],l⟩
theorem Rt.aek{w:World}{g:Nat}{a b:Int}{z:Nat->Value}{T:TypeId}(h:aQ w g 2 (bI (bI z (0*1) 1 (fun _=>au a)) (1*1) 1 (fun _=>au b)) T):iQ w g 0 2 (orW a b):=(h.congr (y:=orW a b) fun j c=>by
 rcases(show j=0\/j=1 by omega)with rfl|rfl <;> rfl).aH
theorem ael(x y:Jv)(w:World) :
 Calls Tryz.prog 44 #[.agg (aA 5 (iE x.x)),.agg (aA 5 (iE y.x))] w fun e H=>e = .returned (au (kP (Li x) (Li y))) /\ ∃ q C,H=Go.Sort.grow (w.drewN q) C:=by
 refine Kent Tryz.func44 17 ?_;refine ay<|Fx.L.ahW (m:=5) (y:=iE x.x) (by rfl) rfl rfl (bJ _ _) rfl fun k V t d D I => ?_;have f:=bH D.old (Below.refl w.heap.size w);have M:=ig t;have S:=d.lt;refine Fx.L.ahW (m:=5) (y:=iE y.x) (by rfl) rfl rfl (bJ _ _) rfl fun l X g n E J => ?_;have⟨B,p⟩:=fD E.old d f;have N:=iV g f.size;have P:=bZ g d.lt;have T:=n.lt;refine av (au 0)<|aC<|Ws ?_;refine Fx.W.aeh [0,2,5,7,1,3,6,8,4,9,10,11,12] [0,4,0,4,2,0,1,0,1,2,2,3,0] Fx.Mk uN Fx.Mk.trans (fM := [(4,1,[1]),(9,1,[4,1]),(10,1,[4,1]),(11,1,[10,4,1]),(4,3,[3]),(9,3,[4,3]),(10,3,[4,3]),(11,3,[10,4,3]),(11,6,[9,6]),(11,8,[9,8]),(9,4,[4]),(10,4,[4]),(11,4,[10,4]),(12,4,[4]),(10,9,[9]),(11,9,[9]),(12,9,[9]),(11,10,[10]),(12,10,[10]),(12,11,[11])]) (by kernel_rfl) (by kernel_rfl) (by kernel_rfl) (by kernel_rfl) (by kernel_rfl) fun Z z A => ?_;have⟨a,b,r⟩:=jw z B n p;refine bf (pt k)<|bf (pt l)<|bf (pf k 1)<|bf (pf l 1)<|Rs (au (x.x 0)) (aL a.aH 0) ?_;refine Rs (au (y.x 0)) (aL b.aH 0) ?_;refine Rd (v:=aD (x.x 1)) (by rfl) (by rfl) (uN _) (fun G c=>bF (x:=iE x.x) rfl rfl (by kernel_rfl) (a.aH.below c (by have:=a.lt; omega)) (i:=1) (by omega) (by omega) rfl) ?_;refine Rd (v:=aD (y.x 1)) (by rfl) (by rfl) (uN _) (fun G c=>bF (x:=iE y.x) rfl rfl (by kernel_rfl) (b.aH.below c (by have:=b.lt; omega)) (i:=1) (by omega) (by omega) rfl) ?_;refine BA (mF (Zb (x.x 0) (y.x 0) _) _ rfl (Ln ⟨Below.refl _ _,?_⟩));refine BA (mF (Zc (x.x 1) (y.x 1) _) _ rfl (Ln ⟨Below.refl _ _,?_⟩));refine BA<|Fx.L.Y5 (vs := [(0,au (kP (x.x 0) (y.x 0))),(1,au (kP (x.x 1) (y.x 1)))]) (s:=1) (zc:=rv .i64 (fun _=>0)) (y:=bI (bI (fun j=>(rv .i64 (fun _=>0)) (j % 1)) (0*1) 1 (fun _=>au (kP (x.x 0) (y.x 0)))) (1*1) 1 (fun _=>au (kP (x.x 1) (y.x 1)))) (by rfl) rfl rfl Tryz.underlying88 (by kernel_rfl) (by rfl) (by rfl) (by kernel_rfl) (by rw[aZ (off:=0*1) (s:=1) (y:=fun _=>au (kP (x.x 0) (y.x 0))) rfl (cells_one (by rfl)) (by rfl)]; rw[aZ (off:=1*1) (s:=1) (y:=fun _=>au (kP (x.x 1) (y.x 1))) rfl (cells_one (by rfl)) (by rfl)]; rfl) rfl fun u Y h o F K => ?_;have O:=iV h r.size;have⟨Q,R⟩:=vY h a.lt b.lt;have U:=o.lt;refine Ln ⟨F.old,?_⟩;refine gQ<|mF (apW (kP (x.x 0) (y.x 0)) (kP (x.x 1) (y.x 1)) u _ (aek o)) _ rfl<|Ln<|bf (au (RA (kP (x.x 0) (y.x 0)) (kP (x.x 1) (y.x 1))))<|bS<|Wr<|aJ (au (RA (kP (x.x 0) (y.x 0)) (kP (x.x 1) (y.x 1)))) ?_;exact⟨by rw[<- aei],(((((Fx.Y4.refl w).alloc I).alloc J).drew A).alloc K)⟩
theorem aem{w:World}{B cap:Nat}{a:Option Addr}{l:List Jv}(h:Fx.Own w B 66 5 (.slice a l.length cap) l.length (flat 5 (Xp l)))(i:l.length<=1000000) :
 Calls Tryz.prog 43 #[.slice a l.length cap,.func (.func 44) #[] #[]] w fun e b=>e = .returned (.tuple #[]) /\ ∃ c:List Jv,c.Perm l/\c.Pairwise (fun x y=>Li x<=Li y)/\Fx.Own b B 66 5 (.slice a l.length cap) l.length (flat 5 (Xp c))/\(∀ k,k<w.heap.size->(Value.slice a l.length cap).ownBlock≠some k->b.heap[k]? = w.heap[k]?)/\iU [66] w b/\Below B w b:=by
 have f:Fx.Own w B 66 5 (.slice a l.length cap) l.length (flat 5 fun q=>(fun x:Jv=>iE x.x) (l.getD q g0)):=h
 have:=Fx.Wi ahV (fun d w=>enters_of Tryz.func44 (by kernel_rfl) rfl d w) (by decide) Tryz.isAgg66 Tryz.sizeOf66 (enc:=fun x:Jv=>iE x.x) (e0:=g0) (ky:=Li) (fun x j _=>tZ x.x j) f
  (by intro g x y; refine(ael x y g).mono fun e b h => ?_; exact h) (by omega)
 exact this
theorem Zd{m:dU}{d:List Nat}{S:Nat->Bool}{p w:World}{b B cap c:Nat}{a:Option Addr}(n:iA p b m.gn (fun i=>m.g i 0) (fun i=>m.g i 1) (uF m.g))(hi:Q6 m.gn S d)(e:c=d.length)(o:Fx.Own w B 66 5 (.slice a c cap) c (flat 5 fun k=>iE (m.g (d.getD k 0))))(q:c<=1000000) :
 Calls Tryz.prog 43 #[.slice a c cap,.func (.func 44) #[] #[]] w fun e f=>e = .returned (.tuple #[]) /\ ∃ h:List Jv,h.Perm (d.map fun i=>JQ (m.g i))/\h.Pairwise (fun x y=>Li x<=Li y)/\Fx.Own f B 66 5 (.slice a c cap) c (flat 5 (Xp h))/\(∀ k,k<w.heap.size->(Value.slice a c cap).ownBlock≠some k->f.heap[k]? = w.heap[k]?)/\iU [66] w f/\Below B w f:=by
 have j:(d.map fun i=>JQ (m.g i)).length=c:=by rw[List.length_map]; exact e.symm
 have l:=aem (aej n hi e o) (by rw[j]; omega);rw[j]at l;exact l
set_option maxHeartbeats 1000000 in
theorem Ze(m:dU)(u B:Nat)(w:World)(h:mD w B u m)(hgn:m.gn<=900000) :
 Calls Tryz.prog 18 #[(pt u)] w fun e w' => ∃ s l gl,e = .returned (.agg (aA 20 (jZ s)))/\StQ w' w.heap.size m s l gl/\Below w.heap.size w w':=by
 have hC:=h.c;have hT:=h.t;have hP:=h.p;have hR:=h.r;have hG:=h.g;have hA:=h.a;have hN:=h.ne;have lC:=h.c.lt;have lT:=h.t.lt;have lP:=h.p.lt;have lR:=h.r.lt;have lG:=h.g.lt;have lA:=h.a.lt;refine Kent Tryz.func18 72 ?_;refine ay<|Dl (m:=20) (y:=fun d=>if d<12 then .bool false else if d<18 then aD 0 else .slice none 0 0) (by rfl) rfl (by kernel_rfl) rfl fun D w1 lK m1 s1 z1 => ?_;have⟨m2,m3,m4,m5,m6,m7,b1⟩:=jQ s1.old hC hT hP hR hG hA (Below.refl w.heap.size w);have sU:=ig lK;have⟨nP,zD,xB,Bg,zA⟩:=Dq lK hC.lt hP.lt hR.lt hG.lt hA.lt;have uq:=m1.lt;refine aC<|Ws<|ay<|av (pt u)<|Lv aF (Fx.yH rfl rfl rfl (by kernel_rfl))<|aC<|aK<|Wk<|sN<|Ws ?_;refine Wt 13 (by kernel_rfl) (by kernel_rfl) fun pQ dR iG => ?_;have⟨m8,m9,m10,m11,m12,m13,m14,b2⟩:=ng dR m2 m3 m4 m5 m6 m7 m1 b1;refine Es (pt u)<|Es (pt u)<|Es (pt u)<|qN (.agg (aA 6 (fun j => .bool (m.inn j)))) (fP m8.aH 0 (fun j J=>by rw[H_]; exact Ce J))<|Es (pt u)<|Es (pt u)<|Es (pf u 6)<|qN (.agg (aA 6 (fun j => .bool (m.left j)))) (fP m8.aH 6 (fun j J=>Bd (p:=j) J (by omega)))<|Es (pt u)<|Es (pt u)<|Es (pf u 12)<|qN (.agg (aA 6 (rv .u64 m.known))) (fP m8.aH 12 (fun j J=>vF (p:=j) (by omega) (by omega)))<|Es (.agg (aA 20 (bI (bI (bI (fun d=>if d<12 then .bool false else if d<18 then aD 0 else .slice none 0 0) 0 6 (fun j => .bool (m.inn j))) 6 6 (fun j => .bool (m.left j))) 12 6 (rv .u64 m.known))))<|Fx.St.nil ?_;refine fA m14 0 (h1:=(bP (bP (bP (fun jq _=>by show((fun d=>if d<12 then .bool false else if d<18 then aD 0 else .slice none 0 0:Nat->Value) jq).oneCell'=true; simp only[]; repeat (first|rfl|split)) (fun _ _=>rfl)) (fun _ _=>rfl)) (fun _ _=>rfl))) fun V m15 s3 z2 => ?_
 have m16:aQ V D 20 (bI (bI (bI (fun d=>if d<12 then .bool false else if d<18 then aD 0 else .slice none 0 0) 0 6 (fun j => .bool (m.inn j))) 6 6 (fun j => .bool (m.left j))) 12 6 (rv .u64 m.known)) 53:=aU m15;have m17:aQ V D 20 (jZ (Wm m none 0 0 none 0 0)) 53:=m16.congr (Wn m (fun j J=>by show(if j<12 then _ else if j<18 then _ else _)=_; rw[b_ (by omega),b_ (by omega)]) (fun _ _=>rfl) (fun _ _=>rfl));have fV:=gZ s3 m14.ty;have⟨m18,m19,m20,m21,m22,m23⟩:=R9 fV m8 m9 m10 m11 m12 m13;have b3:=s3.below b2 b2.size (by omega);refine aC<|Ws<|ay<|av (pt u)<|av (pt u)<|av (pf u 18)<|Lv (pt m.tp) (aL m18.aH 18)<|mE (TP m19) ?_;rintro e9 w3 ⟨la1,N,b,he,m24,hq1,ahJ,hb1⟩;refine⟨_,he,?_⟩;clear he;have⟨nk,og,oh,om,nI,oF,lX,b4⟩:=ng hb1 m18 m19 m20 m21 m22 m23 m17 b3;refine av (au b.length)<|av (au 0)<|aC<|Wb ?_;have m32:Fx.Own w3 w.heap.size 61 56 (.slice none 0 0) 0 (flat 56 (Wj m b)):=vU _ _ _ _ _;have kll:=ahJ;refine Wo (fun f A => ∃ i:Nat,∃ E:Option Addr,∃ F:Nat,i<=b.length/\f 0=(pt u)/\f 2=(pt D)/\f 27 = .slice la1 (b.length) (N)/\f 28=au (b.length:Int)/\f 29=au (i:Int)/\aQ A u 29 (vE m) 106/\sF A B m.tp m.mb m.T/\Mp A m.pb m.T.n m.T.x (DC m.T)/\Mp A m.rb m.T.n m.T.x (wS m.R)/\iA A m.gb m.gn (fun i=>m.g i 0) (fun i=>m.g i 1) (uF m.g)/\iA A m.ab m.an m.ao m.ar DF/\Fx.Own A V.heap.size 28 1 (.slice la1 (b.length) (N)) b.length (xJ b)/\aQ A D 20 (jZ (Wm m E i F none 0 0)) 53/\Fx.Own A w.heap.size 61 56 (.slice E (i) (F)) i (flat 56 (Wj m b))/\Below w.heap.size w A) (fun f _=>((b.length:Int)-intOf (f 29)).toNat) ⟨0,none,0,(by omega),(by rfl),(by rfl),(by rfl),Fx.ic,Fx.ic,nk,og,oh,om,nI,oF,m24,lX,m32,b4⟩ ?_;rintro f1 w4 ⟨i,E,F,hi,P,h2,h3,h4,Q,pR,nQ,oq,pU,qQ,qR,oP,rQ,nJ,b5⟩;refine ay ?_;by_cases c30:(i:Int)<(b.length:Int)
 ·refine Lv aG (gu c30 (hx:=Q) (hy:=h4))<|aC<|Ws<|aN<|Wk<|sN<|Ws<|Wb<|ay ?_;obtain⟨Am,eq1⟩:=oP.addr (by omega);have mO:Fx.Own w4 V.heap.size 28 1 (bM Am b.length N) b.length (xJ b):=oP.dL (M_ (fun q=>Value.slice q b.length N) eq1);refine Lv (pf Am i) (dh 1 (hx:=(h3.trans (M_ (fun q=>Value.slice q (b.length) (N)) eq1))) (hi:=Q))<|Lv (aD (b.getD i 0)) (aL mO.aH i)<|av (aD (b.getD i 0))<|aC ?_;obtain⟨I,hjz,aa⟩:=gT ((hq1.2 _).1 (uT (show i<b.length by omega) rfl));have ejx:Bj m (b.getD i 0)=m.R I:=by unfold Bj dU.idx; rw[nY h.t.inv.inj hjz aa]
  have ejp:m.T.par (b.getD i 0)=m.T.p I:=Az h.t.inv.inj hjz aa;refine Aw [0,2,3,4,5,7,9,10,11,13,1,6,8,12,14,15,16,17,18,19] [0,1,0,0,0,0,4,0,4,0,0,0,4,0,4,0,2,2,0,3] (iU [61]) vX Fx.iU.trans (fM := [(19,1,[1]),(16,6,[15,8,6]),(17,6,[16,15,8,6]),(19,6,[6]),(16,8,[15,8]),(17,8,[16,15,8]),(19,8,[8]),(16,12,[15,14,12]),(17,12,[16,15,14,12]),(19,12,[12]),(16,14,[15,14]),(17,14,[16,15,14]),(19,14,[14]),(17,16,[16]),(18,16,[16]),(19,16,[16]),(18,17,[17]),(19,17,[17])]) (by kernel_rfl) (by kernel_rfl) (by kernel_rfl) (by kernel_rfl) (by kernel_rfl) fun CP gJ nO => ?_;have⟨nK,sZ,rR,nR,sw,vL,rA,qU,uU,b6⟩:=uQ gJ pR nQ oq pU qQ qR rQ nJ mO b5;refine Rp (pf D 18) (fun _=>je h2 18)<|bf (aD (b.getD i 0))<|bW P<|bf (pt u)<|bf (pf u 19)<|bf (aD (b.getD i 0))<|bW P<|bf (pt u)<|bf (pf u 20)<|bf (aD (b.getD i 0))<|Rd (v := .slice E (i) (F)) (by rfl) (by rfl) (vX _) (fun v1 hv1=>bF (x:=jZ (Wm m E i F none 0 0)) rfl rfl (by kernel_rfl) (rA.kM hv1 (by decide)).aH (i:=18) (by omega) (by omega) rfl) ?_;refine Rs (.map (some m.pb)) (aL nK.aH 19) ?_;refine Rs (aD (m.T.p I)) (Fx.yL (z:=aD 0) rfl rfl rfl rR Tryz.underlying100 Tryz.underlying28 (by rfl) hjz aa rfl) ?_;refine Rs (.map (some m.rb)) (aL nK.aH 20) ?_;refine Rs (.agg (aA 54 (rv .i64 (m.R I)))) (Fx.yL (z := .agg (aA 54 (rv .i64 (fun _=>0)))) rfl rfl rfl nR Tryz.underlying101 Tryz.underlying28 (by kernel_rfl) hjz aa rfl) ?_;refine bf (.agg (aA 56 (bI (bI (bI (fun d=>if d<2 then aD 0 else au 0) 0 1 (fun _=>aD (b.getD i 0))) 1 1 (fun _=>aD (m.T.p I))) 2 54 (rv .i64 (m.R I)))))<|BA<|xI (vs := [(0,.agg (aA 56 (bI (bI (bI (fun d=>if d<2 then aD 0 else au 0) 0 1 (fun _=>aD (b.getD i 0))) 1 1 (fun _=>aD (m.T.p I))) 2 54 (rv .i64 (m.R I)))))]) (s:=56) (zc:=fun d=>if d<2 then aD 0 else au 0) (y:=bI (fun j=>(fun d=>if d<2 then aD 0 else au 0) (j % 56)) (0*56) 56 (bI (bI (bI (fun d=>if d<2 then aD 0 else au 0) 0 1 (fun _=>aD (b.getD i 0))) 1 1 (fun _=>aD (m.T.p I))) 2 54 (rv .i64 (m.R I)))) (by rfl) rfl rfl Tryz.underlying50 (by kernel_rfl) (by rfl) (by rfl) (by kernel_rfl) (by rw[aZ (off:=0*56) (s:=56) (y:=bI (bI (bI (fun d=>if d<2 then aD 0 else au 0) 0 1 (fun _=>aD (b.getD i 0))) 1 1 (fun _=>aD (m.T.p I))) 2 54 (rv .i64 (m.R I))) rfl (bJ _ _) (by rfl)]; rfl) rfl fun g2 w5 Y tV s6 z3 => ?_;have⟨rD,rE,tu,qV,qw,qx,xD,qF,vM,b7⟩:=uQ s6.old nK sZ rR nR sw vL rA qU uU b6;have pV:=iV Y b6.size;have⟨apX,acT,acU,apY,apZ,acV⟩:=IU Y nK.lt rR.lt nR.lt sw.lt vL.lt rA.lt;have aqa:(.slice E (i) (F):Value).ownBlock≠some g2:=by rw[Y]; exact qU.jm (A_ _)
  have aqb:=bZ Y uU.lt;have zy:=tV.lt;refine Ln ⟨Fx.iU.of_below s6.old,?_⟩;refine BA<|yG (B:=w.heap.size) (s:=56) (bytes:=448) (k:=i) (m:=1) (v := .slice E (i) (F)) (x:=flat 56 (Wj m b)) (by rfl) rfl rfl rfl Tryz.underlying50 (by kernel_rfl) (by kernel_rfl) rfl rfl qF tV.aH Y9 (by omega) (by omega) (by omega) b7.size fun g3 W w6 ho1 hg1 sS hlt1 => ?_;have jJ:=yI hg1 qF;have⟨tC,m64,wB,vN,wC,wD,tF,uI⟩:=abj jJ rD rE tu qV qw qx xD vM;have oo:Fx.Own w6 w.heap.size 61 56 (bM g3 (i+1) W) (i+1) (flat 56 (Wj m b)):=(ho1.congr (fun j J=>Y6 rfl ejp ejx j J));have b8:Below w.heap.size w w6:=yF b7 hg1 b7.size (fun q hq=>(qF.ge hq).1);refine Ln ⟨jJ,?_⟩;refine Rp (pf D 18) (fun _=>je h2 18)<|gQ<|jd tF 18 (bM g3 (i+1) W) fun w7 uV s7 z4 => ?_;have xq:aQ w7 D 20 (jZ (Wm m (some ⟨g3,0,none⟩) (i+1) W none 0 0)) 53:=uV.to (Q7 _ _ _ _);have qE:=gZ s7 tF.ty;have⟨vO,yN,uW,xE,xW,xX,xu,xG⟩:=abj qE tC m64 wB vN wC wD uI oo;have b9:=s7.below b8 b8.size (by omega);refine Ln<|Rn<|bQ<|sN<|Wl<|Lv (au ((i:Int)+1)) (eO (hx:=Q))<|av (au ((i:Int)+1))<|Ln ?_;have wE:Fx.Own w7 V.heap.size 28 1 (.slice la1 (b.length) (N)) b.length (xJ b):=xu.dL (M_ (fun q=>Value.slice q b.length N) eq1.symm)
  skip
  refine gF ⟨i+1,(some ⟨g3,0,none⟩),W,(by omega),P,h2,h3,(h4.trans Fx.ic),Fx.ic,vO,yN,uW,xE,xW,xX,wE,xq,xG,b9⟩ ?_;show((b.length:Int)-intOf (au ((i:Int)+1))).toNat<_;simp only[Q,intOf]; omega
 refine Lv aF (gy c30 (hx:=Q) (hy:=h4))<|aC<|Ws<|aK<|Wx<|cu<|gL<|cB<|sN<|Ws<|ay<|aT P<|av (pt u)<|av (pf u 27)<|Lv (.map (some m.gb)) (aL pR.aH 27)<|Fx.L.abo (by rfl) rfl rfl rfl qQ Tryz.underlying102 fun g4 w8 MI xY s8 z5 => ?_;have⟨Aj,AQ,ED,b10⟩:=kR s8.old qQ rQ nJ b5;have UU:=iV MI b5.size;have Rx:=xY.lt;refine aC<|Wb ?_;have Dy:Fx.Own w8 w.heap.size 66 5 (.slice none 0 0) 0 (flat 5 (fun k=>iE (m.g (([]:List Nat).getD k 0)))):=vU _ _ _ _ _;refine DR (fun kE f A => ∃ S:Nat->Bool,∃ kk:Nat,∃ K:List Nat,∃ o:Nat,∃ G:Option Addr,∃ H:Nat,kk=unseen S m.gn/\kk=kE/\Q6 m.gn S K/\o=K.length/\f 2=(pt D)/\f 57=(pt g4)/\iA A m.gb m.gn (fun i=>m.g i 0) (fun i=>m.g i 1) (uF m.g)/\Fx.Own A w.heap.size 61 56 (.slice E (i) (F)) i (flat 56 (Wj m b))/\aQ A D 20 (jZ (Wm m E i F G o H)) 53/\Fx.Own A w.heap.size 66 5 (.slice G (o) (H)) o (flat 5 (fun k=>iE (m.g (K.getD k 0))))/\Fx.It A g4 m.gb m.gn S/\Below w.heap.size w A) (unseen (fun _=>false) m.gn) ⟨(fun _=>false),(unseen (fun _=>false) m.gn),[],0,none,0,rfl,rfl,(Q6.start _),rfl,h2,(by rfl),Aj,ED,AQ,Dy,xY,b10⟩ ?_;rintro kE f2 w9 ⟨S,kk,K,o,G,H,hkk,hkE,U,hgl,M,h7,BO,CV,zS,F5,D6,b11⟩;refine ay<|Fx.L.afL (by rfl) rfl rfl h7 BO D6 (fun sD => ?_)<|fun C sV hi1 hS1 F6 mc1 s9 z6 => ?_
 ·skip
  refine av aF<|aC<|Ws<|aK<|Wx<|cu<|gL<|cB<|sN<|Ws ?_;have eL:(K.map fun i=>JQ (m.g i)).length=o:=by rw[List.length_map]; exact hgl.symm
  have aqc:=U.len;refine Wl<|Lv (pf D 19) (je M 19)<|Lv (.slice G (o) (H)) (aL zS.aH 19)<|dZ (Zd h.g U hgl F5 (by omega)) _ rfl ?_;rintro EC ⟨gl,hpm,hup,Gf,_,wz,hb2⟩;have b12:=b11.trans hb2;have⟨wM,yg⟩:=xS wz CV zS;have atx:=yg.lt;refine aC<|ay<|Lv (.agg (aA 20 (jZ (Wm m E i F G o H)))) (fP yg.aH 0 (ha:=M))<|fA yg 0 (ha:=M) (h1:=(fun j _=>OG _ j)) fun zL wN s10 z7 => ?_;have uw:aQ zL D 20 (jZ (Wm m E i F G o H)) 53:=aU wN;have xC:=gZ s10 yg.ty;have⟨oZ,qJ⟩:=xS xC wM Gf;have b13:=s10.below b12 b12.size (by omega);refine aC (Wr (⟨.agg (aA 20 (jZ (Wm m E i F G o H))),rV Tryz.results18 ⟨_,M,aX uw.aH (by kernel_rfl) (by kernel_rfl)⟩,?_⟩));have eil:i=b.length:=by omega
  have egl:o=gl.length:=by rw[hpm.length_eq,eL]
  exact⟨Wm m E i F G o H,b,gl,rfl,{ inn:=rfl,left:=rfl,known:=rfl,nn:=eil,gn:=egl,ls:=hq1,len:=kll,gs:=GrS.of h.g U sD hpm hup,glb:=by omega,n:=oZ,g:=qJ },b13⟩
 skip
 have hcm1:=D6.BF s9;have qb:=BO.dQ hcm1 (D6.rb.symm);have rG:=CV.dQ hcm1;have sK:=zS.dQ hcm1;have vg:=F5.dQ hcm1;have b14:=s9.below b11 b11.size (by omega);refine av aG<|aC<|Ws<|aN<|Wk<|sN<|Wb<|ay<|Lv (.tuple #[Fx.kS (m.g C 0) (m.g C 1),.agg (aA 5 (iE (m.g C)))]) (Fx.Sl (k1:=fun i=>m.g i 0) (k2:=fun i=>m.g i 1) (val:=uF m.g) (i:=C) rfl h7 qb mc1 hi1)<|av (.agg (aA 5 (iE (m.g C))))<|uh 5 (fun d=>if d<1 then au 0 else if d<3 then aD 0 else if d<4 then au 0 else aD 0) fun g5 DV eg5 rH s11 z8 => ?_;have⟨uy,zf,vk,zh,xH,b15⟩:=um s11.old qb rG sK vg F6 b14;have lg5:=iV eg5 b14.size;have⟨aki,akj⟩:=vY eg5 qb.lt sK.lt;have Po:(.slice G (o) (H):Value).ownBlock≠some g5:=by rw[eg5]; exact vg.jm (A_ _)
 have tg5:=rH.lt;refine fA rH 0 (h1:=(fun j _=>tZ _ j)) fun Du uz s12 z9 => ?_;have qK:aQ Du g5 5 (iE (m.g C)) 66:=aU uz;have ze:=gZ s12 rH.ty;have⟨yh,yj,uD⟩:=Dp ze uy zf vk;have BQ:=zh.cZ s12 Po;have EN:=kF ze xH;have b16:=s12.below b15 b15.size (by omega);refine aC ?_;have aqc:=U.len;have hgn1:o<=m.gn:=by omega
 refine Wl<|Lv (pf D 19) (je M 19)<|Lv (.slice G (o) (H)) (aL uD.aH 19)<|Lv (.agg (aA 5 (iE (m.g C)))) (fP qK.aH 0)<|xI (vs := [(0,.agg (aA 5 (iE (m.g C))))]) (s:=5) (zc:=fun d=>if d<1 then au 0 else if d<3 then aD 0 else if d<4 then au 0 else aD 0) (y:=bI (fun j=>(fun d=>if d<1 then au 0 else if d<3 then aD 0 else if d<4 then au 0 else aD 0) (j % 5)) (0*5) 5 (iE (m.g C))) (by rfl) rfl rfl Tryz.underlying51 (by kernel_rfl) (by rfl) (by rfl) (by kernel_rfl) (by rw[aZ (off:=0*5) (s:=5) (y:=iE (m.g C)) rfl (bJ _ _) (by rfl)]; rfl) rfl fun g6 Ow Z AX s13 z10 => ?_;have⟨EO,Gg,BR,zT,Jj,KJ,b17⟩:=jQ s13.old yh yj uD BQ EN qK b16;have lg6:=iV Z b16.size;have⟨akk,akl⟩:=vY Z yh.lt uD.lt;have akm:(.slice G (o) (H):Value).ownBlock≠some g6:=by rw[Z]; exact BQ.jm (A_ _)
 have akn:=bZ Z qK.lt;have tg6:=AX.lt;refine yG (B:=w.heap.size) (s:=5) (bytes:=40) (k:=o) (m:=1) (v := .slice G (o) (H)) (x:=flat 5 (fun k=>iE (m.g (K.getD k 0)))) (by rfl) rfl rfl rfl Tryz.underlying51 (by kernel_rfl) (by kernel_rfl) rfl rfl zT AX.aH Za (by omega) (by omega) (by omega) b17.size fun O X w16 ho2 hg2 MW hlt2 => ?_;have AV:=yI hg2 zT;have⟨ER,Gi,Gj,BS⟩:=MC AV EO Gg BR Jj;have ako:g5≠O:=fun e=>MW.elim (fun e2=>Po (by rw[e]; exact e2)) (fun e2=>by have:=KJ.lt; omega);have EP:Fx.Own w16 w.heap.size 66 5 (bM O (o+1) X) (o+1) (flat 5 (fun k=>iE (m.g ((K ++ [C]).getD k 0)))):=(ho2.congr (fun j J=>by rw[hgl]at J ⊢; exact Y7 j J));have b18:Below w.heap.size w w16:=yF b17 hg2 b17.size (fun q hq=>(zT.ge hq).1);refine Lv (pf D 19) (je M 19)<|jd Gj 19 (bM O (o+1) X) fun GN BU BJ z11 => ?_;have Fa:aQ GN D 20 (jZ (Wm m E i F (some ⟨O,0,none⟩) (o+1) X)) 53:=BU.congr (NG _ _ _ _);have EL:=gZ BJ Gj.ty;have⟨ET,zU,BX,Jd⟩:=MC EL ER Gi BS EP;have b19:=BJ.below b18 b18.size (by omega);refine Ln<|bQ ?_
 skip
 refine gF ⟨unseen (aM S C true) m.gn,(by have P:=Fx.oN hS1 m.gn hi1; omega),(aM S C true),(unseen (aM S C true) m.gn),(K ++ [C]),o+1,(some ⟨O,0,none⟩),X,rfl,rfl,(U.step hi1 hS1),(by rw[G_,<- hgl]; rfl),M,h7,ET,zU,Fa,Jd,BX,b19⟩ (by decide)
end Go.Proofs.YtahbiajdgealnaaGreatDoor
namespace Go.Proofs.YtahbiajdgealnaaGreatDoor
open Go.RowKit Go
namespace Rt
section
variable {f:(Nat->Int)->(Nat->Int) × Int} {idx:Nat->Nat} {R:Nat->Nat->Int} {r r':Nat->Nat->Int} {n K k:Nat}
theorem Dc : ∀ {n:Nat},(∀ i,i<n->r i=r' i)->gN f r n=gN f r' n
 | 0,_=>rfl
 | n+1,h=>by unfold gN; rw[Dc (n:=n) fun i a=>h i (by omega),h n (by omega)]
theorem FI : ∀ {K:Nat},(∀ i j,i<K->j<K->idx i=idx j->i=j)->(dw f idx R K).2=gN f (fun i=>R (idx i)) K/\((dw f idx R K).2=0 -> ∀ k,(dw f idx R K).1 k=R k/\(∀ i,i<K->idx i≠k)\/(dw f idx R K).1 k=(f (R k)).1 /\ ∃ i,i<K/\idx i=k)
 | 0,_=>⟨rfl,fun _ k => .inl ⟨rfl,fun _ h=>N_ h (z_ _)⟩⟩
 | K+1,hi=>by
   obtain⟨q,r⟩:=FI (K:=K) fun i j a b=>hi i j (by omega) (by omega);unfold gN;rw[<- q];by_cases c:(dw f idx R K).2=0
   ·have n:=r c;have p:(dw f idx R K).1 (idx K)=R (idx K):=by
     rcases n (idx K)with h|⟨_,i,d,g⟩
     ·exact h.1
     ·have:=hi i K (by omega) (by omega) g; omega
    rw[d_ c];have e:dw f idx R (K+1)=(if(f ((dw f idx R K).1 (idx K))).2=0 then(aI (dw f idx R K).1 (idx K) (f ((dw f idx R K).1 (idx K))).1,0)else((dw f idx R K).1,(f ((dw f idx R K).1 (idx K))).2)):=(by show(if _ then _ else _)=_; rw[d_ c]);rw[e,p];by_cases l:(f (R (idx K))).2=0
    ·rw[d_ l];refine⟨l.symm,fun _ k => ?_⟩;show aI (dw f idx R K).1 (idx K) _ k=R k/\_\/aI (dw f idx R K).1 (idx K) _ k=(f (R k)).1/\_;unfold aI;by_cases e:k=idx K
     ·subst e; rw[d_ rfl]; exact .inr ⟨rfl,K,by omega,rfl⟩
     ·rw[b_ e]
      rcases n k with ⟨d,g⟩|⟨d,i,g,h5⟩
      ·refine .inl ⟨d,fun i s m => ?_⟩;by_cases o:i=K
       ·subst o; exact e m.symm
       ·exact g i (by omega) m
      ·exact .inr ⟨d,i,by omega,h5⟩
    ·rw[b_ l]; exact⟨rfl,fun h=>N_ h l⟩
   ·rw[b_ c];have e:dw f idx R (K+1)=dw f idx R K:=(by show(if _ then _ else _)=_; rw[b_ c]);rw[e];exact⟨rfl,fun h=>N_ h c⟩
end
structure Co(T:dJ)(L:fZ):Prop where
 has : ∀ k,T.has k=true <-> ∃ i,i<L.nn/\L.id i=k
 n:T.n=L.nn
 par : ∀ i,i<L.nn->T.par (L.id i)=L.par i
section
variable {T:dJ} {L:fZ} {N:Nat} {x:Int}
theorem Co.find(h:Co T L)(b:Inv0 L N)(x:Int):T.has x=true<->0<=bE L.t L.tn x:=by
 rw[h.has,iJ,b.Bt];constructor
 ·rintro ⟨i,a,e⟩; exact⟨i,a,by rw[(b.tid i a).1]; exact e⟩
 rintro ⟨i,a,e⟩; exact⟨i,a,by rw[<- (b.tid i a).1]; exact e⟩
theorem Co.findF(h:Co T L)(a:Inv0 L N)(x:Int):T.has x=false<->bE L.t L.tn x<0:=by
 have:=h.find a x
 cases e:T.has x with
 | false=>rw[e]at this; exact⟨fun _=>by rcases Yx (bE L.t L.tn x)with h1|h1; exact h1; exact N_ (this.2 h1) (by decide),fun _=>rfl⟩
 | true=>rw[e]at this; have:=this.1 rfl; exact⟨fun h=>(nomatch h),fun h=>by omega⟩
theorem Inv0.at(c:Inv0 L N){i:Nat}(hi:i<L.nn):L.node (L.id i)=(i:Int):=by
 rw[c.node,<- (c.tid i hi).1];exact vB (fun a b d f e=>c.ahl a b d f e) (by rw[c.Bt]; exact hi)
theorem Co.next(h:Co T L)(a:Inv0 L N)(hx:T.has x=true):T.par x=L.t (bE L.t L.tn x).toNat 1:=by
 obtain⟨i,b,rfl⟩:=(h.has x).1 hx;have e:=a.at b;rw[a.node]at e;rw[e,h.par i b];exact((a.tid i b).2).symm
theorem Co.path(h:Co T L)(f:T.ok)(a:Inv0 L N)(x:Int):(T.path x).length=eP L.t L.tn x /\ ∀ q,q<(T.path x).length->(T.path x).getD q 0=bD L.t L.tn q x:=by
 have g : ∀ q,q<(T.path x).length->T.has ((T.path x).getD q 0)=true/\(q+1<(T.path x).length->(T.path x).getD (q+1) 0=T.par ((T.path x).getD q 0))/\(q+1=(T.path x).length->T.has (T.par ((T.path x).getD q 0))=false):=rW (f.stop x);have j : ∀ q,q<(T.path x).length->(T.path x).getD q 0=bD L.t L.tn q x:=by
  intro q
  induction q with
  | zero =>
    intro b
    cases hx:T.has x with
    | false=>rw[show T.path x = []from kU hx]at b; exact N_ b (z_ _)
    | true=>rw[dJ.step f hx]; rfl
  | succ q ih =>
    intro b;have l:=ih (by omega);have c:=(g q (by show q<(T.path x).length; omega));have e:=c.2.1 b;show(T.path x).getD (q+1) 0=L.t (bE L.t L.tn (bD L.t L.tn q x)).toNat 1;rw[<- l,<- h.next a c.1]
    exact e
 refine⟨?_,j⟩;obtain⟨D,n,m⟩:=a.dep x;refine sM (D:=D) (fun i k => ?_) ?_ m (by omega)
 ·rw[<- j i k,<- h.find a]; exact(g i k).1
 by_cases d:(T.path x).length=0
 ·rw[d];show bE L.t L.tn x<0;rw[<- h.findF a]
  cases hx:T.has x with
  | false=>rfl
  | true=>rw[dJ.step f hx]at d; simp at d
 obtain⟨q,b⟩ : ∃ q,(T.path x).length=q+1:=⟨(T.path x).length-1,by omega⟩;have c:=g q (by show q<(T.path x).length; omega);have e:=c.2.2 (by show q+1=(T.path x).length; omega);rw[b];show bE L.t L.tn (L.t (bE L.t L.tn (bD L.t L.tn q x)).toNat 1)<0;rw[<- j q (by omega),<- h.next a c.1,<- h.findF a]
 exact e
theorem Zf(d:Inv0 L N)(x:Int):bE L.t L.tn (bD L.t L.tn (eP L.t L.tn x) x)<0:=by
 obtain⟨D,e,b⟩:=d.dep x;obtain⟨K,f,a,c⟩:=rU D b;rw[<- sM c a b (by omega)]; exact a
theorem Co.mem(h:Co T L)(f:T.ok)(d:Inv0 L N)(x y:Int):y∈T.path x <-> ∃ i,i<eP L.t L.tn x/\bD L.t L.tn i x=y:=by
 obtain⟨c,b⟩:=h.path f d x;rw[<- c];constructor
 ·intro g;obtain⟨i,a,e⟩:=List.getElem_of_mem g;refine⟨i,a,?_⟩;rw[<- b i a,r_,o_ a]; exact e
 rintro ⟨i,a,rfl⟩;rw[<- b i a,r_,o_ a]; exact R_ a
theorem Co.err(h:Co T L)(l:T.ok)(a:Inv0 L N)(id pa:Int):T.err id pa=jA L.t L.tn id pa:=by
 unfold dJ.err rz jA;by_cases c:id=0
 ·rw[d_ c,d_ c]
 rw[b_ c,b_ c];by_cases d:dP T.x T.n id=true
 ·rw[d_ d,d_ ((h.find a id).1 d)]
 rw[b_ d,b_ (fun e=>d ((h.find a id).2 e))];have j:(¬ pa=0/\dP T.x T.n pa=false)<->(pa≠0/\bE L.t L.tn pa<0):=by
  rw[<- h.findF a]; exact Iff.rfl
 by_cases f : ¬ pa=0/\dP T.x T.n pa=false
 ·rw[d_ f,d_ (j.1 f)]
 rw[b_ f,b_ (fun e=>f (j.2 e))];have k:(32<=T.n\/4<=(jy T.x T.p T.n 4 pa).length)<->(32<=L.tn\/CU L.t L.tn pa):=by
  obtain⟨q,r⟩:=h.path l a pa;have v:(T.path pa).length<=4:=dJ.uf;have:4<=(T.path pa).length<->CU L.t L.tn pa:=by
   constructor
   ·intro s i u;have b:=(rW (l.stop pa)) i (by show i<(T.path pa).length; omega);rw[<- r i (by omega),<- h.find a]; exact b.1
   ·intro o
    rcases Nat.lt_or_ge (T.path pa).length 4 with b|b
    ·exfalso;have m:=o _ b;rw[q]at m;have:=Zf a pa;omega
    ·exact b
  show(32<=T.n\/4<=(T.path pa).length)<->_;rw[this,h.n,a.Bt]
 by_cases g:32<=T.n\/4<=(jy T.x T.p T.n 4 pa).length
 ·rw[d_ g,d_ (k.1 g)]
 rw[b_ g,b_ (fun e=>g (k.2 e))]
end
end Rt
namespace Rt
section
variable {m:dU} {k:Int} {i:Nat}
theorem dU.Df(b:m.T.ok)(c:m.T.has k=true):m.idx k<m.T.n/\m.T.x (m.idx k)=k:=by
 obtain⟨j,a,e⟩:=gT c;have:m.idx k=j:=nY b.inj a e;rw[this]; exact⟨a,e⟩
theorem Ll(x:Nat->Int)(id:Int) : ∀ n,(∀ i,i<n->x i≠id)->zk (Fx.aM x n id) (n+1) id=n:=fun n _=>by
 unfold zk;rw[d_];unfold Fx.aM;rw[d_ rfl]
theorem Ib{x y:Nat->Int}{k:Int} : ∀ {n:Nat},(∀ i,i<n->x i=y i)->zk x n k=zk y n k
 | 0,_=>rfl
 | n+1,h=>by unfold zk; rw[h n (by omega),Ib (n:=n) fun i a=>h i (by omega)]
theorem Lm(x:Nat->Int){id k:Int}(n:Nat)(b:id≠k):zk (Fx.aM x n id) (n+1) k=zk x n k:=by
 have a:Fx.aM x n id n=id:=by unfold Fx.aM; rw[d_ rfl]
 show(if Fx.aM x n id n=k then n else zk (Fx.aM x n id) n k)=_;rw[a,b_ b];exact Ib fun i c=>by unfold Fx.aM; rw[b_ (by omega)]
theorem Ic{f g:Nat->Int}{o:Int} : ∀ {n:Nat},(∀ i,i<n->f i=g i)->nV f o n=nV g o n
 | 0,_=>rfl
 | n+1,h=>by unfold nV; rw[Ic (n:=n) fun i a=>h i (by omega),h n (by omega)]
theorem Lp{f:Nat->Int}{o v:Int}{k:Nat} : ∀ n,k<=n->nV (Fx.cO f k v) o (n+1)=nV f o n+if v / 1099511627776=o then 1 else 0
 | 0,h=>by
   obtain rfl:k=0:=(by omega);show 0+(if Fx.cO f 0 v 0 / 1099511627776=o then 1 else 0)=0+_;rw[dH]
 | n+1,h=>by
   by_cases e:k=n+1
   ·subst e;show nV (Fx.cO f (n+1) v) o (n+1)+(if Fx.cO f (n+1) v (n+1) / 1099511627776=o then 1 else 0)=_;rw[dH,Ic (g:=f) fun i a=>D9 a]
   ·show nV (Fx.cO f k v) o (n+1)+(if Fx.cO f k v (n+1) / 1099511627776=o then 1 else 0)=nV f o n+(if f n / 1099511627776=o then 1 else 0)+_;rw[Lp n (by omega),Ea (by omega)];show _+(if f n / 1099511627776=o then 1 else 0)=_;omega
theorem Pp{f:Nat->Int}{o:Int} : ∀ n,nV f o n<=n
 | 0=>A_ _
 | n+1=>by have:=Pp (f:=f) (o:=o) n; unfold nV; split <;> omega
theorem Cq{P:Nat->Bool}{n:Nat}:0<=gX P n <-> ∃ j,j<n/\P j=true:=by
 rcases jg P n with ⟨k,c,e,a⟩|⟨e,h⟩
 ·rw[e]; exact⟨fun _=>⟨k,c,a⟩,fun _=>by omega⟩
 rw[e]; exact⟨fun h=>by omega,fun⟨j,b,a⟩=>by rw[h j b]at a; cases a⟩
end
structure gD(m:dU)(L:fZ):Prop where
 T:Co m.T L
 inn:m.inn=L.inn
 left:m.left=L.left
 known:m.known=L.known
 row : ∀ i,i<L.nn->Bj m (L.id i)=L.R i
 own : ∀ a,a<6->m.own a=((nV L.id ((a:Int)+1) L.nn:Nat):Int)
 gi : ∀ i j,i<m.gn->j<m.gn->m.g i 0=m.g j 0->m.g i 1=m.g j 1->i=j
 gn:m.gn=L.gn
 g1 : ∀ q,q<L.gn -> ∃ j,j<m.gn/\m.g j=L.g q
 g2 : ∀ j,j<m.gn -> ∃ q,q<L.gn/\L.g q=m.g j
 ask : ∀(a:Nat) (r:Int),a<6->(gW m ((a:Int)+1) r=true <-> ∃ j,j<L.rn a/\L.rq a j=r)
 ga:Q0 m
 li : ∀ p q,p<L.gn->q<L.gn->L.g p 0=L.g q 0->L.g p 1=L.g q 1->p=q
section
variable {m:dU} {L:fZ} {N:Nat} {v:EvM} {x:Int}
theorem gD.node(h:gD m L)(a:Inv0 L N)(x:Int):m.T.has x=true<->0<=L.node x:=by rw[h.T.find a,a.node]
theorem gD.Lr(h:gD m L)(a:Inv0 L N)(x:Int):m.T.has x=false<->L.node x<0:=by rw[h.T.findF a,a.node]
theorem Inv0.Wp(a:Inv0 L N)(hx:0<=L.node x):(L.node x).toNat<L.nn/\L.id (L.node x).toNat=x:=by
 rw[a.node]at hx ⊢;obtain⟨j,b,e,c⟩:=sH hx;rw[e];rw[a.Bt]at b;exact⟨b,by show L.id j=x; rw[<- (a.tid j b).1]; exact c⟩
theorem gD.rk(h:gD m L)(c:Inv0 L N)(hx:0<=L.node x):Bj m x=L.R (L.node x).toNat:=by
 obtain⟨a,b⟩:=c.Wp hx;rw[<- h.row _ a,b]
theorem gD.Cg(h:gD m L)(f:m.T.ok)(a:Inv0 L N)(hx:m.T.has x=true)(r:Nat->Int):gD (Cg m x r) { L with R:=aI L.R (L.node x).toNat r }:=by
 have l:=(h.node a x).1 hx;obtain⟨j,c⟩:=a.Wp l;refine { h with row:=fun i b => ?_,T:=⟨h.T.has,h.T.n,h.T.par⟩ };show Fx.aM m.R (m.idx x) r (m.idx (L.id i))=aI L.R (L.node x).toNat r i;unfold Fx.aM aI;by_cases e:i=(L.node x).toNat
 ·subst e; rw[c,d_ rfl,d_ rfl]
 rw[b_ e,b_]
 ·exact h.row i b
 intro g;have d:=(dU.Df f ((h.T.has _).2 ⟨i,b,rfl⟩)).2;have k:=(dU.Df f hx).2;rw[g,k]at d;exact e (a.inj i _ b j (by rw[c]; exact d.symm))
theorem gD.along(h:gD m L)(l:m.T.ok)(g:Inv0 L N)(f:(Nat->Int)->(Nat->Int) × Int)(x:Int) :
 dz m f (m.T.path x)=(dw f (ow L x) L.R (eP L.t L.tn x)).2/\((dw f (ow L x) L.R (eP L.t L.tn x)).2=0 -> ∀ i,i<L.nn->(qM m f (m.T.path x)).R (m.idx (L.id i))=(dw f (ow L x) L.R (eP L.t L.tn x)).1 i):=by
 obtain⟨z,p⟩:=h.T.path l g x;have w:(m.T.path x).Nodup:=dJ.Ac l x;have o : ∀ i,i<eP L.t L.tn x->0<=L.node (bD L.t L.tn i x):=fun i c=>by rw[g.node]; exact Ba c
 have y : ∀ i j,i<eP L.t L.tn x->j<eP L.t L.tn x->ow L x i=ow L x j->i=j:=fun i j c v e=>by
  have a:=g.Wp (o i c);have b:=g.Wp (o j v);have e:(L.node (bD L.t L.tn i x)).toNat=(L.node (bD L.t L.tn j x)).toNat:=e;rw[e]at a;have k:bD L.t L.tn i x=bD L.t L.tn j x:=a.2.symm.trans b.2;rw[<- p i (by omega),<- p j (by omega)]at k;exact Cm w (by omega) (by omega) k
 obtain⟨A,B⟩:=FI (f:=f) (idx:=ow L x) (R:=L.R) y;refine⟨?_,fun s i c => ?_⟩
 ·rw[A];unfold dz;rw[z];exact Dc fun i c=>by
   rw[p i (by omega)];exact h.rk g (o i c)
 have u:=(dU.Df l ((h.T.has _).2 ⟨i,c,rfl⟩)).2;show(if m.T.x (m.idx (L.id i))∈m.T.path x then(f (m.R (m.idx (L.id i)))).1 else m.R (m.idx (L.id i)))=_;rw[u,show m.R (m.idx (L.id i))=L.R i from h.row i c];have r:L.id i∈m.T.path x <-> ∃ q,q<eP L.t L.tn x/\ow L x q=i:=by
  rw[h.T.mem l g];constructor
  ·rintro ⟨q,d,e⟩;exact⟨q,d,(Ec g c d).2 e⟩
  ·rintro ⟨q,d,e⟩;exact⟨q,d,(Ec g c d).1 e⟩
 rcases B s i with ⟨n,k⟩|⟨n,q,d,k⟩
 ·rw[n,b_];rw[r]; rintro ⟨q,d,e⟩; exact k q d e
 rw[n,d_ (r.2 ⟨q,d,k⟩)]
theorem gD.asked(h:gD m L)(f:bR v=true)(r:Int):gW m v.o r=true<->0<=L.kY (aO v) r:=by
 obtain⟨a,c,d⟩:=fH (iP f);have:aO v=a:=by unfold aO; omega
 rw[this,d,h.ask a r c];unfold fZ.kY;rw[Cq];constructor
 ·rintro ⟨j,b,e⟩; exact⟨j,b,f_ e⟩
 rintro ⟨j,b,e⟩; exact⟨j,b,h_ e⟩
theorem gD.grant(h:gD m L)(o r:Int):(iK m o r=true<->0<=L.grant o r)/\(0<=L.grant o r->(L.grant o r).toNat<L.gn/\fE m o r<m.gn/\m.g (fE m o r)=L.g (L.grant o r).toNat/\L.g (L.grant o r).toNat 0=o/\L.g (L.grant o r).toNat 1=r):=by
 have k1:iK m o r=true <-> ∃ j,j<m.gn/\m.g j 0=o/\m.g j 1=r:=lI;have k2:0<=L.grant o r <-> ∃ q,q<L.gn/\L.g q 0=o/\L.g q 1=r:=by
  unfold fZ.grant;rw[Cq];constructor
  ·rintro ⟨j,a,e⟩; rw[T_]at e; exact⟨j,a,h_ e.1,h_ e.2⟩
  ·rintro ⟨j,a,b,c⟩; exact⟨j,a,by rw[f_ b,f_ c]; rfl⟩
 refine⟨?_,fun l => ?_⟩
 ·rw[k1,k2];constructor
  ·rintro ⟨j,a,b,c⟩;obtain⟨q,d,e⟩:=h.g2 j a;exact⟨q,d,by rw[e]; exact b,by rw[e]; exact c⟩
  rintro ⟨q,d,b,c⟩;obtain⟨j,a,e⟩:=h.g1 q d;exact⟨j,a,by rw[e]; exact b,by rw[e]; exact c⟩
 have : ∃ q,q<L.gn/\L.grant o r=(q:Int)/\L.g q 0=o/\L.g q 1=r:=by
  unfold fZ.grant at l ⊢
  rcases jg (fun i=>decide (L.g i 0=o)&&decide (L.g i 1=r)) L.gn with ⟨q,d,e,k⟩|⟨e,_⟩
  ·rw[T_]at k; exact⟨q,d,e,h_ k.1,h_ k.2⟩
  ·omega
 obtain⟨q,d,e,b,c⟩:=this;rw[e];obtain⟨j,a,f⟩:=h.g1 q d;have:fE m o r=j:=yU h.gi a (by show m.g j 0=o; rw[f]; exact b) (by show m.g j 1=r; rw[f]; exact c);rw[this];exact⟨d,a,f,b,c⟩
theorem gD.ahY(h:gD m L)(i:m.T.ok)(g:Inv0 L N)(e:bR v=true)(l:v.kind=1):iY m v=kI L v:=by
 obtain⟨a,j,d⟩:=fH (iP e);have k:aO v=a:=by unfold aO; omega
 unfold iY kI;rw[k,h.own a j,d];have b:(5<=((nV L.id ((a:Int)+1) L.nn:Nat):Int)\/140737488355328<v.aS)<->(5<=nV L.id ((a:Int)+1) L.nn\/140737488355328<v.aS):=by omega
 have f:nG v=jk ((a:Int)+1) v.seq:=by rw[<- d,rM e]; rfl
 by_cases c:5<=nV L.id ((a:Int)+1) L.nn\/140737488355328<v.aS
 ·rw[d_ c,d_ (b.2 c)]
 rw[b_ c,b_ (fun q=>c (b.1 q)),h.T.err i g,f]
theorem gD.make(h:gD m L)(A:m.T.ok)(r:Inv0 L N)(l:bR v=true)(D:v.kind=1)(z:kI L v=0):gD (Da m v) (qI L v):=by
 obtain⟨k,g,H,I,J,K,M,y,P,Q,G⟩:=wQ r l D z;have t:=rM l;have O:=nX l;have f:nG v=jk v.o v.seq:=by rw[t]; rfl
 have w:m.T.has (nG v)=false:=by
  rw[h.T.findF r,f,vw];exact G.no
 have E : ∀ i,i<m.T.n->m.T.x i≠nG v:=fun i d e=>by
  have:=dJ.zF d; rw[e,w]at this; cases this
 rw[y];have C : ∀ q,(m.T.put (nG v) v.node).has q=true<->(m.T.has q=true\/q=nG v):=fun q=>by
  rw[dJ.jD,Bool.or_eq_true,Q_];exact⟨fun h=>h.imp id Eq.symm,fun h=>h.imp id Eq.symm⟩
 have u : ∀ q,q<L.nn->L.id q≠nG v:=fun q F e=>by
  have:=(h.T.has _).2 ⟨q,F,rfl⟩; rw[e,w]at this; cases this
 refine {
  T:=⟨fun q => ?_,?_,fun i d => ?_⟩
  inn:=h.inn
  left:=h.left
  known:=h.known
  row:=fun i d => ?_
  own:=fun a s => ?_
  gi:=h.gi
  gn:=h.gn
  g1:=h.g1
  g2:=h.g2
  ask:=h.ask
  ga:=h.ga
  li:=h.li }
 ·show(m.T.put (nG v) v.node).has q=true <-> ∃ i,i<L.nn+1/\Fx.cO L.id k (jk v.o v.seq) i=q;rw[C,h.T.has];constructor
  ·rintro (⟨i,d,e⟩|e)
   ·obtain⟨j,b,_,c⟩:=A9 (k:=k) d;exact⟨j,b,by rw[c]; exact e⟩
   exact⟨k,by omega,by rw[dH,e,f]⟩
  rintro ⟨i,d,e⟩
  rcases dX g d with rfl|⟨j,b,c,_,_⟩
  ·rw[dH]at e; exact .inr (by rw[<- e,f])
  rw[c]at e; exact .inl ⟨j,b,e⟩
 ·show m.T.n+1=L.nn+1;rw[h.T.n]
 ·show(m.T.put (nG v) v.node).par (Fx.cO L.id k (jk v.o v.seq) i)=Fx.cO L.par k v.node i;rw[dJ.tO]
  rcases dX g d with rfl|⟨j,b,c,_,_⟩
  ·rw[dH,dH,d_ f]
  rw[c,c,b_ (fun e=>u j b e.symm)]; exact h.T.par j b
 ·show Fx.aM m.R m.T.n _ (zk (Fx.aM m.T.x m.T.n (nG v)) (m.T.n+1) (Fx.cO L.id k (jk v.o v.seq) i))=Fx.cO L.R k _ i
  rcases dX g d with rfl|⟨j,b,c,_,_⟩
  ·rw[dH,dH,<- f,Ll _ _ _ E]; unfold Fx.aM; rw[d_ rfl]
  rw[c,c,Lm _ _ (fun e=>u j b e.symm)];have p:=(dU.Df A ((h.T.has _).2 ⟨j,b,rfl⟩)).1;have p:zk m.T.x m.T.n (L.id j)<m.T.n:=p;unfold Fx.aM;rw[b_ (by omega)];exact h.row j b
 show aI m.own (aO v) (m.own (aO v)+1) a=((nV (Fx.cO L.id k (jk v.o v.seq)) ((a:Int)+1) (L.nn+1):Nat):Int);rw[Lp _ g,t];have B:(1099511627776*v.o+v.seq) / 1099511627776=v.o:=by omega
 rw[B];unfold aI;by_cases e:a=aO v
 ·rw[d_ e,<- e,h.own a s,d_ (by unfold aO at e; omega)]; rfl
 rw[b_ e,h.own a s,b_ (by unfold aO at e; omega)]; rfl
attribute [local irreducible] eP dw dz in
theorem gD.pX(h:gD m L)(d:m.T.ok)(g:Inv0 L N)(i:bR v=true):jK m v=iW L v:=by
 unfold jK iW;by_cases c:gW m v.o v.req=true
 ·rw[d_ c,d_ ((h.asked i _).1 c)]
 rw[b_ c,b_ (fun e=>c ((h.asked i _).2 e))];obtain⟨j,_⟩:=h.T.path d g v.node;have f:m.T.has v.node=false<->eP L.t L.tn v.node=0:=by
  rw[<- j];constructor
  ·intro b; rw[show m.T.path v.node = []from kU b]; rfl
  ·intro b
   cases e:m.T.has v.node with
   | false=>rfl
   | true=>rw[dJ.step d e]at b; simp at b
 by_cases a:m.T.has v.node=false
 ·rw[d_ a,d_ (f.1 a)]
 rw[b_ a,b_ (fun e=>a (f.2 e))];exact(h.along d g _ _).1
theorem FJ{k1 k2:Nat->Int}{n:Nat}{a b o r:Int}:Bl (Fx.aM k1 n a) (Fx.aM k2 n b) (n+1) o r=true<->(Bl k1 k2 n o r=true\/(a=o/\b=r)):=by
 rw[lI,lI];unfold Fx.aM;constructor
 ·rintro ⟨j,f,c,d⟩;by_cases e:j=n
  ·subst e; rw[d_ rfl]at c d; exact .inr ⟨c,d⟩
  rw[b_ e]at c d; exact .inl ⟨j,by omega,c,d⟩
 rintro (⟨j,f,c,d⟩|⟨c,d⟩)
 ·exact⟨j,by omega,by rw[b_ (by omega)]; exact c,by rw[b_ (by omega)]; exact d⟩
 exact⟨n,by omega,by rw[d_ rfl]; exact c,by rw[d_ rfl]; exact d⟩
theorem gD.Pq(h:gD m L)(w:bR v=true)(d:dU)(f:fZ)(i:d.an=m.an+1)(k:d.ao=Fx.aM m.ao m.an v.o)(l:d.ar=Fx.aM m.ar m.an v.req)(n:f.rn=aI L.rn (aO v) (L.rn (aO v)+1))(p:f.rq=aI L.rq (aO v) (aI (L.rq (aO v)) (L.rn (aO v)) v.req)) :
 (∀(a:Nat) (r:Int),a<6->(gW d ((a:Int)+1) r=true <-> ∃ j,j<f.rn a/\f.rq a j=r))/\(∀ o r,gW m o r=true->gW d o r=true)/\gW d v.o v.req=true:=by
 obtain⟨b,x,t⟩:=fH (iP w);have u:aO v=b:=by unfold aO; omega
 have g : ∀ o r,gW d o r=true<->(gW m o r=true\/(v.o=o/\v.req=r)):=fun o r=>by
  unfold gW; rw[i,k,l]; exact FJ
 refine⟨fun a r q => ?_,fun o r h=>(g o r).2 (.inl h),(g _ _).2 (.inr ⟨rfl,rfl⟩)⟩;rw[g,h.ask a r q,n,p,u];unfold aI;by_cases e:a=b
 ·subst e;rw[d_ rfl,d_ rfl];constructor
  ·rintro (⟨j,s,e⟩|⟨_,e⟩)
   ·exact⟨j,by omega,by show(if j=L.rn a then v.req else L.rq a j)=r; rw[b_ (by omega)]; exact e⟩
   exact⟨L.rn a,by omega,by show(if L.rn a=L.rn a then v.req else _)=r; rw[d_ rfl]; exact e⟩
  rintro ⟨j,s,e⟩;have e:(if j=L.rn a then v.req else L.rq a j)=r:=e;by_cases c:j=L.rn a
  ·rw[d_ c]at e; exact .inr ⟨t,e⟩
  rw[b_ c]at e; exact .inl ⟨j,by omega,e⟩
 rw[b_ e,b_ e];exact⟨fun h=>h.elim id fun h=>by omega,.inl⟩
attribute [local irreducible] eP dw dz in
theorem gD.take(h:gD m L)(F:m.T.ok)(E:Inv0 L N)(D:bR v=true)(t:iW L v=0):gD (kL m v) (mh L v):=by
 unfold iW at t;split at t
 ·cases t
 rename_i c1;split at t
 ·cases t
 have I:=(h.along F E (fun x=>bC x v.o v.aS) v.node).2 t;have G : ¬ gW m v.o v.req=true:=fun e=>c1 ((h.asked D _).1 e);obtain⟨k1,k2,J⟩:=h.Pq D (kL m v) (mh L v) rfl rfl rfl rfl rfl;have s : ∀ j,(kL m v).g j=if j=m.gn then qy v else m.g j:=fun j=>rfl;have A:qy v 0=v.o:=rfl;have B:qy v 1=v.req:=rfl;have y : ∀ j,j<m.gn -> ¬ (m.g j 0=v.o/\m.g j 1=v.req):=fun j d e=>G (by have:=h.ga j d; rw[e.1,e.2]at this; exact this);have u:=Fx.yK (fun i=>EY v (L.g i)) L.gn
 refine {
  T:=⟨h.T.has,h.T.n,h.T.par⟩
  inn:=h.inn
  left:=h.left
  known:=h.known
  row:=I
  own:=h.own
  gi:=fun i j r d b a => ?_
  gn:=by show m.gn+1=L.gn+1; rw[h.gn]
  g1:=fun q f => ?_
  g2:=fun j d => ?_
  ask:=k1
  ga:=fun i r => ?_
  li:=fun p q z f b a => ?_ }
 ·have r:i<m.gn+1:=r;have d:j<m.gn+1:=d;rw[s,s]at b a;by_cases c:i=m.gn
  ·by_cases l:j=m.gn
   ·omega
   rw[d_ c,b_ l,A]at b; rw[d_ c,b_ l,B]at a;exact N_ ⟨b.symm,a.symm⟩ (y j (by omega))
  by_cases l:j=m.gn
  ·rw[b_ c,d_ l,A]at b; rw[b_ c,d_ l,B]at a;exact N_ ⟨b,a⟩ (y i (by omega))
  rw[b_ c,b_ l]at b a; exact h.gi i j (by omega) (by omega) b a
 ·have f:q<L.gn+1:=f;show ∃ j,j<m.gn+1/\(kL m v).g j=Fx.cO L.g (Fx.down (fun i=>EY v (L.g i)) L.gn) (qy v) q
  rcases dX u f with e|⟨j,d,a,_,_⟩
  ·rw[e,dH]; exact⟨m.gn,by omega,by rw[s,d_ rfl]⟩
  rw[a];obtain⟨i,r,w⟩:=h.g1 j d;exact⟨i,by omega,by rw[s,b_ (by omega)]; exact w⟩
 ·have d:j<m.gn+1:=d;show ∃ q,q<L.gn+1/\Fx.cO L.g (Fx.down (fun i=>EY v (L.g i)) L.gn) (qy v) q=(kL m v).g j;rw[s];by_cases c:j=m.gn
  ·rw[d_ c]; exact⟨_,by omega,dH⟩
  rw[b_ c];obtain⟨q,f,e⟩:=h.g2 j (by omega);obtain⟨K,H,_,a⟩:=A9 (k:=Fx.down (fun i=>EY v (L.g i)) L.gn) f;exact⟨K,H,by rw[a]; exact e⟩
 ·have r:i<m.gn+1:=r;rw[s];by_cases c:i=m.gn
  ·rw[d_ c]; exact J
  rw[b_ c]; exact k2 _ _ (h.ga i (by omega))
 have z:p<L.gn+1:=z;have f:q<L.gn+1:=f;have C : ∀ j,j<L.gn -> ¬ (L.g j 0=v.o/\L.g j 1=v.req):=fun j d e=>by
  obtain⟨i,r,w⟩:=h.g1 j d;rw[<- w]at e;exact y i r e
 have b:Fx.cO L.g (Fx.down (fun i=>EY v (L.g i)) L.gn) (qy v) p 0=Fx.cO L.g (Fx.down (fun i=>EY v (L.g i)) L.gn) (qy v) q 0:=b;have a:Fx.cO L.g (Fx.down (fun i=>EY v (L.g i)) L.gn) (qy v) p 1=Fx.cO L.g (Fx.down (fun i=>EY v (L.g i)) L.gn) (qy v) q 1:=a;generalize Fx.down (fun i=>EY v (L.g i)) L.gn=k at b a u
 rcases dX u z with c|⟨j,d,f1,f2,f3⟩
 ·rcases dX u f with l|⟨j',hj',f1',f2',f3'⟩
  ·omega
  rw[c,dH,f1']at b a; exact N_ ⟨b.symm,a.symm⟩ (C j' hj')
 rcases dX u f with l|⟨j',hj',f1',f2',f3'⟩
 ·rw[l,dH,f1]at b a; exact N_ ⟨b,a⟩ (C j d)
 rw[f1,f1']at b a;have:=h.li j j' d hj' b a;omega
attribute [local irreducible] eP dw dz in
theorem gD.qW(h:gD m L)(l:m.T.ok)(k:Inv0 L N)(f:bR v=true):jo m v=iM L v:=by
 unfold jo iM;by_cases c:gW m v.o v.req=true
 ·rw[d_ c,d_ ((h.asked f _).1 c)]
 rw[b_ c,b_ (fun e=>c ((h.asked f _).2 e))];obtain⟨d,j⟩:=h.grant v.o v.of;by_cases b:0<=L.grant v.o v.of
 ·obtain⟨p,r,i,s,t⟩:=j b;have n:=d.2 b;have e:(iK m v.o v.of=false\/m.g (fE m v.o v.of) 4≠0)<->(L.grant v.o v.of<0\/L.g (zB L v) 4≠0):=by
   rw[i,n];show _<->_\/L.g (L.grant v.o v.of).toNat 4≠0;constructor
   ·rintro (h|h)
    ·cases h
    ·exact .inr h
   ·rintro (h|h)
    ·omega
    ·exact .inr h
  by_cases a:L.grant v.o v.of<0\/L.g (zB L v) 4≠0
  ·rw[d_ a,d_ (e.2 a)]
  rw[b_ a,b_ (fun q=>a (e.1 q)),i];exact(h.along l k _ _).1
 rw[d_ (.inl (by
  cases e:iK m v.o v.of with
  | false=>rfl
  | true=>exact N_ (d.1 e) b)),d_ (.inl (by omega))]
attribute [local irreducible] eP dw dz in
theorem gD.free(h:gD m L)(G:m.T.ok)(F:Inv0 L N)(I:bR v=true)(k:iM L v=0):gD (iF m v) (kJ L v):=by
 unfold iM at k;split at k
 ·cases k
 split at k
 ·cases k
 rename_i c2;have E:0<=L.grant v.o v.of:=by rcases Yx (L.grant v.o v.of)with h1|h1; exact N_ (.inl h1) c2; exact h1
 obtain⟨C,D,t,K,M⟩:=(h.grant v.o v.of).2 E;have H:=(h.along G F (fun x=>bG x v.o (L.g (zB L v) 3)) (L.g (zB L v) 2)).2 k;obtain⟨k1,k2,J⟩:=h.Pq I (iF m v) (kJ L v) rfl rfl rfl rfl rfl;have A:zB L v=(L.grant v.o v.of).toNat:=rfl;have w : ∀ j,(iF m v).g j=if j=fE m v.o v.of then upd (m.g (fE m v.o v.of)) 4 v.req else m.g j:=fun j=>rfl;have u : ∀ q,(kJ L v).g q=if q=zB L v then aI (L.g (zB L v)) 4 v.req else L.g q:=fun q=>rfl;have B:upd (m.g (fE m v.o v.of)) 4 v.req=aI (L.g (zB L v)) 4 v.req:=by rw[t]; rfl
 have f : ∀ j p,(p=0\/p=1)->(iF m v).g j p=m.g j p:=fun j p s=>by
  rw[w];by_cases c:j=fE m v.o v.of
  ·subst c; rw[d_ rfl]; rcases s with rfl|rfl <;> rfl
  ·rw[b_ c]
 have z : ∀ j p,(p=0\/p=1)->(kJ L v).g j p=L.g j p:=fun j p s=>by
  rw[u];by_cases c:j=zB L v
  ·subst c; rw[d_ rfl]; rcases s with rfl|rfl <;> rfl
  ·rw[b_ c]
 refine {
  T:=⟨h.T.has,h.T.n,h.T.par⟩
  inn:=h.inn
  left:=h.left
  known:=h.known
  row:=fun i r => ?_
  own:=h.own
  gi:=fun i j r a l d=>h.gi i j r a (by rw[f i 0 (.inl rfl),f j 0 (.inl rfl)]at l; exact l) (by rw[f i 1 (.inr rfl),f j 1 (.inr rfl)]at d; exact d)
  gn:=h.gn
  g1:=fun q b => ?_
  g2:=fun j a => ?_
  ask:=k1
  ga:=fun i r=>by rw[f i 0 (.inl rfl),f i 1 (.inr rfl)]; exact k2 _ _ (h.ga i r)
  li:=fun p q s b l d=>h.li p q s b (by rw[z p 0 (.inl rfl),z q 0 (.inl rfl)]at l; exact l) (by rw[z p 1 (.inr rfl),z q 1 (.inr rfl)]at d; exact d) }
 ·have:=H i r;show(qM m (fun x=>bG x v.o (m.g (fE m v.o v.of) 3)) (m.T.path (m.g (fE m v.o v.of) 2))).R (m.idx (L.id i))=_;rw[t]; exact this
 ·have b:q<L.gn:=b;rw[u];by_cases c:q=zB L v
  ·rw[d_ c]; exact⟨fE m v.o v.of,D,by rw[w,d_ rfl,B]⟩
  rw[b_ c];obtain⟨j,a,y⟩:=h.g1 q b;refine⟨j,a,?_⟩;rw[w,b_]
  ·exact y
  intro e;rw[e,t]at y;exact c (h.li q _ b C (congrFun y.symm 0) (congrFun y.symm 1))
 have a:j<m.gn:=a;rw[w];by_cases c:j=fE m v.o v.of
 ·rw[d_ c]; exact⟨zB L v,C,by rw[u,d_ rfl,B]⟩
 rw[b_ c];obtain⟨q,b,e⟩:=h.g2 j a;refine⟨q,b,?_⟩;rw[u,b_]
 ·exact e
 intro d;rw[d]at e;exact c (h.gi j _ a D (by rw[t,<- e,A]) (by rw[t,<- e,A]))
theorem gD.move(h:gD m L)(i:m.T.ok)(a:Inv0 L N)(k:bR v=true)(j:v.kind=5):kK m v=pz L v/\(pz L v=0->gD (CZ m v) (Fh L v)):=by
 obtain⟨b,l,n⟩:=O6 k j;unfold kK pz;by_cases c:L.node v.node<0
 ·rw[d_ c,d_ ((h.Lr a _).2 c)];exact⟨rfl,fun h=>by cases h⟩
 have f:0<=L.node v.node:=by omega
 rw[b_ c,b_ (fun e=>c ((h.Lr a _).1 e)),h.inn];have g:sO m v=yt L v:=by unfold sO yt; rw[<- h.rk a f]; rfl
 have e:(v.dst<1\/6<v.dst\/L.inn (v.dst-1).toNat=false)<->L.inn (v.dst-1).toNat=false:=⟨fun h=>by rcases h with h|h|h; omega; omega; exact h,fun h => .inr (.inr h)⟩
 by_cases d:L.inn (v.dst-1).toNat=false
 ·rw[d_ d,d_ (e.2 d)];exact⟨rfl,fun h=>by cases h⟩
 rw[b_ d,b_ (fun q=>d (e.1 q)),g];refine⟨rfl,fun _ => ?_⟩;have:=h.Cg i a ((h.node a _).2 f) (yt L v).1;unfold CZ Fh;rw[g]; exact this
theorem gD.raise(h:gD m L)(f:m.T.ok)(a:Inv0 L N):jE m v=wP L v/\(wP L v=0->gD (uH m v) (Fg L v)):=by
 unfold jE wP;by_cases c:L.node v.node<0
 ·rw[d_ c,d_ ((h.Lr a _).2 c)];exact⟨rfl,fun h=>by cases h⟩
 have b:0<=L.node v.node:=by omega
 have d:m.R (m.idx v.node)=L.R (L.node v.node).toNat:=h.rk a b;rw[b_ c,b_ (fun e=>c ((h.Lr a _).1 e)),d];refine⟨rfl,fun _ => ?_⟩;unfold uH Fg;rw[d];exact h.Cg f a ((h.node a _).2 b) _
theorem gD.does(h:gD m L)(c:m.T.ok)(b:Inv0 L N)(d:bR v=true):eF m v=dS L v/\(dS L v=0->gD (iO m v) (iN L v)):=by
 have j:=jh d;unfold eF dS iO iN;by_cases k1:v.kind=1
 ·rw[d_ k1,d_ k1,d_ k1,d_ k1]; exact⟨h.ahY c b d k1,fun e=>h.make c b d k1 e⟩
 rw[b_ k1,b_ k1,b_ k1,b_ k1];by_cases k2:v.kind=2
 ·rw[d_ k2,d_ k2,d_ k2,d_ k2]; exact h.raise c b
 rw[b_ k2,b_ k2,b_ k2,b_ k2];by_cases f:v.kind=3
 ·rw[d_ f,d_ f,d_ f,d_ f]; exact⟨h.pX c b d,fun e=>h.take c b d e⟩
 rw[b_ f,b_ f,b_ f,b_ f];by_cases g:v.kind=4
 ·rw[d_ g,d_ g,d_ g,d_ g]; exact⟨h.qW c b d,fun e=>h.free c b d e⟩
 rw[b_ g,b_ g,b_ g,b_ g];by_cases a:v.kind=5
 ·rw[d_ a,d_ a,d_ a,d_ a]; exact h.move c b d a
 rw[b_ a,b_ a,b_ a,b_ a];by_cases i:v.kind=6
 ·rw[d_ i,d_ i,d_ i];exact⟨rfl,fun _ => { h with T:=⟨h.T.has,h.T.n,h.T.par⟩,inn:=by show aI m.inn _ true=aI L.inn _ true; rw[h.inn] }⟩
 rw[b_ i,b_ i,b_ i];exact⟨rfl,fun _ => { h with T:=⟨h.T.has,h.T.n,h.T.par⟩,left:=by show aI m.left _ true=aI L.left _ true; rw[h.left] }⟩
theorem gD.apply(h:gD m L)(f:m.T.ok)(d:Inv0 L N)(v:EvM):bV m v=bK L v/\gD (jL m v) (dN L v):=by
 have e:bV m v=bK L v:=by
  unfold bV bK;rw[h.known,h.inn,h.left]
  cases b:bR v with
  | false=>rfl
  | true =>
    rw[(h.does f d b).1]
 refine⟨e,?_⟩;unfold jL dN;rw[e];by_cases c:bK L v=0
 ·rw[d_ c,d_ c];have b:=(Gl (jO c)).1;have g:dS L v=0:=by
   unfold bK at c;rw[b_ (by rw[b]; decide)]at c;split at c; · cases c
   split at c; · cases c
   split at c; · cases c
   exact c
  have a:=(h.does f d b).2 g;exact { a with T:=⟨a.T.has,a.T.n,a.T.par⟩,known:=by show aI (iO m v).known _ _=aI (iN L v).known _ _; rw[a.known] }
 rw[b_ c,b_ c]; exact h
theorem gD.sound(h:gD m L)(k:m.T.ok)(c:Inv0 L N):QlK m := {
 own:=fun a l=>by
  have b:=Pp (f:=L.id) (o:=(a:Int)+1) L.nn;have d:=c.nn;rw[h.own a l]; omega
 row:=fun i g p n=>by
  obtain⟨j,hj,e⟩:=(h.T.has _).1 (dJ.zF g);have b:=h.row j hj;rw[e]at b;have d:m.idx (m.T.x i)=i:=nY k.inj g rfl;unfold Bj at b;rw[d]at b;rw[b];exact mP (c.may j hj) p n
 ga:=h.ga
 kn:=by rw[h.known]; exact c.kn }
end
end Rt
namespace Rt
def nZ(x:Nat->Int):Int:=x 0*18446744073709551616+x 1
structure zl(L:fZ):Prop where
 up : ∀ i j,i<j->j<L.gn->nZ (L.g i)<nZ (L.g j)
 wf : ∀ q,q<L.gn->kH (L.g q 1)/\kH (L.g q 4)
 ga : ∀ q,q<L.gn->1<=L.g q 0/\L.g q 0<=6 /\ ∃ j,j<L.rn (L.g q 0-1).toNat/\L.rq (L.g q 0-1).toNat j=L.g q 1
section
variable {L:fZ} {N:Nat} {v:EvM}
theorem Wq(a:kH v.req){x:Nat->Int}(hx:kH (x 1)):EY v x=true<->nZ (qy v)<nZ x:=by
 unfold EY nZ kH at *;rw[Bool.or_eq_true,T_,Q_,Q_,Q_];show v.o<x 0\/x 0=v.o/\v.req<x 1<->v.o*18446744073709551616+v.req<x 0*18446744073709551616+x 1;omega
theorem Ls{a:Nat}{r:Int}(d:fZ)(f:d.rn=aI L.rn a (L.rn a+1))(g:d.rq=aI L.rq a (aI (L.rq a) (L.rn a) r)):(∀ b y,(∃ j,j<L.rn b/\L.rq b j=y) -> ∃ j,j<d.rn b/\d.rq b j=y) /\ ∃ j,j<d.rn a/\d.rq a j=r:=by
 rw[f,g];unfold aI;refine⟨fun b y ⟨j,h,e⟩ => ?_,L.rn a,by rw[d_ rfl]; omega,by rw[d_ rfl,d_ rfl]⟩;by_cases c:b=a
 ·subst c;exact⟨j,by rw[d_ rfl]; omega,by rw[d_ rfl,b_ (by omega)]; exact e⟩
 exact⟨j,by rw[b_ c]; exact h,by rw[b_ c]; exact e⟩
attribute [local irreducible] eP dw in
theorem NH(h:zl L)(J:bR v=true)(M:gU v)(t:iW L v=0):zl (mh L v):=by
 have z:=nX J;have m:kH v.req:=M.req;unfold iW at t;split at t
 ·cases t
 rename_i c1;obtain⟨w,x⟩:=Ls (L:=L) (a:=aO v) (r:=v.req) (mh L v) rfl rfl;have K : ∀ j,j<L.gn -> ¬ (L.g j 0=v.o/\L.g j 1=v.req):=fun j f e=>c1 (by
  obtain⟨_,_,q,b,y⟩:=h.ga j f;rw[e.1,e.2]at y;rw[e.1]at b;unfold fZ.kY;rw[Cq];exact⟨q,b,f_ y⟩)
 obtain⟨k,u⟩ : ∃ k,k=Fx.down (fun i=>EY v (L.g i)) L.gn:=⟨_,rfl⟩;have l:k<=L.gn:=by rw[u]; exact Fx.yK _ _
 have I : ∀ q,k<=q->q<L.gn->nZ (qy v)<nZ (L.g q):=fun q D d=>(Wq m (h.wf q d).1).1 (Fx.IK (P:=fun i=>EY v (L.g i)) (n:=L.gn) (i:=q) (by omega) d);have H : ∀ q,q<k->nZ (L.g q)<nZ (qy v):=fun q D=>by
  obtain⟨j,rfl⟩ : ∃ j,k=j+1:=⟨k-1,by omega⟩;have d:=Fx.IL (P:=fun i=>EY v (L.g i)) (n:=L.gn) (j:=j) u.symm;have E : ¬ nZ (qy v)<nZ (L.g j):=fun e=>by
   have:=(Wq m (h.wf j (by omega)).1).2 e;rw[this]at d; cases d
  have F:nZ (L.g j)<nZ (qy v):=by
   rcases Int.lt_trichotomy (nZ (L.g j)) (nZ (qy v))with c|c|c
   ·exact c
   ·exfalso;have G:=(h.wf j (by omega)).1;refine K j (by omega) ?_;unfold nZ at c;have c:L.g j 0*18446744073709551616+L.g j 1=v.o*18446744073709551616+v.req:=c;unfold kH at G m;omega
   ·exact N_ c E
  by_cases e:q=j
  ·rw[e]; exact F
  ·have:=h.up q j (by omega) (by omega); omega
 have p:(mh L v).g=Fx.cO L.g k (qy v):=by rw[u]; rfl
 have s:(mh L v).gn=L.gn+1:=rfl;refine⟨fun i j N f => ?_,fun q b => ?_,fun q b => ?_⟩
 ·rw[s]at f;rw[p]
  rcases dX l (show i<L.gn+1 by omega)with rfl|⟨q,b,eq,q1,q2⟩
  ·rcases dX l f with rfl|⟨r,hr,er,w,x⟩
   ·omega
   rw[dH,er]; exact I r (by omega) hr
  rcases dX l f with rfl|⟨r,hr,er,w,x⟩
  ·rw[dH,eq]; exact H q (by omega)
  rw[eq,er]; exact h.up q r (by omega) hr
 ·rw[s]at b;rw[p]
  rcases dX l b with rfl|⟨r,hr,er,_,_⟩
  ·rw[dH]; exact⟨m,by show kH 0; unfold kH; omega⟩
  rw[er]; exact h.wf r hr
 rw[s]at b;rw[p]
 rcases dX l b with rfl|⟨r,hr,er,_,_⟩
 ·rw[dH]; exact⟨z.1,z.2.1,x⟩
 rw[er];obtain⟨A,B,C⟩:=h.ga r hr;exact⟨A,B,w _ _ C⟩
attribute [local irreducible] eP dw in
theorem NI(h:zl L)(w:bR v=true)(s:gU v)(u:iM L v=0):zl (kJ L v):=by
 obtain⟨t,x⟩:=Ls (L:=L) (a:=aO v) (r:=v.req) (kJ L v) rfl rfl;have e : ∀ q,(kJ L v).g q=if q=zB L v then aI (L.g (zB L v)) 4 v.req else L.g q:=fun q=>rfl;have b : ∀ j p,(p=0\/p=1)->(kJ L v).g j p=L.g j p:=fun j p o=>by
  rw[e];by_cases c:j=zB L v
  ·subst c; rw[d_ rfl]; rcases o with rfl|rfl <;> rfl
  ·rw[b_ c]
 refine⟨fun i j m n => ?_,fun q d => ?_,fun q d => ?_⟩
 ·unfold nZ;rw[b i 0 (.inl rfl),b i 1 (.inr rfl),b j 0 (.inl rfl),b j 1 (.inr rfl)];exact h.up i j m n
 ·rw[b q 1 (.inr rfl)];refine⟨(h.wf q d).1,?_⟩;rw[e];by_cases c:q=zB L v
  ·rw[d_ c]; exact s.req
  rw[b_ c]; exact(h.wf q d).2
 rw[b q 0 (.inl rfl),b q 1 (.inr rfl)];obtain⟨f,k,l⟩:=h.ga q d;exact⟨f,k,t _ _ l⟩
theorem NJ(h:zl L)(e:gU v):zl (dN L v):=by
 unfold dN;by_cases c:bK L v=0
 ·rw[d_ c];have b:=(Gl (jO c)).1;have a:dS L v=0:=by
   unfold bK at c;rw[b_ (by rw[b]; decide)]at c;split at c; · cases c
   split at c; · cases c
   split at c; · cases c
   exact c
  have d:zl (iN L v):=by
   unfold dS at a;unfold iN;by_cases k1:v.kind=1
   ·rw[d_ k1]; exact⟨h.up,h.wf,h.ga⟩
   rw[b_ k1]at a ⊢;by_cases k2:v.kind=2
   ·rw[d_ k2]; exact⟨h.up,h.wf,h.ga⟩
   rw[b_ k2]at a ⊢;by_cases f:v.kind=3
   ·rw[d_ f]at a ⊢; exact NH h b e a
   rw[b_ f]at a ⊢;by_cases g:v.kind=4
   ·rw[d_ g]at a ⊢; exact NI h b e a
   rw[b_ g]at a ⊢;by_cases i:v.kind=5
   ·rw[d_ i]; exact⟨h.up,h.wf,h.ga⟩
   rw[b_ i];by_cases j:v.kind=6
   ·rw[d_ j]; exact⟨h.up,h.wf,h.ga⟩
   ·rw[b_ j]; exact⟨h.up,h.wf,h.ga⟩
  exact⟨d.up,d.wf,d.ga⟩
 rw[b_ c]; exact h
theorem Wu(k a:Nat):zl (qH k a).core:=⟨fun i j _ h=>N_ h (z_ _),fun q h=>N_ h (z_ _),fun q h=>N_ h (z_ _)⟩
theorem gD.new(k l d e f c b g:Nat):gD (yB k l d e f c b) (qH k g).core where
 T:=⟨fun q=>⟨fun h=>(nomatch h),fun⟨i,h,_⟩=>N_ h (z_ _)⟩,rfl,fun i h=>N_ h (z_ _)⟩
 inn:=rfl
 left:=rfl
 known:=rfl
 row:=fun i h=>N_ h (z_ _)
 own:=fun a _=>rfl
 gi:=fun i j h=>N_ h (z_ _)
 gn:=rfl
 g1:=fun q h=>N_ h (z_ _)
 g2:=fun q h=>N_ h (z_ _)
 ask:=fun a r _=>⟨fun h=>(nomatch h),fun⟨j,h,_⟩=>N_ h (z_ _)⟩
 ga:=fun i h=>N_ h (z_ _)
 li:=fun i j h=>N_ h (z_ _)
structure StC(L:fZ)(m:dU)(l:List Int)(gl:List Jv):Prop where
 nn:l.length=L.nn
 gn:gl.length=L.gn
 n : ∀ k,k<L.nn->l.getD k 0=L.id k/\m.T.par (l.getD k 0)=L.par k/\Bj m (l.getD k 0)=L.R k
 g : ∀ k,k<L.gn->(gl.getD k g0).x=L.g k
theorem StC.of{m:dU}{l:List Int}{c:List Jv}(h:gD m L)(F:Inv0 L N)(u:zl L)(B:l.Pairwise (· < ·) /\ ∀ k,k∈l<->m.T.has k=true)(s:GrS m c):StC L m l c:=by
 have w:l=(List.range L.nn).map L.id:=uS B.1 (by
  rw[List.pairwise_map];exact(List.pairwise_lt_range (n:=L.nn)).imp_of_mem fun {a b} _ hb hab=>F.rise a b hab (P_.1 hb)) fun k=>by
  rw[B.2,h.T.has,List.mem_map];exact⟨fun⟨i,d,e⟩=>⟨i,P_.2 d,e⟩,fun⟨i,d,e⟩=>⟨i,P_.1 d,e⟩⟩
 have y:c.map Li=(List.range L.gn).map fun q=>nZ (L.g q):=uS (by rw[List.pairwise_map]; exact s.up) (by
  rw[List.pairwise_map];exact(List.pairwise_lt_range (n:=L.gn)).imp_of_mem fun {a b} _ hb hab=>u.up a b hab (P_.1 hb)) fun k=>by
  rw[List.mem_map,List.mem_map];constructor
  ·rintro ⟨x,v,e⟩;obtain⟨i,d,p⟩:=s.mem x v;obtain⟨q,o,r⟩:=h.g2 i d;refine⟨q,P_.2 o,?_⟩;rw[r,<- p]; exact e
  ·rintro ⟨q,o,e⟩;obtain⟨j,G,C⟩:=h.g1 q (P_.1 o);obtain⟨x,v,E⟩:=s.all j G;refine⟨x,v,?_⟩;rw[<- e,<- C,<- E]; rfl
 have I:c.length=L.gn:=by have:=M_ List.length y; rwa [List.length_map,List.length_map,List.length_range]at this
 refine⟨by rw[w,List.length_map,List.length_range],I,fun k f => ?_,fun k f => ?_⟩
 ·have:l.getD k 0=L.id k:=by
   rw[w,r_,o_ (by rw[List.length_map,List.length_range]; exact f)];simp
  rw[this];exact⟨rfl,h.T.par k f,h.row k f⟩
 have t:k<c.length:=by omega
 have H:c.getD k g0∈c:=by rw[r_,o_ t]; exact R_ t
 have D:Li (c.getD k g0)=nZ (L.g k):=by
  have A:=M_ (fun z=>z.getD k 0) y;simp only[r_,List.getElem?_map,o_ t,List.getElem?_range f]at A;rw[r_,o_ t]; exact A
 obtain⟨i,d,p⟩:=s.mem _ H;obtain⟨q,o,r⟩:=h.g2 i d;have J:nZ (L.g q)=nZ (L.g k):=by rw[r,<- p,<- D]; rfl
 have:q=k:=by
  rcases Nat.lt_trichotomy q k with h5|h5|h5
  ·have:=u.up q k h5 f; omega
  ·exact h5
  ·have:=u.up k q h5 o; omega
 rw[p,<- r,this]
end
end Rt
end Go.Proofs.YtahbiajdgealnaaGreatDoor
