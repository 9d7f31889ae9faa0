/-
  What the proof of the law rests on, part 6: walks of functions, and plain laws; each says its conditions itself.
-/
import Derived.Shelf.SlSortCmp.NoneTotal
import Derived.Shelf.SlSortCmp.WholeK
import Derived.Lib.SliceRun
import Derived.Ground.SlsfProg
import Derived.Test.YtahbiajdgealnaaGreatDoorProg
import Derived.Test.YtahbiajdgealnaaGreatDoorZG5
set_option maxRecDepth 20000
set_option linter.unusedVariables false
set_option maxHeartbeats 1600000
set_option linter.unusedSimpArgs false
namespace Go.Proofs.YtahbiajdgealnaaGreatDoor
open Go.RowKit
namespace Fx
abbrev RA:=List (Nat × List Nat)
def Ir(ops:List Oper)(a:List Nat)(b:Bool)(i:Nat)(l:RA):Bool:=l.all fun x=>match a[x.1]? with|some e => !Nat.beq i e&&(if b then yH ops i x.2 e else yH ops e x.2 i)|none=>false
def N8(ops:List Oper)(a:List Nat)(c b:List RA):Bool:=(List.range ops.length).all fun i=>Ir ops a true i (c.getD i [])&&Ir ops a false i (b.getD i [])
def qw(a:List Nat)(b:Array Bool)(j:Nat):Bool:=match a[j]? with|some e=>b.getD e false|none=>false
def VZ(m:Nat->Bool)(j:Nat):Nat->Bool:=fun q=>bif Nat.beq q j then true else m q
section
variable {P:Program} {n:Nat} {Q:Post} {f:Nat->Value} {w:World} {ops:List Oper}
theorem RB{i e:Nat}{p:List Nat}{b:Array Bool}(hr:i∈Region.ready .any ops.toArray b)(j:J4 ops.toArray .any b)(d:i≠e)(h:yH ops i p e=true):b.getD e false=true:=by
 obtain⟨m,n,l,g⟩:=fM hr;obtain⟨f,h⟩:=jc h
 cases f with
 | zero=>unfold reach at h; exact M_ (by simpa using h) d
 | succ f =>
   unfold reach at h;rw[Bool.or_eq_true]at h
   rcases h with h|h
   ·exact M_ (by simpa using h) d
   ·rw[l]at h;simp only at h;rw[Array.any_eq_true']at h;obtain⟨c,k,a⟩:=h;rw[T_]at a;refine j.reach _ _ a.2<|g c.on ?_;unfold dJ;rw[Array.any_eq_true'];exact⟨c,k,by rw[a.1,Nat.beq_refl]; rfl⟩
theorem W.masks{id:Nat}(o:List Nat)(X po:List RA)(y:Gh->Nat->Value)(S:(Nat->Bool)->Gh->World->Prop)(hm:P.follows .mixedOrders=true)(U:lX n ops=true)(hsel:Region.noSelect ops.toArray=true)(V4:N8 ops o X po=true)
 (hes:o.all (fun e=>Nat.blt e ops.length&&(match (opAt ops e).guard with|none=>true|_=>false))=true) (hnd:o.Nodup) (r0:Gh)
 (h0 : ∀ D,Below w.heap.size w D->D.heap.size=w.heap.size->S (fun _=>false) r0 D)
 (J : ∀ i,i<ops.length->o.contains i=false -> ∀ r m w,(∀ x∈X.getD i [],m x.1=true)->(∀ x∈po.getD i [],m x.1=false)->S m r w->if Region.wanted (opAt ops i) (yf ops.toArray (full ops f (y r)))then Oper.quietUpon P (S m r) w (y r i) ((execOp (ev (full ops f (y r))) (opAt ops i)).run P w)else y r i=undef)
 (I : ∀ j i,o[j]? = some i -> ∀ r m w (a:Act) (K:Act->World->Prop),(∀ x∈X.getD i [],m x.1=true)->(∀ x∈po.getD i [],m x.1=false)->m j=false->S m r w->(∀ x∈(opAt ops i).op.operands,a.eval x=ev (full ops f (y r)) x)->(∀ p C,S (VZ m j) (rD r j p) C->K (a.put (opAt ops i).dst (y (rD r j p) i)) C)->(opAt ops i).wp P a w K (lift n Q))
 (hd : ∀ i,i<ops.length -> ∀ j r p,(∀ x∈X.getD i [],x.1≠j)->o[j]? ≠ some i->j<o.length->y (rD r j p) i=y r i)
 (h : ∀ r m C,(∀ j,j<o.length->m j=true)->S m r C->Q .normal (full ops f (y r)) C):W P n (.region id ops.toArray true) Q f w:=fun a M=>by
 refine wp_region_any hm ?_;have Z : ∀ i,i<ops.length->Ir ops o true i (X.getD i [])=true/\Ir ops o false i (po.getD i [])=true:=fun i t=>by
  unfold N8 at V4;rw[List.all_eq_true]at V4;have:=V4 i (by simpa using t)
  rwa [T_]at this
 have hpr : ∀ i,i<ops.length -> ∀ x∈X.getD i [],∃ e,o[x.1]? = some e/\i≠e/\yH ops i x.2 e=true:=fun i t x G=>by
  have c:=(Z i t).1;unfold Ir at c;rw[List.all_eq_true]at c;have c:=c x G
  cases I:o[x.1]? with
  | none=>rw[I]at c; cases c
  | some e =>
    rw[I]at c;simp only[if_true,T_]at c;exact⟨e,rfl,fun q=>by subst q; rw[Nat.beq_refl]at c; exact M_ c.1 (by simp),c.2⟩
 have hpo : ∀ i,i<ops.length -> ∀ x∈po.getD i [],∃ e,o[x.1]? = some e/\yH ops e x.2 i=true:=fun i t x G=>by
  have c:=(Z i t).2;unfold Ir at c;rw[List.all_eq_true]at c;have c:=c x G
  cases I:o[x.1]? with
  | none=>rw[I]at c; cases c
  | some e =>
    rw[I]at c;simp only[T_]at c;exact⟨e,rfl,by simpa using c.2⟩
 have SF : ∀ k i,o[k]? = some i->i<ops.length/\(opAt ops i).guard=none:=fun k i hk=>by
  rw[List.all_eq_true]at hes;have:=hes i (List.mem_of_getElem? hk);rw[T_]at this;refine⟨by simpa [Nat.blt_eq] using this.1,?_⟩
  cases hg:(opAt ops i).guard with
  | none=>rfl
  | some _=>rw[hg]at this; exact M_ this.2 (by simp)
 have key : ∀(O:Nat) (b:Array Bool) (a:Act) (D:World) (r:Gh),b.size=ops.length->J4 ops.toArray .any b->Fr a n (over ops f (y r) b)->S (qw o b) r D ->
  (∀ N:List Nat,N=(List.range ops.length).filter (fun i => !b.getD i false)->N.length=O)->wpAny P .any ops.toArray (lift n Q) O b a D:=by
  intro O
  induction O with
  | zero =>
    intro b a D r V Eb M R Y;have T : ∀ i,i<ops.length->b.getD i false=true:=fun i t=>by
     have c:=List.eq_nil_of_length_eq_zero (Y _ rfl)
     cases J:b.getD i false
     ·have:i∈(List.range ops.length).filter (fun i => !b.getD i false):=(by simp only[List.mem_filter,O_]; exact⟨t,by rw[J]; rfl⟩);rw[c]at this; cases this
     ·rfl
    have hnone:Region.ready .any ops.toArray b = []:=by
     cases J:Region.ready .any ops.toArray b with
     | nil=>rfl
     | cons i l =>
       have F:i∈Region.ready .any ops.toArray b:=(by rw[J]; exact List.mem_cons_self);obtain⟨c,E,_,_⟩:=fM F;rw[T i E]at c; cases c
    refine⟨hnone,full ops f (y r),?_,h r _ D (fun j A => ?_) R⟩
    ·have:over ops f (y r) b=full ops f (y r):=by
      funext s
      unfold over full
      cases Z:writer ops s with
      | none=>rfl
      | some i=>simp only; rw[d_ (T i (nH Z).2)]
     exact this ▸ M
    ·unfold qw;rw[o_ A];exact T _ (SF j _ (o_ A)).1
  | succ O ih =>
    intro b a D r V Eb M R Y;have hcount : ∀ i,i∈Region.ready .any ops.toArray b -> ∀ N:List Nat,N=(List.range ops.length).filter (fun j => !(b.setIfInBounds i true).getD j false)->N.length=O:=by
     intro i F N abF;obtain⟨c,E,_,_⟩:=fM F;subst abF;have e:(List.range ops.length).filter (fun j => !(b.setIfInBounds i true).getD j false)=((List.range ops.length).filter (fun i => !b.getD i false)).erase i:=by
      rw[List.Nodup.erase_eq_filter (List.Nodup.sublist List.filter_sublist List.nodup_range),List.filter_filter];apply List.filter_congr;intro j A;by_cases e:i=j
      ·subst e; rw[set_self (by rw[V]; exact E)]; simp
      ·rw[kI e];have:(j != i)=true:=(by simp; exact fun q=>e q.symm);rw[this,Bool.true_and]
     rw[e,List.length_erase_of_mem (by simp only[List.mem_filter,O_]; exact⟨E,by rw[c]; rfl⟩),Y _ rfl];rfl
    refine⟨fun hnone => ?_,fun i F => ?_⟩
    ·exfalso;have hlen:=Y _ rfl;exact(by
      have : ∃ i,i∈Region.ready .any ops.toArray b:=by
       obtain⟨q,J⟩ : ∃ q,q∈(List.range ops.length).filter (fun i => !b.getD i false):=by
        cases hfe:(List.range ops.length).filter (fun i => !b.getD i false)with
        | nil=>rw[hfe]at hlen; cases hlen
        | cons q l=>exact⟨q,List.mem_cons_self⟩
       have MU : ∀ m q,q<=m->q<ops.length->b.getD q false=false -> ∃ i,i<ops.length/\b.getD i false=false /\ ∀ j,j<i->b.getD j false=true:=by
        intro m
        induction m with
        | zero=>intro q hm B hq2; exact⟨q,B,hq2,fun j A=>by omega⟩
        | succ m ihm =>
          intro q hm B hq2;by_cases T : ∀ j,j<q->b.getD j false=true
          ·exact⟨q,B,hq2,T⟩
          ·obtain⟨j,A⟩:=Classical.not_forall.1 T;obtain⟨hj1,hj2⟩:=Classical.not_imp.1 A;exact ihm j (by omega) (by omega) (by simpa using hj2)
       simp only[List.mem_filter,O_]at J;obtain⟨i,t,hi1,hi2⟩:=MU q q (A_ _) J.1 (by simpa using J.2);refine⟨i,mem_ready.2 ⟨getD_in (by rw[V]; exact t) hi1,opAt ops i,?_,fun e I hb=>hi2 e.on ((fE U t).2.2.2 e.on ?_)⟩⟩
       ·unfold opAt; rw[List.getElem?_toArray,r_,o_ t]; rfl
       ·unfold dJ; rw[Array.any_eq_true']; exact⟨e,I,by rw[hb,Nat.beq_refl]; rfl⟩
      obtain⟨i,t⟩:=this;rw[hnone]at t; cases t)
    ·obtain⟨c,t,hop,T⟩:=fM F;have hsz':(b.setIfInBounds i true).size=ops.length:=(by simpa using V);have Kh:=Eb.set F;have hev:=OH (f:=f) U (v:=y r) F;have hae : ∀ x∈(opAt ops i).op.operands,a.eval x=ev (full ops f (y r)) x:=fun x G=>by rw[M.ev]; exact hev x G
     have hex:=execOp_congr _ (Region.noSelect_spec hsel i _ · · hop) hae;have hwant:Region.wanted (opAt ops i) (yielded ops.toArray a.tmps)=Region.wanted (opAt ops i) (yf ops.toArray (full ops f (y r))):=(by rw[M.yf]; exact Du U F);have hpre : ∀ x∈X.getD i [],qw o b x.1=true:=fun x G=>by
      obtain⟨e,E,h3,H⟩:=hpr i t x G;unfold qw;rw[E]; exact RB F Eb h3 H
     have hpost : ∀ x∈po.getD i [],qw o b x.1=false:=fun x G=>by
      obtain⟨e,E,H⟩:=hpo i t x G;unfold qw;rw[E]
      cases hle:b.getD e false with
      | false=>exact hle
      | true =>
        obtain⟨mm,H⟩:=jc H;have:=Eb.reach _ _ H hle;rw[c]at this; cases this
     unfold wpOp;simp only[hop];rw[hwant];by_cases hne:o.contains i=true
     ·have hmem:i∈o:=(by simpa using hne);obtain⟨j,A⟩:=List.getElem?_of_mem hmem;have hg:=(SF j i A).2;have hjl:=(List.getElem?_eq_some_iff.1 A).1;rw[d_ (by unfold Region.wanted; rw[hg])];refine .inl<|I j i A r _ D a _ hpre hpost (by unfold qw; rw[A]; exact c) R hae fun p C hS' => ?_;have hsame:over ops f (y r) b=over ops f (y (rD r j p)) b:=by
       funext s
       unfold over
       cases Z:writer ops s with
       | none=>rfl
       | some q =>
         simp only
         cases hlq:b.getD q false
         ·rfl
         ·simp only[if_true];have hqi:=(nH Z).2;refine(hd q hqi j r p (fun x G e => ?_) (fun e => ?_) hjl).symm
          ·obtain⟨L,E,h3,H⟩:=hpr q hqi x G;obtain⟨mm,H⟩:=jc H;have h5:=Eb.reach _ _ H hlq;rw[e,A]at E;rw[<- C_ E,c]at h5; cases h5
          ·rw[A]at e;rw[<- C_ e,c]at hlq; cases hlq
      refine ih _ _ _ (rD r j p) hsz' Kh ?_ ?_ (hcount i F)
      ·have:=(hsame ▸ M).put (d:=(opAt ops i).dst) (by
        cases hd:(opAt ops i).dst with
        | none=>rfl
        | some d=>simp[inn,Nat.blt_eq,((fE U t).1 d hd).2]) (y (rD r j p) i)
       rwa [Bo U V t]at this
      ·have e:qw o (b.setIfInBounds i true)=VZ (qw o b) j:=by
        funext q
        unfold VZ
        cases hb:Nat.beq q j with
        | true =>
          have:=B_ hb;subst this;unfold qw;rw[A]; exact set_self (by rw[V]; exact t)
        | false =>
          have hqj:q≠j:=fun z=>by rw[z,Nat.beq_refl]at hb; cases hb
          unfold qw
          cases hqe:o[q]? with
          | none=>rfl
          | some L =>
            have:i≠L:=fun z=>by
             subst z;have h9:=List.getElem?_eq_some_iff.1 hqe;have h10:=List.getElem?_eq_some_iff.1 A;exact hqj ((List.getElem_inj hnd).1 (h9.2.trans h10.2.symm))
            exact kI this
       rw[e]; exact hS'
     ·have hne':o.contains i=false:=(by simpa using hne);have B:=J i t hne' r _ D hpre hpost R;have hfin : ∀ C,S (qw o b) r C->wpAny P .any ops.toArray (lift n Q) O (b.setIfInBounds i true) (a.put (opAt ops i).dst (y r i)) C:=fun C hS'=>by
       refine ih _ _ _ r hsz' Kh ?_ ?_ (hcount i F)
       ·have:=M.put (d:=(opAt ops i).dst) (by
         cases hd:(opAt ops i).dst with
         | none=>rfl
         | some d=>simp[inn,Nat.blt_eq,((fE U t).1 d hd).2]) (y r i)
        rwa [Bo U V t]at this
       ·have e:qw o (b.setIfInBounds i true)=qw o b:=by
         funext q
         unfold qw
         cases hqe:o[q]? with
         | none=>rfl
         | some L =>
           have:i≠L:=fun z=>by subst z; exact M_ (show o.contains i=true by simpa using List.mem_of_getElem? hqe) hne
           exact kI this
        rw[e]; exact hS'
      by_cases hwt:Region.wanted (opAt ops i) (yf ops.toArray (full ops f (y r)))=true
      ·rw[d_ hwt]at B ⊢;refine .inl ?_;unfold Oper.wp;rw[hex];generalize (execOp (ev (full ops f (y r))) (opAt ops i)).run P D=res at B
       cases res with
       | ok nx C =>
         cases nx <;> simp only[Oper.quietUpon]at B <;> simp only[Oper.upon]
         case value u=>obtain⟨e1,L⟩:=B; subst e1 L; exact hfin _ R
         case skip=>obtain⟨e1,L⟩:=B; subst e1; rw[<- L]; exact hfin _ R
         case enter g args =>
          obtain⟨e1,hc⟩:=B;subst e1;exact hc.mono fun e w'' ⟨he',hw''⟩=>by subst he'; exact hfin _ hw''
       | halt x C=>simp only[Oper.quietUpon]at B
      ·rw[b_ hwt]at B ⊢;rw[<- B];exact hfin _ R
 have hrep : ∀ i,(Array.replicate ops.toArray.size false).getD i false=false:=fun i=>by
  rw[Array.getD_eq_getD_getElem?];by_cases t:i<ops.length
  ·simp[t]
  ·simp[t]
 have hstart:over ops f (y r0) (Array.replicate ops.toArray.size false)=f:=by
  funext s
  unfold over
  cases writer ops s with
  | none=>rfl
  | some i=>simp only; rw[hrep]; simp
 have hdn:qw o (Array.replicate ops.toArray.size false)=fun _=>false:=by
  funext j
  unfold qw
  cases o[j]? with
  | none=>rfl
  | some e=>exact hrep e
 have:=key ops.toArray.size (Array.replicate ops.toArray.size false) a { w with drawn:=w.drawn+1 } r0 (by simp) (J4.start _ _ _) (by rw[hstart]; exact M) (by rw[hdn]; exact h0 _ (Below.refl _ _).drew rfl) (fun N Y=>by
  subst Y;rw[List.filter_eq_self.2 (fun i _=>by rw[hrep]; rfl)];simp)
 simpa using this
theorem eF{r:Gh}{k j:Nat}{p:Nat × Nat}(h:j≠k):rD r k p j=r j:=by
 unfold rD;have:Nat.beq j k=false:=by
  cases hq:Nat.beq j k
  ·rfl
  ·exact M_ (B_ hq) h
 rw[this]; rfl
theorem LG{o:Oper}{ρ:Operand->Value}{T:TypeId}{m:Nat}{z:Nat->Value}(d:o.op = .alloc T)(e:((P.info? T).bind (·.zero)).map (·.cells)=some (aA m z))(a:World) : ∃ b,(execOp ρ o).run P a = .ok (.value (.pointer (some ⟨a.heap.size,0,none⟩))) b/\aP b a.heap.size m z T/\Stp a.heap.size a b:=by
 obtain⟨i,f,g⟩:=Option.map_eq_some_iff.1 e;obtain⟨j,c,h⟩:=Option.bind_eq_some_iff.1 f;refine⟨a.alloc (.cells i.cells T),?_,?_,Stp.alloc _ _⟩
 ·unfold execOp;simp[d,Instr.alloc,zeroValue,typeInfo,c,h,newVar,newRow]
 show(a.alloc _).heap[a.heap.size]? = _;rw[alloc_at,d_ rfl,g]
theorem LH{o:Oper}{ρ:Operand->Value}{T T':TypeId}{a v:Operand}{m g:Nat}{x y:Nat->Value}{u:Value}(A:o.op = .store T' a v)(l:(P.info? T').map (·.size)=some m)(n:ρ a = .pointer (some ⟨g,0,none⟩))(p:ρ v=u)(D:u.cells=aA m y)(h1 : ∀ j,j<m->(y j).oneCell'=true){b:World}(t:aP b g m x T) : ∃ d,(execOp ρ o).run P b = .ok .skip d/\aP d g m y T/\Stp g b d:=by
 have h:=t;have s:(aA m y).all (·.oneCell')=true:=by
  rw[Array.all_eq_true_iff_forall_mem];intro q B;obtain⟨j,i,z⟩:=Array.getElem_of_mem B;have k:j<m:=by simpa [bX] using i
  have e:=fK y k;rw[Array.getElem?_eq_getElem i,z]at e;rw[C_ e]; exact h1 j k
 have C:(storeVar T' ⟨g,0,none⟩ u).run P b = .ok () (b.setRow g (aA m y)):=by
  have f:=run_storeCells_at (P:=P) g 0 T (aA m y).toList 0 (aA m x) b h (by simp[bX]) (fun q c=>(Array.all_eq_true_iff_forall_mem.1 s) q (by simpa using c));have r:((aA m x).toList.take (0+0)++(aA m y).toList++(aA m x).toList.drop (0+0+(aA m y).toList.length)).toArray=aA m y:=by
   rw[List.drop_eq_nil_of_le (by simp[bX])]; simp
  rw[r]at f
  cases c:P.info? T' with
  | none=>simp[c]at l
  | some ti =>
    have E:ti.size=m:=(by simp[c]at l; omega);simp only[storeVar,sizeOf,typeInfo,Sem.run_bind,run_program,c,D,bX,E,ne_eq,not_true_eq_false,if_false,Result.andThen_ok,Sem.run_pure,f]
 obtain⟨F,G,H⟩:=Au (w:=b) (cs:=aA m y) h;refine⟨_,?_,G,F⟩;unfold execOp;simp only[A,n,p,Instr.storeAt,Instr.sureAddr,Sem.run_bind,Sem.run_pure,Result.andThen_ok,C]
def C8(c d:Nat)(vs:Array Value)(a b:Nat):Nat->Value:=fun i=>bif Nat.beq i c then .pointer (some ⟨a,0,none⟩)else bif Nat.beq i d then .pointer (some ⟨b,0,none⟩)else vs.getD i undef
def JK(ops:List Oper)(f:Nat->Value)(c d:Nat)(vs:Array Value)(a b:Nat):Nat->Value:=full ops f (C8 c d vs a b)
structure Zh(w:World)(m1 m2:Nat)(z1 y1 z2 y2:Nat->Value)(T1 T2:TypeId)(m:Nat->Bool)(r:Gh)(v:World):Prop where
 b:Below w.heap.size w v
 a:m 0=true->w.heap.size<=(r 0).1/\aP v (r 0).1 m1 (if m 2=true then y1 else z1) T1
 c:m 1=true->w.heap.size<=(r 1).1/\aP v (r 1).1 m2 (if m 3=true then y2 else z2) T2
 ne:m 0=true->m 1=true->(r 0).1≠(r 1).1
theorem Zh.up{m1 m2:Nat}{z1 y1 z2 y2:Nat->Value}{T1 T2:TypeId}{m:Nat->Bool}{r:Gh}{v e:World}(h:Zh w m1 m2 z1 y1 z2 y2 T1 T2 m r v)(d:Below v.heap.size v e):Zh w m1 m2 z1 y1 z2 y2 T1 T2 m r e :=
 ⟨J3 h.b d,fun q=>⟨(h.a q).1,(h.a q).2.cZ (Sb d) (u_ (h.a q).2.lt)⟩,fun q=>⟨(h.c q).1,(h.c q).2.cZ (Sb d) (u_ (h.c q).2.lt)⟩,h.ne⟩
def Oa(P:Program)(a:Nat->Value)(ops:Array Oper)(w:World)(b:List Nat)(vs:Array Value):List Oper->Nat->Prop
 | [],_=>True
 | o::l,i=>(b.contains i=true\/(if Region.wanted o (yf ops a)then QB P (ev a) o w (vs.getD i undef)else vs.getD i undef=undef))/\Oa P a ops w b vs l (i+1)
theorem Iu{a:Nat->Value}{c:Array Oper}{b:List Nat}{vs:Array Value} : ∀ {l:List Oper} {k:Nat},Oa P a c w b vs l k -> ∀ i,i<l.length->(b.contains (k+i)=true\/(if Region.wanted (opAt l i) (yf c a)then QB P (ev a) (opAt l i) w (vs.getD (k+i) undef)else vs.getD (k+i) undef=undef))
 | [],_,_,i,hi=>M_ hi (by simp)
 | o::l,k,h,0,_=>h.1
 | o::l,k,h,i+1,hi=>by
   have:=Iu h.2 i (by simpa using hi)
   rwa [show k+1+i=k+(i+1) by omega]at this
theorem F9{i j:Nat}(h:i≠j):Nat.beq i j=false:=by
 cases hq:Nat.beq i j
 ·rfl
 exact M_ (B_ hq) h
def C9(l:RA)(j:Nat):Bool:=l.any fun x=>Nat.beq x.1 j
theorem xJ{l:RA}{j:Nat}(h:C9 l j=true) : ∃ x∈l,x.1=j:=by
 unfold C9 at h;rw[List.any_eq_true]at h;obtain⟨x,a,b⟩:=h;exact⟨x,a,B_ b⟩
theorem JL{id:Nat}{T1 T2 T1' T2':TypeId}{a1 v1 a2 v2:Operand}{m1 m2:Nat}{z1 y1 z2 y2:Nat->Value}{u1 u2:Value}(k l y z:Nat)(O N:List RA)(vs:Array Value)(hm:P.follows .mixedOrders=true)(hok:lX n ops=true)(hsel:Region.noSelect ops.toArray=true)(V4:N8 ops [k,l,y,z] O N=true)
 (hes : [k,l,y,z].all (fun e=>Nat.blt e ops.length&&(match (opAt ops e).guard with|none=>true|_=>false))=true) (hnd:decide [k,l,y,z].Nodup=true)
 (hw1:C9 (O.getD y []) 0=true) (hw2:C9 (O.getD z []) 1=true) (hw3:C9 (N.getD k []) 2=true) (hw4:C9 (N.getD l []) 3=true)
 (o1:(opAt ops k).op = .alloc T1) (o2:(opAt ops l).op = .alloc T2) (n1:((P.info? T1).bind (·.zero)).map (·.cells)=some (aA m1 z1)) (n2:((P.info? T2).bind (·.zero)).map (·.cells)=some (aA m2 z2))
 (V:(opAt ops y).op = .store T1' a1 v1) (X:(opAt ops z).op = .store T2' a2 v2) (Y:(opAt ops y).dst=none) (Z:(opAt ops z).dst=none) (e1:(P.info? T1').map (·.size)=some m1) (e2:(P.info? T2').map (·.size)=some m2)
 (ha1 : ∀ o s,ev (JK ops f k l vs o s) a1 = .pointer (some ⟨o,0,none⟩)) (ha2 : ∀ o s,ev (JK ops f k l vs o s) a2 = .pointer (some ⟨s,0,none⟩)) (hv1 : ∀ o s,ev (JK ops f k l vs o s) v1=u1) (hv2 : ∀ o s,ev (JK ops f k l vs o s) v2=u2)
 (hu1:u1.cells=aA m1 y1) (hu2:u2.cells=aA m2 y2) (h11 : ∀ j,j<m1->(y1 j).oneCell'=true) (h12 : ∀ j,j<m2->(y2 j).oneCell'=true)
 (hq : ∀ o s,Oa P (JK ops f k l vs o s) ops.toArray w [k,l,y,z] vs ops 0)
 (h : ∀ o s F f',f'=JK ops f k l vs o s->w.heap.size<=o->w.heap.size<=s->o≠s->aP F o m1 y1 T1->aP F s m2 y2 T2->Below w.heap.size w F->Q .normal f' F):W P n (.region id ops.toArray true) Q f w:=by
 have hn:=h_ hnd;simp only[List.nodup_cons,List.mem_cons,List.not_mem_nil,or_false,not_or]at hn;obtain⟨⟨x12,x1s,x1t⟩,⟨x2s,x2t⟩,xst,_⟩:=hn;refine W.masks [k,l,y,z] O N (fun r=>C8 k l vs (r 0).1 (r 1).1) (Zh w m1 m2 z1 y1 z2 y2 T1 T2) hm hok hsel V4 hes (h_ hnd) (fun _=>(0,0)) (fun w1 A _=>⟨A,fun h=>(nomatch h),fun h=>(nomatch h),fun h=>(nomatch h)⟩) ?_ ?_ ?_ ?_
 ·intro i hi U r m v _ _ d
  rcases Iu (hq (r 0).1 (r 1).1) i hi with h2|h2
  ·rw[G_]at h2; rw[h2]at U; cases U
  rw[G_]at h2;have hni':i≠k/\i≠l/\i≠y/\i≠z:=by simpa using U
  have I:C8 k l vs (r 0).1 (r 1).1 i=vs.getD i undef:=by unfold C8; rw[F9 hni'.1,F9 hni'.2.1]; rfl
  show if Region.wanted (opAt ops i) (yf ops.toArray (JK ops f k l vs (r 0).1 (r 1).1))then Oper.quietUpon P _ v (C8 k l vs (r 0).1 (r 1).1 i) ((execOp (ev (JK ops f k l vs (r 0).1 (r 1).1)) (opAt ops i)).run P v)else C8 k l vs (r 0).1 (r 1).1 i=undef;rw[I];by_cases hw:Region.wanted (opAt ops i) (yf ops.toArray (JK ops f k l vs (r 0).1 (r 1).1))=true
  ·rw[d_ hw]at h2 ⊢
   rcases h2 v d.b with h3|⟨g,args,h3,h4⟩
   ·rw[h3]; exact⟨rfl,rfl⟩
   rw[h3]; exact⟨rfl,h4.mono fun e w2 ⟨he,hb2⟩=>⟨he,d.up hb2⟩⟩
  rw[b_ hw]at h2 ⊢; exact h2
 ·intro j i t r m v a K hpr hpo hmj d B L
  match j,t with
  | 0,t =>
    obtain rfl:k=i:=(by simpa using t);obtain⟨v2,E,A,u⟩:=LG (ρ:=a.eval) o1 n1 v;unfold Oper.wp;rw[E];obtain⟨x,C,D⟩:=xJ hw3;have hm2:m 2=false:=(by rw[<- D]; exact hpo x C);have:=L (v.heap.size,0) v2 ⟨J3 d.b u.old,fun _=>by
     rw[pz];exact⟨d.b.size,by show aP v2 v.heap.size m1 (if m 2=true then y1 else z1) T1; rw[hm2]; exact A⟩,fun q=>by
     have q:=q;rw[eF (by decide)];exact⟨(d.c q).1,(d.c q).2.cZ u (u_ (d.c q).2.lt)⟩,fun _ q=>by
     have q:=q;rw[pz,eF (by decide)];exact Nat.ne_of_gt (d.c q).2.lt⟩
    have I:C8 k l vs (rD r 0 (v.heap.size,0) 0).1 (rD r 0 (v.heap.size,0) 1).1 k = .pointer (some ⟨v.heap.size,0,none⟩):=(by unfold C8; rw[Nat.beq_refl,pz]; rfl);rw[I]at this;exact this
  | 1,t =>
    obtain rfl:l=i:=(by simpa using t);obtain⟨v2,E,A,u⟩:=LG (ρ:=a.eval) o2 n2 v;unfold Oper.wp;rw[E];obtain⟨x,C,D⟩:=xJ hw4;have hm3:m 3=false:=(by rw[<- D]; exact hpo x C);have:=L (v.heap.size,0) v2 ⟨J3 d.b u.old,fun q=>by
     have q:=q;rw[eF (by decide)];exact⟨(d.a q).1,(d.a q).2.cZ u (u_ (d.a q).2.lt)⟩,fun _=>by
     rw[pz];exact⟨d.b.size,by show aP v2 v.heap.size m2 (if m 3=true then y2 else z2) T2; rw[hm3]; exact A⟩,fun q _=>by
     have q:=q;rw[pz,eF (by decide)];exact u_ (d.a q).2.lt⟩
    have I:C8 k l vs (rD r 1 (v.heap.size,0) 0).1 (rD r 1 (v.heap.size,0) 1).1 l = .pointer (some ⟨v.heap.size,0,none⟩):=(by unfold C8; rw[F9 (fun e=>x12 e.symm),Nat.beq_refl,pz]; rfl);rw[I]at this;exact this
  | 2,t =>
    obtain rfl:y=i:=(by simpa using t);obtain⟨x,C,D⟩:=xJ hw1;have G:m 0=true:=(by rw[<- D]; exact hpr x C);have R:=(B a1 (by rw[V]; simp[Op.operands])).trans (ha1 (r 0).1 (r 1).1);have S:=(B v1 (by rw[V]; simp[Op.operands])).trans (hv1 (r 0).1 (r 1).1);obtain⟨J,E,A,u⟩:=LH V e1 R S hu1 h11 (d.a G).2;unfold Oper.wp;rw[E];show K (a.put (opAt ops y).dst undef) _;rw[Y];have:=L (0,0) J ⟨u.below d.b d.b.size (d.a G).1,fun _=>by
     rw[eF (by decide)];exact⟨(d.a G).1,by show aP J (r 0).1 m1 (if VZ m 2 2=true then y1 else z1) T1; exact A⟩,fun q=>by
     have q:=q;rw[eF (by decide)];exact⟨(d.c q).1,(d.c q).2.cZ u (fun e=>d.ne G q e.symm)⟩,fun _ q=>by
     have q:=q;rw[eF (by decide),eF (by decide)];exact d.ne G q⟩
    rw[Y]at this;exact this
  | 3,t =>
    obtain rfl:z=i:=(by simpa using t);obtain⟨x,C,D⟩:=xJ hw2;have H:m 1=true:=(by rw[<- D]; exact hpr x C);have R:=(B a2 (by rw[X]; simp[Op.operands])).trans (ha2 (r 0).1 (r 1).1);have S:=(B v2 (by rw[X]; simp[Op.operands])).trans (hv2 (r 0).1 (r 1).1);obtain⟨J,E,A,u⟩:=LH X e2 R S hu2 h12 (d.c H).2;unfold Oper.wp;rw[E];show K (a.put (opAt ops z).dst undef) _;rw[Z];have:=L (0,0) J ⟨u.below d.b d.b.size (d.c H).1,fun q=>by
     have q:=q;rw[eF (by decide)];exact⟨(d.a q).1,(d.a q).2.cZ u (d.ne q H)⟩,fun _=>by
     rw[eF (by decide)];exact⟨(d.c H).1,by show aP J (r 1).1 m2 (if VZ m 3 3=true then y2 else z2) T2; exact A⟩,fun q _=>by
     have q:=q;rw[eF (by decide),eF (by decide)];exact d.ne q H⟩
    rw[Z]at this;exact this
  | j+4,t=>simp at t
 ·intro i hi j r p C hne hjl;have t:j=0\/j=1\/j=2\/j=3:=by simp at hjl; omega
  show C8 k l vs (rD r j p 0).1 (rD r j p 1).1 i=C8 k l vs (r 0).1 (r 1).1 i;unfold C8
  rcases t with rfl|rfl|rfl|rfl
  ·have:i≠k:=fun e=>hne (by rw[e]; rfl);rw[F9 this]; simp only[cond_false]; rw[eF (by decide)]
  ·have:i≠l:=fun e=>hne (by rw[e]; rfl);rw[F9 this]; simp only[cond_false]; rw[eF (by decide)]
  ·rw[eF (by decide),eF (by decide)]
  rw[eF (by decide),eF (by decide)]
 intro r m F M d;have m0:=M 0 (by simp); have m1':=M 1 (by simp); have m2':=M 2 (by simp); have m3:=M 3 (by simp);have B:=d.a m0; have T:=d.c m1';rw[m2']at B; rw[m3]at T;exact h (r 0).1 (r 1).1 F _ rfl B.1 T.1 (d.ne m0 m1') B.2 T.2 d.b
end
end Fx
end Go.Proofs.YtahbiajdgealnaaGreatDoor
namespace Go.Proofs.YtahbiajdgealnaaGreatDoor
open Go.RowKit Rt
open Fx (bB Lv sN Ln Ws Rp Wr Sb Wk rC sR Rs Rn Rk JL gX vw rv aA aP aN ev Stp aW Mp iI jZ cells_one)
namespace Rt
def nQ(v:EvM):Int:=1099511627776*v.o+v.seq
def iW(m:dU)(v:EvM):Int:=if 5<=m.own (aO v)\/140737488355328<v.aU then 6 else m.T.err (nQ v) v.node
def DY(m:dU)(v:EvM):dU := { m with T:=m.T.put (nQ v) v.node,R:=aN m.R m.T.n (upd (fun _=>0) (aO v) v.aU),own:=aH m.own (aO v) (m.own (aO v)+1) }
theorem V6{T:dN}{pa:Int}{id:Int}{w:World}{b n:Nat}{x:Nat->Int}(h:Mp w b n x (aN (Ev T) T.n (aC pa))):Mp w b n x (Ev (T.put id pa)):=h.vI fun i _=>⟨rfl,by show aN (Ev T) T.n _ i=aC (aN T.p T.n pa i); unfold aN Ev; split <;> rfl⟩
theorem Zi{R:Nat->Nat->Int}{j n b:Nat}{r:Nat->Int}{x:Nat->Int}{w:World}(h:Mp w b n x (aN (xI R) j (.agg (aA 54 (rv .i64 r))))):Mp w b n x (xI (aN R j r)):=ET _ _ _ _ h
end Rt
theorem aij(o q:Int)(w:World)(b:1<=o/\o<=6)(c:1<=q/\q<1099511627776):Calls Tryz.prog 169 #[au o,aC q] w fun e a=>e = .returned (aC (1099511627776*o+q))/\a=w:=by
 have h:=aoQ o.toNat q.toNat w (by omega) (by omega);rw[show((o.toNat:Nat):Int)=o by omega,show((q.toNat:Nat):Int)=q by omega]at h;exact h
theorem V7(m:dU)(b B:Nat)(w:World)(h:mh w B b m)(v:EvM)(hv:bS v=true)(J:m.T.err (nQ v) v.node=0)(a:Nat)(ha:a<6)(hra:aO v=a)(hob:0<=m.own a/\m.own a<=1000)(hid:0<=nQ v/\nQ v<=18446744073709551615)(I:Nat)(G:Nat)(l:Nat)(H:Nat)(S:aP w I 1 (fun _=>(pt b)) 37)(hi:aP w G 1 (fun _=>aC (nQ v)) 28)(P:aP w l 14 (bV v) 32)(Q:aP w H 1 (fun _=>au (a:Int)) 3) :
 Calls Tryz.prog 171 #[(pt I),(pt G),(pt l),(pt H)] w fun e w'=>e = .returned (.tuple #[])/\mh w' B b (DY m v)/\jZ (F6 m b) w w':=by
 have hC:=h.c;have hT:=h.t;have hP:=h.p;have hR:=h.r;have hG:=h.g;have hA:=h.a;have d:=h.ne;have U : ∀ i,i<m.T.n->m.T.x i≠nQ v:=fun i hi e=>by have:=(Fy J).2.1; rw[jN hi e]at this; cases this
 refine Kent Tryz.func171 42 ?_;refine Ws ?_;refine kJ [5,0,1,2,3,4,6,7] [4,0,0,4,4,0,4,3] [(7,0,[3,2,1,0]),(7,3,[3]),(7,4,[4]),(7,6,[6])] fun rG K iJ => ?_;have s1:=Sb K;have⟨W,m2,m3,m4,m5,m6,m7,m8,m9,m10⟩:=vG K hC hT hP hR hG hA S hi P Q;have b1:=(vw (F6 m b) w).then s1 (.inr (vw (F6 m b) w).size);refine bf (pf l 9)<|Rs (pt b) (aM m7.aI 0) ?_;refine bf (pt b)<|bf (pf b 18)<|Rs (pt m.tp) (aM W.aI 18) ?_;refine Rs (aC (nQ v)) (aM m8.aI 0) ?_;refine Rs (aC v.node) (aM m9.aI 9) ?_;refine gQ<|dQ (KN (nQ v) v.node m2 hid) _ rfl ?_;rintro y ⟨m11,s2⟩;have j:=m2.Cj s2;have m12:=W.dW j;have m13:=m3.dW j (Ne.symm d.mp);have m14:=m4.dW j (Ne.symm d.mr);have m15:=m5.dW j (Ne.symm d.mg);have m16:=m6.dW j (Ne.symm d.ma);have m17:=m7.dW j;have m18:=m8.dW j;have m19:=m9.dW j;have m20:=m10.dW j;have C:=b1.then s2 (.inl (.inr (.inl rfl)));have m21:sP y B m.tp m.mb (m.T.put (nQ v) v.node):=by rw[<- dN.EU J]; exact m11
 refine Ln<|bT<|Ws ?_;refine kJ [5,0,1,2,3,4,6,7] [4,0,0,4,4,0,4,3] [(7,0,[0]),(7,3,[3]),(7,4,[4]),(7,6,[6])] fun Dx M nX => ?_;have s3:=Sb M;have⟨m22,m23,m24,nP,oG,nY,nZ,oH,pG,nA⟩:=vG M m12 m13 m14 m15 m16 m17 m18 m19 m20 m21;have b3:=C.then s3 (.inr C.size);refine bf (pf l 9)<|Rs (pt b) (aM nY.aI 0) ?_;refine bf (pt b)<|bf (pf b 19)<|Rs (.map (some m.pb)) (aM m22.aI 19) ?_;refine Rs (aC (nQ v)) (aM nZ.aI 0) ?_;refine Rs (aC v.node) (aM oH.aI 9) ?_;refine gQ<|Fx.L.Qu (by rfl) rfl rfl rfl rfl rfl m23 Tryz.underlying100 Tryz.underlying28 U fun z m32 s4 z1 => ?_;have k:=m23.Cj s4;have qg:=m22.dW k;have oO:=m24.dW k (Ne.symm d.pr);have qh:=nP.dW k (Ne.symm d.pg);have qH:=oG.dW k (Ne.symm d.pa);have nS:=nY.dW k;have rU:=nZ.dW k;have pV:=oH.dW k;have sJ:=pG.dW k;have nJ:=nA.dW k (d.mp);have D:=b3.then s4 (.inl (.inr (.inr (.inl rfl))));have mJ:Mp z m.pb ((m.T.put (nQ v) v.node).n) ((m.T.put (nQ v) v.node).x) (Ev (m.T.put (nQ v) v.node)):=V6 m32;refine Ln<|bT<|Ws ?_;refine kJ [0,2,3,7,8,1,4,5,6,9,10] [4,4,0,0,0,4,0,0,0,0,3] [(10,0,[0]),(10,1,[1]),(10,5,[5])] fun R8 N BA => ?_;have s5:Stp z.heap.size z R8:=Sb N;have⟨s,sK,rJ,og,qV,wT,tV,rW,wu,uX⟩:=vG N qg oO qh qH nS rU pV sJ nJ mJ;have b5:=D.then s5 (.inr D.size);refine Rs (pt b) (aM qV.aI 0) ?_;refine bf (pt b)<|bf (pf b 21)<|bf (pt b)<|bf (pf b 21)<|Rs (au a) (aM rW.aI 0) ?_;refine Rp (pf b (a+21)) (fun _=>iY 6 1)<|Rs (au (m.own a)) (aM s.aI (a+21) (JG (p:=a) (by omega) (by omega))) ?_;refine Rp (au ((m.own a)+1)) (fun _=>eU)<|Rp (pf b (a+21)) (fun _=>iY 6 1)<|gQ<|jh s (a+21) (au ((m.own a)+1)) fun w3 uN s6 z2 => ?_;have vL:aP w3 b 29 (vY { m with own:=aH m.own a (m.own a+1) }) 106:=uN.to (Y6 ha (by omega) _);have gD:=gX s6 s.ty;have⟨wz,uw,uy,uz,wU,qI,vM,oh,tX⟩:=abS gD sK rJ og qV wT tV rW wu uX;have q:=b5.then s6 (.inl (.inl rfl));refine Ln<|bT<|ay<|av (.agg (aA 54 (rv .i64 (fun _=>0))))<|uW 54 (rv .i64 (fun _=>0)) fun o w4 F u s7 z3 => ?_;have⟨wV,wB,wW,wX,sM,uY,uD,wC,uZ,yx⟩:=vG s7.old wz uw uy uz wU qI vM oh tX vL;have b7:=q.then s7 (.inr q.size);have V:=iT F q.size;have⟨apf,apg,aph,apj,apk,apl,apm,apn,apo⟩:=Yb F wz.lt uw.lt uy.lt uz.lt wU.lt qI.lt vM.lt tX.lt vL.lt;have uM:=u.lt;refine fq u 0 fun w5 wD s8 z4 => ?_;have yA:aP w5 o 54 (rv .i64 (fun _=>0)) 59:=aW wD;have jv:=gX s8 u.ty;have⟨yB,yC,wY,wE,vg,vN,yR,xV,AA,zW⟩:=OQ jv wV wB wW wX sM uY uD wC uZ yx;have b8:=b7.then s8 (.inr V);refine aD<|ay<|Lv (au a) (aM yR.aI 0)<|av (pf l 11)<|Lv (au v.aU) (aM vN.aI 11)<|av (pt o)<|Lv (pf o a) (iY 6 1)<|jh yA a (au v.aU) fun A zX s9 z5 => ?_;have yS:aP A o 54 (rv .i64 (upd (fun _=>0) a v.aU)) 59:=zX.to (Fx.zw _ _ _ _);have qc:=gX s9 yA.ty;have⟨zD,Al,Dz,Cc,Ao,Bg,yE,DJ,Ce,DK⟩:=OQ qc yB yC wY wE vg vN yR xV AA zW;have E:=b8.then s9 (.inr V);refine aD ?_;refine kJ [0,1,2,3,4,5,6] [4,0,0,4,4,4,3] [(6,0,[0]),(6,3,[3]),(6,4,[4]),(6,5,[5])] fun wt4 O Hw => ?_;have s10:Stp A.heap.size A wt4:=Sb O;have⟨Eo,uO,xB,X,Y,oI,ou,pK,oJ,Z,aa⟩:=Fq O zD Al Dz Cc Ao Bg yE DJ Ce DK yS;have b10:=E.then s10 (.inr E.size);refine Rs (pt b) (aM X.aI 0) ?_;refine bf (pt b)<|bf (pf b 20)<|Rs (.map (some m.rb)) (aM Z.aI 20) ?_;refine Rs (aC (nQ v)) (aM Y.aI 0) ?_;refine Rs (.agg (aA 54 (rv .i64 (upd (fun _=>0) a v.aU)))) (fJ aa.aI 0) ?_;refine gQ<|Fx.L.Qu (by rfl) rfl rfl rfl rfl rfl Eo Tryz.underlying101 Tryz.underlying28 U fun w7 tZ s11 z6 => ?_;have f:=Eo.Cj s11;have qm:=uO.dW f (Ne.symm d.rg);have sZ:=xB.dW f (Ne.symm d.ra);have xZ:=X.dW f;have uf:=Y.dW f;have yc:=oI.dW f;have AL:=ou.dW f;have vR:=pK.dW f (d.mr);have tu:=oJ.dW f (d.pr);have pO:=Z.dW f;have xC:=aa.dW f;have b11:=b10.then s11 (.inl (.inr (.inr (.inr (.inl rfl)))));have xD:Mp w7 m.rb ((m.T.put (nQ v) v.node).n) ((m.T.put (nQ v) v.node).x) (xI (aN m.R m.T.n (upd (fun _=>0) a v.aU))):=Zi tZ;refine Ln (Rn (⟨.tuple #[],iI Tryz.results171,?_⟩));unfold DY; rw[hra];exact⟨rfl,{ c:=pO,t:=vR,p:=tu,r:=xD,g:=qm,a:=sZ,ne:=⟨d.mp,d.mr,d.mg,d.ma,d.pr,d.pg,d.pa,d.rg,d.ra,d.ga⟩,lB:=h.lB,pB:=h.pB,rB:=h.rB,gB:=h.gB,aB:=h.aB },b11⟩
theorem Zj(m:dU)(j B:Nat)(w:World)(h:mh w B j m)(v:EvM)(L:bS v=true)(ab : ∀ a,a<6->0<=m.own a/\m.own a<=1000) :
 Calls Tryz.prog 162 #[(pt j),.agg (aA 14 (bV v))] w fun e w'=>Sd w B j m (DY m v) (iW m v) e w':=by
 have Z:=h.c;have lG:=h.g.lt;have lA:=h.a.lt;obtain⟨a,J,ho⟩ : ∃ a:Nat,a<6/\v.o=(a:Int)+1:=fu (iO L);have z:aO v=a:=by unfold aO; omega
 have hbd:=oz L;have aa:0<=nQ v/\nQ v<=18446744073709551615:=by unfold nQ; omega
 have hoa:=ab a J;refine Kent Tryz.func162 38 ?_;refine ay<|yM (pt j) fun n w1 X M s1 z1 => ?_;have⟨m2,U⟩:=fF s1.old Z (Below.refl w.heap.size w);have tN:=iy X;have nI:=cu X Z.lt;have uM:=M.lt;refine rE fun b w2 Y l s2 z2 => ?_;have⟨P,Q,H⟩:=jr s2.old m2 M U;have qW:=iT Y U.size;have⟨ahO,Pb⟩:=vH Y m2.lt M.lt;have zY:=l.lt;refine av (.nilFunc)<|av (au 0)<|aD<|Ws ?_;refine JL (T1:=28) (T2:=3) (T1':=28) (T2':=3) (a1 := .tmp 6) (v1 := .tmp 13) (a2 := .tmp 7) (v2 := .tmp 16) (m1:=1) (m2:=1) (z1:=rv .u64 (fun _=>0)) (y1:=fun _=>aC (nQ v)) (z2:=rv .i64 (fun _=>0)) (y2:=fun _=>au (a:Int)) (u1:=aC (nQ v)) (u2:=au (a:Int)) 8 9 10 11 [[],[],[],[],[],[],[],[],[],[],[(0,[8]),(1,[9])],[(0,[8]),(1,[9]),(2,[10])]] [[(2,[0]),(3,[0])],[(2,[1]),(3,[1])],[(2,[2]),(3,[2])],[(2,[3]),(3,[3])],[(2,[4]),(3,[4])],[(3,[5])],[(3,[6])],[(3,[7])],[(2,[8]),(3,[8])],[(2,[9]),(3,[9])],[(3,[10])],[]] #[(pt b),au v.o,(pf b 1),aC v.seq,aC (nQ v),(pt b),au v.o,au (a:Int),undef,undef,undef,undef] (by kernel_rfl) (by kernel_rfl) (by kernel_rfl) (by kernel_rfl) (by kernel_rfl) (by kernel_rfl) (by kernel_rfl) (by kernel_rfl) (by kernel_rfl) (by kernel_rfl) rfl rfl (by kernel_rfl) (by kernel_rfl) rfl rfl rfl rfl (by kernel_rfl) (by kernel_rfl) (fun d f=>(show ev _ (.tmp 6)=(pt d)from by kernel_rfl)) (fun d f=>(show ev _ (.tmp 7)=(pt f)from by kernel_rfl)) (fun d f=>(show ev _ (.tmp 13)=aC (nQ v)from by kernel_rfl)) (fun d f=>(show ev _ (.tmp 16)=au (a:Int)from by kernel_rfl)) (cells_one (by rfl)) (cells_one (by rfl)) (fun _ _=>rfl) (fun _ _=>rfl) (fun d f => ?_) ?_
 ·refine⟨?_,?_,?_,?_,?_,?_,?_,?_,?_,?_,?_,?_,trivial⟩
  ·exact .inr oF
  ·exact .inr (lY (au v.o) fun D q=>bB (x:=bV v) rfl (show ev _ (.tmp 9)=(pt b)from by kernel_rfl) (by kernel_rfl) (l.aI.below q (by have:=l.lt; omega)) (i:=0) (by omega) (by omega) rfl)
  ·exact .inr oF
  ·exact .inr (lY (aC v.seq) fun D q=>bB (x:=bV v) rfl (show ev _ (.tmp 11)=(pf b 1)from by kernel_rfl) (by kernel_rfl) (l.aI.below q (by have:=l.lt; omega)) (i:=1) (by omega) (by omega) rfl)
  ·exact .inr (Fx.yI (v:=aC (nQ v)) (by kernel_rfl) (by kernel_rfl) (Fx.qbC (fun D q=>rC (args := [au v.o,aC v.seq]) rfl (Fx.args2 (show ev _ (.tmp 10)=au v.o from by kernel_rfl) (show ev _ (.tmp 12)=aC v.seq from by kernel_rfl)) Tryz.func169 rfl rfl) (fun D q=>(aij v.o v.seq _ (by omega) (by omega)).mono fun e v2 h=>⟨h.1,(by rw[h.2]; exact Below.refl _ _)⟩)))
  ·exact .inr oF
  ·exact .inr (lY (au v.o) fun D q=>bB (x:=bV v) rfl (show ev _ (.tmp 14)=(pt b)from by kernel_rfl) (by kernel_rfl) (l.aI.below q (by have:=l.lt; omega)) (i:=0) (by omega) (by omega) rfl)
  ·exact .inr (lY (au a) fun D q=>Fx.OE rfl (show ev _ (.tmp 15)=au v.o from by kernel_rfl) (show ev _ (.const (au 1))=au 1 from by kernel_rfl) Fx.io)
  ·exact .inl rfl
  ·exact .inl rfl
  ·exact .inl rfl
  exact .inl rfl
 rintro d f w3 G y A C ne1 m6 m7 hb1;have atA:j≠d:=u_ (n_ (P.lt) A);have aaS:n≠d:=u_ (n_ (Q.lt) A);have atB:b≠d:=u_ (n_ (l.lt) A);have atC:j≠f:=u_ (n_ (P.lt) C);have atD:n≠f:=u_ (n_ (Q.lt) C);have atE:b≠f:=u_ (n_ (l.lt) C);have⟨m8,m9,m10,b3⟩:=nO hb1 P Q l H;have A:w.heap.size<=d:=m_ H.size A;have J6:=m6.lt;have C:w.heap.size<=f:=m_ H.size C;have Rf:=m7.lt;have R:G 2=(pt n):=by rw[y]; kernel_rfl
 have S:G 3=(pt b):=by rw[y]; kernel_rfl
 have q5:G 6=(pt d):=by rw[y]; kernel_rfl
 have q6:G 7=(pt f):=by rw[y]; kernel_rfl
 clear y;refine sN<|Ws<|Ws ?_;refine kJ [0,2,3,1,4,5,6,7,8,9,10,11] [4,4,0,0,0,4,0,0,0,4,0,0] [] fun rG dZ iJ => ?_;have⟨m11,N,O,ac,ad,E⟩:=tT dZ m8 m9 m10 m6 m7 b3;refine Rs (pt j) (aM N.aI 0 (ha:=R)) ?_;refine bf (pt j)<|bf (pf j 21)<|Rs (au a) (aM ad.aI 0 (ha:=q6)) ?_;refine Rp (pf j (a+21)) (fun _=>iY 6 1)<|Rs (au (m.own a)) (aM m11.aI (a+21) (JG (p:=a) (by omega) (by omega))) ?_;by_cases V:5<=(m.own a)
 ·refine Rp aG (fun _=>kM V)<|bf aG<|Rk (by rfl)<|Rk (by rfl)<|Rk (by rfl)<|bf aG<|bT<|aL<|ay<|av (.nilFunc)<|av (au 6)<|aD<|Wr<|sR<|aJ (.tuple #[.nilFunc,au 6]) ?_;have k:iW m v=6:=by unfold iW; rw[z]; exact d_ (.inl (by omega))
  exact⟨⟨.nilFunc,0,#[],by rw[k],rfl,fun u=>M_ (k.symm.trans u) (by first|decide|omega|assumption)⟩,E⟩
 refine Rp aF (fun _=>kg V)<|bf aF<|Rp (pf b 11) (fun _=>iZ S 11)<|Rs (au v.aU) (aM O.aI 11) ?_;by_cases W:140737488355328<v.aU
 ·refine Rp aG (fun _=>mK W)<|bf aG<|bT<|aL<|ay<|av (.nilFunc)<|av (au 6)<|aD<|Wr<|sR<|aJ (.tuple #[.nilFunc,au 6]) ?_;have k:iW m v=6:=by unfold iW; rw[z]; exact d_ (.inr (by omega))
  exact⟨⟨.nilFunc,0,#[],by rw[k],rfl,fun u=>M_ (k.symm.trans u) (by first|decide|omega|assumption)⟩,E⟩
 refine Rp aF (fun _=>mM W)<|bf aF<|bT<|aK<|Wk<|sN<|Ws<|ay<|Lv (pt j) (aM N.aI 0 (ha:=R))<|Lv (aC (nQ v)) (aM ac.aI 0 (ha:=q5))<|Lv (pf b 9) (iZ S 9)<|Lv (aC v.node) (aM O.aI 9)<|dQ (aeu m j B _ (h.up E) (nQ v) v.node aa) _ rfl ?_;intro w4 s;have⟨ae,af,ag,m20,I⟩:=tQ s N O ac ad E;refine av (au (m.T.err (nQ v) v.node))<|aD<|ay<|av (au (m.T.err (nQ v) v.node)) ?_;by_cases F:(m.T.err (nQ v) v.node)=0
 ·refine Lv aF (ko F)<|aD<|aK<|Wk<|sN<|ay<|Lv (.func (.func 171) #[] #[(pt n),(pt d),(pt b),(pt f)]) (Fx.nk (us := []) (vs := [(pt n),(pt d),(pt b),(pt f)]) rfl rfl (Fx.Sq R q5 S q6))<|av (.func (.func 171) #[] #[(pt n),(pt d),(pt b),(pt f)])<|av (au 0)<|aD<|Wr<|aJ (.tuple #[.func (.func 171) #[] #[(pt n),(pt d),(pt b),(pt f)],au 0]) ?_;have k:iW m v=0:=by unfold iW; rw[z,b_ (by omega)]; exact F
  exact⟨⟨_,171,#[(pt n),(pt d),(pt b),(pt f)],by rw[k],rfl,fun _=>⟨rfl,⟨_,_,Tryz.func171,rfl,rfl⟩,fun w2 s=>(V7 m j B w2 ((h.up I).up s) v L F a J z (ab a J) aa _ _ _ _ (ae.cZ (Sb s) (u_ ae.lt)) (ag.cZ (Sb s) (u_ ag.lt)) (af.cZ (Sb s) (u_ af.lt)) (m20.cZ (Sb s) (u_ m20.lt))).mono fun _ _ K=>⟨K.1,K.2.1,K.2.2.mono fun _ hk => .inl hk⟩⟩⟩,I⟩
 refine Lv aG (nN F)<|aD<|aL<|ay<|av (au (m.T.err (nQ v) v.node))<|av (.nilFunc)<|av (au (m.T.err (nQ v) v.node))<|aD<|Wr<|sR<|aJ (.tuple #[.nilFunc,au (m.T.err (nQ v) v.node)]) ?_;have k:iW m v=m.T.err (nQ v) v.node:=by unfold iW; rw[z,b_ (by omega)]
 exact⟨⟨.nilFunc,0,#[],by rw[k],rfl,fun u=>M_ (k.symm.trans u) (by first|decide|omega|assumption)⟩,I⟩
end Go.Proofs.YtahbiajdgealnaaGreatDoor
namespace Go.Proofs.YtahbiajdgealnaaGreatDoor
open Go.RowKit Go
namespace Rt
section
variable {x p:Nat->Int} {n d e:Nat} {k v:Int}
theorem JM : ∀ {d:Nat} {v:Int},jB x p n d v -> ∀ k,k∈jE x p n d v->(jE x p n d k).length<=(jE x p n d v).length
 | 0,v,h,k,hk=>by cases hk
 | d+1,v,h,k,hk=>by
   cases hv:dR x n v with
   | false=>rw[kZ hv]at hk; cases hk
   | true =>
     have e:jE x p n (d+1) v=v::jE x p n d (iD x p n v):=(by show(if _ then _ else _)=_; rw[d_ hv]);have a:=h hv;rw[e]at hk
     rcases List.mem_cons.1 hk with rfl|hk
     ·exact A_ _
     ·have b:=JM a k hk;have c:jB x p n d k:=by
       refine Bz (d:=d) ?_ (m_ b zC);exact Ga a k hk
      have f:=(Jg c (Nat.le_succ d)).1;rw[f,e,List.length_cons]; omega
where Ga : ∀ {d:Nat} {v:Int},jB x p n d v -> ∀ k,k∈jE x p n d v->jB x p n d k
 | 0,v,h,k,hk=>by cases hk
 | d+1,v,h,k,hk=>by
   cases hv:dR x n v with
   | false=>rw[kZ hv]at hk; cases hk
   | true =>
     have e:jE x p n (d+1) v=v::jE x p n d (iD x p n v):=(by show(if _ then _ else _)=_; rw[d_ hv]);have hs:jB x p n d (iD x p n v):=h hv;rw[e]at hk
     rcases List.mem_cons.1 hk with rfl|hk
     ·exact h
     ·exact(Jg (Ga hs k hk) (Nat.le_succ d)).2
theorem Iw : ∀ {d:Nat} {v:Int},jB x p n d v->(jE x p n d v).Nodup
 | 0,v,h=>List.nodup_nil
 | d+1,v,h=>by
   cases hv:dR x n v with
   | false=>rw[kZ hv]; exact List.nodup_nil
   | true =>
     have e:jE x p n (d+1) v=v::jE x p n d (iD x p n v):=(by show(if _ then _ else _)=_; rw[d_ hv]);have a:=h hv;rw[e,List.nodup_cons];refine⟨fun c => ?_,Iw a⟩;have f:=JM a v c;have b:=(Jg (JM.Ga a v c) (Nat.le_succ d)).1;rw[e]at b;rw[<- b,List.length_cons]at f;omega
end
section
variable {T:dN} {l:List Int} {k:Int}
theorem dN.Ba(h:T.ok)(k:Int):(T.path k).Nodup:=Iw (h.stop k)
theorem dN.oC(h:T.ok)(e:l=T.path k) : ∀ v,v∈l->T.has v=true:=fun v c=>by
 obtain⟨i,a,b⟩:=List.getElem_of_mem c;have:=dN.NY h e a;rw[r_,o_ a]at this;rw[<- b]; exact this
theorem Da(h:l.Nodup){i j:Nat}(hi:i<l.length)(a:j<l.length)(e:l.getD i 0=l.getD j 0):i=j:=by
 rw[r_,r_,o_ hi,o_ a]at e;exact(List.getElem_inj h).1 e
end
def jR(f:(Nat->Int)->(Nat->Int) × Int)(r:Nat->Nat->Int):Nat->Int
 | 0=>0
 | i+1=>if jR f r i=0 then(f (r i)).2 else jR f r i
section
variable {f:(Nat->Int)->(Nat->Int) × Int} {r:Nat->Nat->Int} {i n:Nat}
theorem Db(h:jR f r i=0)(a:(f (r i)).2=0):jR f r (i+1)=0:=by unfold jR; rw[d_ h,a]
theorem Bb(h:jR f r i=0)(a : ¬ (f (r i)).2=0) : ∀ n,i<n->jR f r n=(f (r i)).2
 | 0,hn=>M_ hn (z_ _)
 | n+1,hn=>by
   unfold jR;by_cases e:i=n
   ·subst e; rw[d_ h]
   ·rw[Bb h a n (by omega),b_ a]
theorem Gb : ∀ {n:Nat},jR f r n=0 -> ∀ i,i<n->(f (r i)).2=0
 | 0,_,i,hi=>M_ hi (z_ _)
 | n+1,h,i,hi=>by
   unfold jR at h;by_cases a:jR f r n=0
   ·rw[d_ a]at h;by_cases e:i=n
    ·rw[e]; exact h
    ·exact Gb a i (by omega)
   ·rw[b_ a]at h; exact M_ h a
end
def EA(m:dU)(k:Int):Nat->Int:=m.R (m.idx k)
def dA(m:dU)(f:(Nat->Int)->(Nat->Int) × Int)(l:List Int):Int:=jR f (fun i=>EA m (l.getD i 0)) l.length
open Classical in
noncomputable def qO(m:dU)(f:(Nat->Int)->(Nat->Int) × Int)(l:List Int):dU := { m with R:=fun i=>if m.T.x i∈l then(f (m.R i)).1 else m.R i }
def DZ(l:List Int)(S:Nat->Bool)(v:Int):Nat->Bool
 | 0=>false
 | n+1=>DZ l S v n || (S n&&decide (l.getD n 0=v))
theorem sj{l:List Int}{S:Nat->Bool}{v:Int} : ∀ {n:Nat},DZ l S v n=true <-> ∃ q,q<n/\S q=true/\l.getD q 0=v
 | 0=>⟨fun h=>(nomatch h),fun⟨q,h,_⟩=>M_ h (z_ _)⟩
 | n+1=>by
   unfold DZ;rw[Bool.or_eq_true,sj,T_,Q_];constructor
   ·rintro (⟨q,c,a,b⟩|⟨c,a⟩)
    ·exact⟨q,by omega,a,b⟩
    ·exact⟨n,by omega,c,a⟩
   ·rintro ⟨q,c,a,b⟩;by_cases e:q=n
    ·subst e; exact .inr ⟨a,b⟩
    ·exact .inl ⟨q,by omega,a,b⟩
def zh(m:dU)(f:(Nat->Int)->(Nat->Int) × Int)(l:List Int)(S:Nat->Bool):Nat->Nat->Int:=fun i=>if DZ l S (m.T.x i) l.length=true then(f (m.R i)).1 else m.R i
theorem Ob(m:dU)(f:(Nat->Int)->(Nat->Int) × Int)(l:List Int):zh m f l (fun _=>false)=m.R:=by
 funext i
 unfold zh;rw[b_];rw[sj];rintro ⟨q,_,h,_⟩; cases h
theorem RD{m:dU}(o:m.T.ok){f:(Nat->Int)->(Nat->Int) × Int}{l:List Int}{S:Nat->Bool}{q j:Nat}(t:q<l.length)(s:j<m.T.n)(g:m.T.x j=l.getD q 0) : ∀ i,i<m.T.n->Fx.aN (zh m f l S) j (f (m.R j)).1 i=zh m f l (Fx.aN S q true) i:=fun i p=>by
 unfold Fx.aN;by_cases e:i=j
 ·subst e;rw[d_ rfl];unfold zh;rw[d_];rw[sj];exact⟨q,t,by show(if q=q then true else S q)=true; rw[d_ rfl],g.symm⟩
 ·rw[b_ e];unfold zh;have:DZ l S (m.T.x i) l.length=true<->DZ l (fun i=>if i=q then true else S i) (m.T.x i) l.length=true:=by
   rw[sj,sj];constructor
   ·rintro ⟨r,d,a,b⟩;exact⟨r,d,by show(if r=q then true else S r)=true; split <;> first|rfl|exact a,b⟩
   ·rintro ⟨r,d,a,b⟩;by_cases k:r=q
    ·subst k;exact M_ (o.inj i j p s (by rw[g,<- b])) e
    ·exact⟨r,d,by have a:=a; rw[b_ k]at a; exact a,b⟩
  by_cases c:DZ l S (m.T.x i) l.length=true
  ·rw[d_ c,d_ (this.1 c)]
  ·rw[b_ c,b_ (fun h=>c (this.2 h))]
theorem V9{m:dU}{f:(Nat->Int)->(Nat->Int) × Int}{l:List Int}{S:Nat->Bool}(h : ∀ q,q<l.length->S q=true):zh m f l S=(qO m f l).R:=by
 funext i
 show _=if m.T.x i∈l then(f (m.R i)).1 else m.R i;unfold zh;have:DZ l S (m.T.x i) l.length=true<->m.T.x i∈l:=by
  rw[sj];constructor
  ·rintro ⟨q,b,_,d⟩;rw[<- d,r_,o_ b]; exact R_ b
  ·intro g;obtain⟨q,a,e⟩:=List.getElem_of_mem g;exact⟨q,a,h q a,by rw[r_,o_ a]; exact e⟩
 by_cases c:m.T.x i∈l
 ·rw[d_ (this.2 c),d_ c]
 rw[b_ (fun h=>c (this.1 h)),b_ c]
def tH(m:dU)(f:(Nat->Int)->(Nat->Int) × Int)(l:List Int):Nat->Value:=fun q => .agg (Fx.aA 54 (Fx.rv .i64 (f (EA m (l.getD q 0))).1))
theorem Iy{m:dU}{f:(Nat->Int)->(Nat->Int) × Int}{l:List Int}{w:World}{b i:Nat}{r:Nat->Int}(h:Fx.Mp w b (i+1) (Fx.aN (fun q=>l.getD q 0) i (l.getD i 0)) (Fx.aN (tH m f l) i (.agg (Fx.aA 54 (Fx.rv .i64 r)))))(e:r=(f (EA m (l.getD i 0))).1):Fx.Mp w b (i+1) (fun q=>l.getD q 0) (tH m f l):=h.vI fun q a=>by
 unfold Fx.aN;by_cases c:q=i
 ·subst c; rw[d_ rfl,d_ rfl,e]; exact⟨rfl,rfl⟩
 ·rw[b_ c,b_ c]; exact⟨rfl,rfl⟩
end Rt
end Go.Proofs.YtahbiajdgealnaaGreatDoor
namespace Go.Proofs.YtahbiajdgealnaaGreatDoor
open Go.RowKit Rt
open Fx (bB fC fQ Lv sN Ln Ws Wl Rp Wr Sb Wk rV sR Rs Rn Rd Wb Wx Wo EF JL Bj Cg EB gX vB vw rv aA aP aZ aN ev Stp aW dD Mp aY iC jg aR iI jZ bD cells_one bE unseen jL dM bP bR bY bZ gJ gL pY iw)
theorem Wd(x:Nat->Int)(v:EvM)(a:Nat)(w:World)(F:1<=v.o/\v.o<=6)(b:aP w a 14 (bV v) 32) :
 Calls Tryz.prog 175 #[.agg (aA 54 (rv .i64 x)),(pt a)] w fun e C=>e = .returned (.tuple #[.agg (aA 54 (rv .i64 (bJ x v.o v.aU).1)),au (bJ x v.o v.aU).2])/\Below w.heap.size w C:=by
 refine Kent Tryz.func175 13 ?_;refine ay<|rE fun E Q i c A T => ?_;have⟨k,g⟩:=fF A.old b (Below.refl w.heap.size w);refine uW 54 (rv .i64 (fun _=>0)) fun q R j l B U => ?_;have⟨d,m,n⟩:=jr B.old k c g;have⟨M,N⟩:=vH j k.lt c.lt;refine av (au 0)<|aD<|ay<|Lv (.agg (aA 54 (rv .i64 x))) (fJ m.aI 0)<|av (pt a)<|Lv (au v.o) (aM d.aI 0)<|av (pf a 11)<|Lv (au v.aU) (aM d.aI 11)<|dQ (adV (x) v.o v.aU _ (by omega)) _ rfl ?_;intro S r;have⟨t,u,y,h⟩:=nO r d m l n;refine av (.agg (aA 54 (rv .i64 ((bJ (x) v.o v.aU).1))))<|av (au ((bJ (x) v.o v.aU).2))<|fq y 0 fun D z f V => ?_;have s:=aW z;have p:=f.below h h.size (by omega);refine av (au ((bJ (x) v.o v.aU).2)) (aD (Wr (⟨.tuple #[.agg (aA 54 (rv .i64 ((bJ (x) v.o v.aU).1))),au ((bJ (x) v.o v.aU).2)],iw Tryz.results175 ⟨_,rfl,aY s.aI (by kernel_rfl) (by kernel_rfl)⟩ (by exact rfl),?_⟩)));exact⟨rfl,p⟩
theorem Wh(x:Nat->Int)(v:EvM)(g:Nat->Int)(b c:Nat)(w:World)(L:1<=v.o/\v.o<=6)(d:aP w b 14 (bV v) 32)(f:aP w c 5 (jw g) 66) :
 Calls Tryz.prog 178 #[.agg (aA 54 (rv .i64 x)),(pt b),(pt c)] w fun e I=>e = .returned (.tuple #[.agg (aA 54 (rv .i64 (bK x v.o (g 3)).1)),au (bK x v.o (g 3)).2])/\Below w.heap.size w I:=by
 refine Kent Tryz.func178 14 ?_;refine ay<|rE fun K w1 k h G z1 => ?_;have⟨m,n,i⟩:=jr G.old d f (Below.refl w.heap.size w);have⟨T,U⟩:=vH k d.lt f.lt;refine uW 54 (rv .i64 (fun _=>0)) fun y w2 l p H z2 => ?_;have⟨q,r,s,t⟩:=nO H.old m n h i;have⟨V,W,X⟩:=Ed l m.lt n.lt h.lt;refine av (au 0)<|aD<|ay<|Lv (.agg (aA 54 (rv .i64 x))) (fJ s.aI 0)<|av (pt b)<|Lv (au v.o) (aM q.aI 0)<|av (pf c 3)<|Lv (au (g 3)) (aM r.aI 3)<|dQ (adW (x) v.o (g 3) _ (by omega)) _ rfl ?_;intro w3 z;have⟨E,F,A,B,j⟩:=tQ z q r s p t;refine av (.agg (aA 54 (rv .i64 ((bK (x) v.o (g 3)).1))))<|av (au ((bK (x) v.o (g 3)).2))<|fq B 0 fun J C a z3 => ?_;have D:=aW C;have u:=a.below j j.size (by omega);refine av (au ((bK (x) v.o (g 3)).2)) (aD (Wr (⟨.tuple #[.agg (aA 54 (rv .i64 ((bK (x) v.o (g 3)).1))),au ((bK (x) v.o (g 3)).2)],iw Tryz.results178 ⟨_,rfl,aY D.aI (by kernel_rfl) (by kernel_rfl)⟩ (by exact rfl),?_⟩)));exact⟨rfl,u⟩
theorem LJ(m:dU)(j B:Nat)(w:World)(h:mh w B j m)(o:(Nat->Int)->(Nat->Int) × Int)(l:List Int)(s:Nat)(hgM:m.rb≠s/\m.mb≠s/\m.pb≠s/\m.gb≠s/\m.ab≠s)(hlh : ∀ k,k∈l->m.T.has k=true)(I:Mp w s l.length (fun q=>l.getD q 0) (tH m o l))(z:Nat)(A:Nat)(H:aP w z 1 (fun _ => .map (some s)) 101)(Z:aP w A 1 (fun _=>(pt j)) 37) :
 Calls Tryz.prog 187 #[(pt z),(pt A)] w fun e w'=>e = .returned (.tuple #[])/\mh w' B j (qO m o l)/\jZ (F6 m j) w w':=by
 have hC:=h.c;have hT:=h.t;have hP:=h.p;have hR:=h.r;have hG:=h.g;have hA:=h.a;have b:=h.ne;have lT:=h.t.lt;have lP:=h.p.lt;have lR:=h.r.lt;have lG:=h.g.lt;have lA:=h.a.lt;have lg8:=H.lt;have Ye:=Z.lt;have lF:=I.lt;obtain⟨hg1,hg2,hg3,hg4,hg5⟩:=hgM;refine Kent Tryz.func187 17 ?_;refine ay<|Lv (.map (some s)) (aM H.aI 0)<|Fx.L.range (by rfl) rfl rfl rfl I Tryz.underlying101 fun F w1 lN m1 s1 z1 => ?_;have⟨m2,m3,m4,m5,m6,m7,m8,m9,m10⟩:=Br s1.old hC hT hP hR hG hA I H Z;have b1:=(vw (F6 m j) w).then s1 (.inr (vw (F6 m j) w).size);have tN:w.heap.size<=F:=by rw[lN]; exact(vw (F6 m j) w).size
 have uM:=m1.lt;refine aD<|Wb ?_;have m11:Mp w1 m.rb m.T.n m.T.x (xI (zh m o l (fun _=>false))):=by rw[Ob]; exact m5
 refine EF (fun kE f v => ∃ S:Nat->Bool,∃ K:Nat,K=unseen S l.length/\K=kE/\f 0=(pt z)/\f 1=(pt A)/\f 5=(pt F)/\aP v j 29 (vY m) 106/\sP v B m.tp m.mb m.T/\Mp v m.pb m.T.n m.T.x (Ev m.T)/\iC v m.gb m.gn (fun i=>m.g i 0) (fun i=>m.g i 1) (uR m.g)/\iC v m.ab m.an m.ao m.ar Ew/\Mp v s l.length (fun q=>l.getD q 0) (tH m o l)/\aP v z 1 (fun _ => .map (some s)) 101/\aP v A 1 (fun _=>(pt j)) 37/\Mp v m.rb m.T.n m.T.x (xI (zh m o l S))/\Fx.It v F s l.length S/\jZ (F6 m j) w v) (unseen (fun _=>false) l.length) ⟨(fun _=>false),(unseen (fun _=>false) l.length),rfl,rfl,(by rfl),(by rfl),(by rfl),m2,m3,m4,m6,m7,m8,m9,m10,m11,m1,b1⟩ ?_;rintro kE f1 w2 ⟨S,K,hkk,hkE,W,X,G,m12,m13,m14,m15,m16,m17,m18,m19,m20,M,Q⟩;refine ay<|Fx.L.next (by rfl) rfl rfl G m17 M (fun sO => ?_)<|fun d w3 C hS1 m22 mc1 s2 z2 => ?_
 ·skip
  refine av aF (aD (Ws (aK (Wx (bY (gJ (bZ (⟨.tuple #[],iI Tryz.results187,?_⟩))))))));have m23:Mp w2 m.rb m.T.n m.T.x (xI (qO m o l).R):=by rw[<- V9 sO]; exact m20
  exact⟨rfl,{ c:=m12,t:=m13,p:=m14,r:=m23,g:=m15,a:=m16,ne:=⟨b.mp,b.mr,b.mg,b.ma,b.pr,b.pg,b.pa,b.rg,b.ra,b.ga⟩,lB:=h.lB,pB:=h.pB,rB:=h.rB,gB:=h.gB,aB:=h.aB },Q⟩
 skip
 have y:=M.Cj s2;have m24:=m12.dW y;have nP:=m13.dW y (by omega);have oG:=m14.dW y (by omega);have nY:=m15.dW y (by omega);have nZ:=m16.dW y (by omega);have N:=m17.dW y (M.rb.symm);have pG:=m18.dW y;have nA:=m19.dW y;have m32:=m20.dW y (by omega);have D:=Q.then s2 (.inr tN);refine av aG<|aD<|Ws<|aL<|Wk<|sN<|Wb<|ay<|Lv (.tuple #[aC (l.getD d 0),.agg (aA 54 (rv .i64 ((o (EA m (l.getD d 0))).1)))]) (Fx.OU (key:=fun q=>l.getD q 0) (val:=tH m o l) (i:=d) rfl G N mc1 C)<|av (aC (l.getD d 0))<|av (.agg (aA 54 (rv .i64 ((o (EA m (l.getD d 0))).1))))<|uW 54 (rv .i64 (fun _=>0)) fun g2 w4 V O s3 z3 => ?_;have⟨oO,qh,qH,nS,rU,pV,sJ,nJ,mJ,nC,sK⟩:=Fq s3.old m24 nP oG nY nZ N pG nA m32 mc1 m22;have b4:=D.then s3 (.inr D.size);have qW:=iT V D.size;have⟨apq,apr,aps,apt,apu,apv,apw,apx⟩:=Ya V m24.lt oG.lt nY.lt nZ.lt N.lt pG.lt nA.lt m32.lt;have zY:=O.lt;refine av (aC (l.getD d 0))<|fq O 0 fun P rJ s4 z4 => ?_;have og:aP P g2 54 (rv .i64 ((o (EA m (l.getD d 0))).1)) 59:=aW rJ;have gD:=gX s4 O.ty;have⟨qV,wT,tV,rW,wu,uX,uN,vL,wz,uw,uy⟩:=aax gD oO qh qH nS rU pV sJ nJ mJ nC sK;have U:=b4.then s4 (.inr qW);refine aD ?_;obtain⟨jz,J,E⟩:=gT (hlh _ (vK C rfl));have ejx:EA m (l.getD d 0)=m.R jz:=by unfold EA dU.idx; rw[mZ h.t.inv.inj J E]
 refine kJ [4,0,1,2,3,5,6] [4,0,0,4,0,4,3] [(6,0,[0]),(6,3,[3]),(6,5,[5])] fun rG Y iJ => ?_;have s5:Stp P.heap.size P rG:=Sb Y;have⟨uz,wU,qI,vM,oh,tX,m64,wV,wB,wW,wX,sM⟩:=OP Y qV wT tV rW wu uX uN vL wz uw uy og;have b6:=U.then s5 (.inr U.size);refine bf (aC (l.getD d 0))<|Rs (pt j) (aM wV.aI 0 (ha:=X)) ?_;refine bf (pt j)<|bf (pf j 20)<|Rs (.map (some m.rb)) (aM uz.aI 20) ?_;refine Rs (.agg (aA 54 (rv .i64 ((o (EA m (l.getD d 0))).1)))) (fJ sM.aI 0) ?_;refine gQ<|Fx.L.abT (by rfl) rfl rfl rfl rfl rfl wB Tryz.underlying101 Tryz.underlying28 J E fun w6 uY s6 z5 => ?_;have u:=wB.Cj s6;have uD:=uz.dW u;have wC:=wU.dW u (b.mr);have uZ:=qI.dW u (b.pr);have yx:=vM.dW u (Ne.symm b.rg);have wD:=oh.dW u (Ne.symm b.ra);have yA:=tX.dW u (by omega);have yB:=m64.dW u;have yC:=wV.dW u;have wY:=wW.dW u (by omega) (by omega);have wE:=wX.dW u (by omega) (by omega);have vg:=sM.dW u;have b7:=b6.then s6 (.inl (.inr (.inr (.inr (.inl rfl)))));have vN:Mp w6 m.rb m.T.n m.T.x (xI (zh m o l (aN S d true))):=by have q9:=ET _ _ _ _ uY; rw[ejx]at q9; exact q9.vI fun i hi=>⟨rfl,by unfold xI; rw[RD h.t.inv C J E i hi]⟩
 refine Ln (Rn (bR (gL ⟨unseen (aN S d true) l.length,(by have W:=Fx.pE hS1 l.length C; omega),(aN S d true),(unseen (aN S d true) l.length),rfl,rfl,W,X,G,uD,wC,uZ,yx,wD,yA,yB,yC,vN,wE,b7⟩ (by decide))))
theorem Wi(m:dU)(j B:Nat)(w:World)(h:mh w B j m)(C:Int)(v:EvM)(ho:1<=v.o/\v.o<=6)(E:Nat)(u:aP w E 14 (bV v) 32) :
 Calls Tryz.prog 174 #[(pt j),aC C,.func (.func 175) #[] #[(pt E)]] w fun e w'=>Sd w B j m (qO m (fun x=>bJ x v.o v.aU) (m.T.path C)) (dA m (fun x=>bJ x v.o v.aU) (m.T.path C)) e w':=by
 have hC:=h.c;have hT:=h.t;have hP:=h.p;have hR:=h.r;have hG:=h.g;have hA:=h.a;have lC:=h.c.lt;have lT:=h.t.lt;have lP:=h.p.lt;have lR:=h.r.lt;have lG:=h.g.lt;have lA:=h.a.lt;have lge:=u.lt;refine Kent Tryz.func174 44 ?_;refine ay<|yM (pt j) fun A w1 lN Y s1 z1 => ?_;have⟨m2,m3,m4,m5,m6,m7,m8,b1⟩:=kW s1.old hC hT hP hR hG hA u (Below.refl w.heap.size w);have tN:=iy lN;have⟨nI,za,xX,BQ,Am,KW⟩:=Je lN hC.lt hP.lt hR.lt hG.lt hA.lt u.lt;have uM:=Y.lt;refine av (.nilFunc)<|av (au 0)<|aD<|ay<|Fx.L.Ko (by rfl) rfl rfl fun d w2 yD m9 s2 z2 => ?_;have⟨m10,m11,m12,m13,m14,m15,m16,m17,b2⟩:=Br s2.old m2 m3 m4 m5 m6 m7 m8 Y b1;have qW:=iT yD b1.size;have⟨Gc,CX,ze,CY,AB,Nc,Ut⟩:=M5 yD m2.lt m4.lt m5.lt m6.lt m7.lt m8.lt Y.lt;have zY:=m9.lt;refine uW 1 (fun _ => .map none) fun y w3 zF Z s3 z3 => ?_;have⟨m19,m20,m21,m22,m23,m24,nP,oG,nY,b3⟩:=vG s3.old m10 m11 m12 m13 m14 m15 m16 m17 m9 b2;have Aj:=iT zF b2.size;have⟨aey,Wj,aez,Wm,Wn,NV,aeA,NW⟩:=Ya zF m10.lt m12.lt m13.lt m14.lt m15.lt m16.lt m17.lt m9.lt;have J6:=Z.lt;refine jh Z 0 (.map (some d)) fun O nZ s4 z4 => ?_;have oH:aP O y 1 (fun _ => .map (some d)) 101:=dM nZ;have gD:=gX s4 Z.ty;have⟨pG,nA,m32,qg,oO,qh,qH,nS,rU⟩:=abS gD m19 m20 m21 m22 m23 m24 nP oG nY;have b4:=s4.below b3 b3.size (by omega);refine aD<|Ws<|ay<|Lv (pt j) (aM nS.aI 0)<|av (pt j)<|av (pf j 18)<|Lv (pt m.tp) (aM pG.aI 18)<|av (aC C)<|lU (Nf C nA) ?_;rintro e9 w5 ⟨pa1,D,u,pV,hb1⟩;refine⟨_,u,?_⟩;clear u;have⟨sJ,nJ,mJ,nC,sK,rJ,og,qV,wT,tV,b5⟩:=Fq hb1 pG nA m32 qg oO qh qH nS rU oH b4;obtain⟨l,H⟩ : ∃ q,q=dN.path m.T C:=⟨_,rfl⟩;rw[<- H]at pV ⊢;have hl4:l.length<=4:=by rw[H]; exact dN.zN
 refine av (au l.length)<|av (au 0)<|aD<|Wb ?_;have rW:Mp w5 d 0 (fun q=>l.getD q 0) (tH m (fun x=>bJ x v.o v.aU) l):=wT.vI fun i hi=>M_ hi (z_ _);refine Wo (fun f k => ∃ i:Nat,i<=l.length/\jR (fun x=>bJ x v.o v.aU) (fun i=>EA m (l.getD i 0)) i=0/\f 2 = .func (.func 175) #[] #[(pt E)]/\f 3=(pt A)/\f 8=(pt y)/\f 19 = .slice pa1 (l.length) (D)/\f 20=au (l.length:Int)/\f 21=au (i:Int)/\aP k j 29 (vY m) 106/\sP k B m.tp m.mb m.T/\Mp k m.pb m.T.n m.T.x (Ev m.T)/\Mp k m.rb m.T.n m.T.x (xI m.R)/\iC k m.gb m.gn (fun i=>m.g i 0) (fun i=>m.g i 1) (uR m.g)/\iC k m.ab m.an m.ao m.ar Ew/\aP k E 14 (bV v) 32/\aP k A 1 (fun _=>(pt j)) 37/\aP k y 1 (fun _ => .map (some d)) 101/\Fx.Own k O.heap.size 28 1 (.slice pa1 (l.length) (D)) l.length (yw l)/\Mp k d i (fun q=>l.getD q 0) (tH m (fun x=>bJ x v.o v.aU) l)/\Below w.heap.size w k) (fun f _=>((l.length:Int)-intOf (f 21)).toNat) ⟨0,(by omega),rfl,(by rfl),(by rfl),(by rfl),(by rfl),Fx.ic,Fx.ic,sJ,nJ,mJ,nC,sK,rJ,og,qV,tV,pV,rW,b5⟩ ?_;rintro f1 w6 ⟨i,hi,K,h1,U,V,h4,W,G,wu,uX,uN,vL,wz,uw,uy,N,aa,qI,ac,P⟩;refine ay ?_;by_cases c22:(i:Int)<(l.length:Int)
 ·refine Lv aG (gN c22 (hx:=G) (hy:=W))<|aD<|Ws<|aL<|Wk<|sN<|Ws<|Wb<|ay ?_;obtain⟨DL,S⟩:=qI.addr (by omega);have oh:Fx.Own w6 O.heap.size 28 1 (bO DL l.length D) l.length (yw l):=qI.eH (L_ (fun q=>Value.slice q l.length D) S);refine Lv (pf DL i) (dh 1 (hx:=(h4.trans (L_ (fun q=>Value.slice q (l.length) (D)) S))) (hi:=G))<|Lv (aC (l.getD i 0)) (aM oh.aI i)<|av (aC (l.getD i 0))<|aD<|Ws ?_;obtain⟨b,hjz,ejz⟩:=gT (dN.oC h.t.inv H _ (vK (show i<l.length by omega) rfl));have J:EA m (l.getD i 0)=m.R b:=by unfold EA dU.idx; rw[mZ h.t.inv.inj hjz ejz]
  refine Wl<|aT h1<|Lv (pt j) (aM N.aI 0 (ha:=U))<|av (pt j)<|av (pf j 20)<|Lv (.map (some m.rb)) (aM wu.aI 20)<|av (aC (l.getD i 0))<|Lv (.agg (aA 54 (rv .i64 (m.R b)))) (Fx.wO (z := .agg (aA 54 (rv .i64 (fun _=>0)))) rfl rfl rfl vL Tryz.underlying101 Tryz.underlying28 (by kernel_rfl) hjz ejz rfl)<|Bj (by rfl) (Fx.Fe (args := [.agg (aA 54 (rv .i64 (m.R b)))]) rfl rfl rfl (all := #[.agg (aA 54 (rv .i64 (m.R b))),(pt E)]) rfl Tryz.func175 rfl rfl) rfl<|(Wd (m.R b) v E _ ho uy).mono ?_;rintro e w7 ⟨u,F⟩;refine⟨.tuple #[.agg (aA 54 (rv .i64 ((bJ (m.R b) v.o v.aU).1))),au ((bJ (m.R b) v.o v.aU).2)],by rw[u],?_⟩;clear u;have⟨tX,m64,wV,wB,wW,wX,sM,uY,uD,wC,uZ,b7⟩:=OP F wu uX uN vL wz uw uy N aa ac oh P;refine av (.tuple #[.agg (aA 54 (rv .i64 ((bJ (m.R b) v.o v.aU).1))),au ((bJ (m.R b) v.o v.aU).2)])<|av (.agg (aA 54 (rv .i64 ((bJ (m.R b) v.o v.aU).1))))<|av (au ((bJ (m.R b) v.o v.aU).2))<|uW 54 (rv .i64 (fun _=>0)) fun g4 w8 GQ ad s7 z5 => ?_;have⟨wD,yA,yB,yC,wY,wE,vg,vN,yR,xV,AA,b8⟩:=OP s7.old tX m64 wV wB wW wX sM uY uD wC uZ b7;have Rc:=iT GQ b7.size;have⟨aed,aee,aef,aeg,apz,apA,aeB,apB,aeC,aeD⟩:=aay GQ tX.lt wV.lt wB.lt wW.lt wX.lt sM.lt uY.lt uD.lt wC.lt uZ.lt;have Rf:=ad.lt;refine fq ad 0 fun w9 zW s8 z6 => ?_;have zX:aP w9 g4 54 (rv .i64 ((bJ (m.R b) v.o v.aU).1)) 59:=aW zW;have jv:=gX s8 ad.ty;have⟨yS,zD,Al,Dz,Cc,Ao,Bg,yE,DJ,Ce,DK⟩:=aax jv wD yA yB yC wY wE vg vN yR xV AA;have Q:=s8.below b8 b8.size (by omega);refine av (au ((bJ (m.R b) v.o v.aU).2))<|aD<|Ws<|ay<|av (au ((bJ (m.R b) v.o v.aU).2)) ?_;by_cases I:((bJ (m.R b) v.o v.aU).2)=0
  ·refine Lv aF (ko I)<|aD<|aK<|Wk<|sN ?_;have hnd:l.Nodup:=(by rw[H]; exact dN.Ba h.t.inv C);have hny : ∀ q,q<i->(fun q=>l.getD q 0) q≠l.getD i 0:=fun q hq e=>by have:=Da hnd (show q<l.length by omega) (show i<l.length by omega) e; omega
   refine Wl<|Lv (.map (some d)) (aM DJ.aI 0 (ha:=V))<|av (aC (l.getD i 0))<|Lv (.agg (aA 54 (rv .i64 ((bJ (m.R b) v.o v.aU).1)))) (fJ zX.aI 0)<|Fx.L.Qu (by rfl) rfl rfl rfl rfl rfl Ce Tryz.underlying101 Tryz.underlying28 hny fun sI Eo s9 z7 => ?_;have s:=Ce.Cj s9;have uO:=yS.dW s;have xB:=zD.dW s (by omega);have uP:=Al.dW s (by omega);have rM:=Dz.dW s (by omega);have oI:=Cc.dW s (by omega);have ou:=Ao.dW s (by omega);have pK:=Bg.dW s;have oJ:=yE.dW s;have ql:=DJ.dW s;have qM:=DK.dW s;have tZ:=zX.dW s;have b10:=s9.below Q Q.size (by omega);have qm:Mp sI d (i+1) (fun q=>l.getD q 0) (tH m (fun x=>bJ x v.o v.aU) l):=Iy Eo (by rw[J]);refine Ln<|bR<|sN<|Wl<|Lv (au ((i:Int)+1)) (eU (hx:=G))<|av (au ((i:Int)+1))<|Ln ?_;have sZ:Fx.Own sI O.heap.size 28 1 (.slice pa1 (l.length) (D)) l.length (yw l):=qM.eH (L_ (fun q=>Value.slice q l.length D) S.symm);refine gL ⟨i+1,(by omega),(Db K (by rw[J]; exact I)),h1,U,V,h4,(W.trans Fx.ic),Fx.ic,uO,xB,uP,rM,oI,ou,pK,oJ,ql,sZ,qm,b10⟩ ?_;show((l.length:Int)-intOf (au ((i:Int)+1))).toNat<_;simp only[G,intOf]; omega
  refine Lv aG (nN I)<|aD<|aL<|ay<|av (au ((bJ (m.R b) v.o v.aU).2))<|av (.nilFunc)<|av (au ((bJ (m.R b) v.o v.aU).2))<|aD<|Wr<|sR<|bP<|sR<|pY<|bP<|sR<|aJ (.tuple #[.nilFunc,au ((bJ (m.R b) v.o v.aU).2)]) ?_;have M:dA m (fun x=>bJ x v.o v.aU) l=(bJ (m.R b) v.o v.aU).2:=by unfold dA; rw[Bb K (by rw[J]; exact I) _ (by omega),J]
  exact⟨⟨.nilFunc,0,#[],by rw[M],rfl,fun e0=>M_ (M.symm.trans e0) (by first|decide|omega|assumption)⟩,Q⟩
 refine Lv aF (gP c22 (hx:=G) (hy:=W))<|aD<|Ws<|aK<|Wx<|bY<|gJ<|bZ<|sN<|ay<|Lv (.func (.func 187) #[] #[(pt y),(pt A)]) (Fx.nk (us := []) (vs := [(pt y),(pt A)]) rfl rfl (Fx.args2 V U))<|av (.func (.func 187) #[] #[(pt y),(pt A)])<|av (au 0)<|aD<|Wr<|aJ (.tuple #[.func (.func 187) #[] #[(pt y),(pt A)],au 0]) ?_;have hil:i=l.length:=by omega
 rw[hil]at ac K;have hgm:m.rb≠d/\m.mb≠d/\m.pb≠d/\m.gb≠d/\m.ab≠d:=⟨by omega,by omega,by omega,by omega,by omega⟩;have M:dA m (fun x=>bJ x v.o v.aU) l=0:=K;exact⟨⟨_,187,#[(pt y),(pt A)],by rw[M],rfl,fun _=>⟨rfl,⟨_,_,Tryz.func187,rfl,rfl⟩,fun w2 F=>(LJ m j B w2 ((h.up P).up F) (fun x=>bJ x v.o v.aU) l d hgm (dN.oC h.t.inv H) (ac.up F) _ _ (aa.cZ (Sb F) (u_ aa.lt)) (N.cZ (Sb F) (u_ N.lt))).mono fun _ _ X=>⟨X.1,X.2.1,X.2.2.mono fun _ hk => .inl hk⟩⟩⟩,P⟩
theorem Wp(m:dU)(j B:Nat)(w:World)(h:mh w B j m)(C:Int)(v:EvM)(g:Nat->Int)(ho:1<=v.o/\v.o<=6)(E F:Nat)(u:aP w E 14 (bV v) 32)(Z:aP w F 5 (jw g) 66) :
 Calls Tryz.prog 174 #[(pt j),aC C,.func (.func 178) #[] #[(pt E),(pt F)]] w fun e w'=>Sd w B j m (qO m (fun x=>bK x v.o (g 3)) (m.T.path C)) (dA m (fun x=>bK x v.o (g 3)) (m.T.path C)) e w':=by
 have hC:=h.c;have hT:=h.t;have hP:=h.p;have hR:=h.r;have hG:=h.g;have hA:=h.a;have lC:=h.c.lt;have lT:=h.t.lt;have lP:=h.p.lt;have lR:=h.r.lt;have lG:=h.g.lt;have lA:=h.a.lt;have lge:=u.lt;have lgg:=Z.lt;refine Kent Tryz.func174 44 ?_;refine ay<|yM (pt j) fun A w1 lN m1 s1 z1 => ?_;have⟨m2,m3,m4,m5,m6,m7,m8,m9,b1⟩:=Br s1.old hC hT hP hR hG hA u Z (Below.refl w.heap.size w);have tN:=iy lN;have⟨nI,za,xX,BQ,Am,KW,ahc⟩:=M5 lN hC.lt hP.lt hR.lt hG.lt hA.lt u.lt Z.lt;have uM:=m1.lt;refine av (.nilFunc)<|av (au 0)<|aD<|ay<|Fx.L.Ko (by rfl) rfl rfl fun d w2 yD m10 s2 z2 => ?_;have⟨m11,m12,m13,m14,m15,m16,m17,m18,m19,b2⟩:=vG s2.old m2 m3 m4 m5 m6 m7 m8 m9 m1 b1;have qW:=iT yD b1.size;have⟨F7,ze,CY,AB,Nc,Ut,aev,apC⟩:=Ya yD m2.lt m4.lt m5.lt m6.lt m7.lt m8.lt m9.lt m1.lt;have zY:=m10.lt;refine uW 1 (fun _ => .map none) fun y w3 zF m20 s3 z3 => ?_;have⟨m21,m22,m23,m24,nP,oG,nY,nZ,oH,pG,b3⟩:=Fq s3.old m11 m12 m13 m14 m15 m16 m17 m18 m19 m10 b2;have Aj:=iT zF b2.size;have⟨Wj,Wm,Wn,NV,aeA,NW,VI,VJ,VK⟩:=Yb zF m11.lt m13.lt m14.lt m15.lt m16.lt m17.lt m18.lt m19.lt m10.lt;have J6:=m20.lt;refine jh m20 0 (.map (some d)) fun P nA s4 z4 => ?_;have m32:aP P y 1 (fun _ => .map (some d)) 101:=dM nA;have gD:=gX s4 m20.ty;have⟨qg,oO,qh,qH,nS,rU,pV,sJ,nJ,mJ⟩:=OQ gD m21 m22 m23 m24 nP oG nY nZ oH pG;have b4:=s4.below b3 b3.size (by omega);refine aD<|Ws<|ay<|Lv (pt j) (aM nJ.aI 0)<|av (pt j)<|av (pf j 18)<|Lv (pt m.tp) (aM qg.aI 18)<|av (aC C)<|lU (Nf C oO) ?_;rintro e9 w5 ⟨pa1,D,u,nC,hb1⟩;refine⟨_,u,?_⟩;clear u;have⟨sK,rJ,og,qV,wT,tV,rW,wu,uX,uN,vL,b5⟩:=OP hb1 qg oO qh qH nS rU pV sJ nJ mJ m32 b4;obtain⟨l,I⟩ : ∃ q,q=dN.path m.T C:=⟨_,rfl⟩;rw[<- I]at nC ⊢;have hl4:l.length<=4:=by rw[I]; exact dN.zN
 refine av (au l.length)<|av (au 0)<|aD<|Wb ?_;have wz:Mp w5 d 0 (fun q=>l.getD q 0) (tH m (fun x=>bK x v.o (g 3)) l):=uN.vI fun i hi=>M_ hi (z_ _);refine Wo (fun f k => ∃ i:Nat,i<=l.length/\jR (fun x=>bK x v.o (g 3)) (fun i=>EA m (l.getD i 0)) i=0/\f 2 = .func (.func 178) #[] #[(pt E),(pt F)]/\f 3=(pt A)/\f 8=(pt y)/\f 19 = .slice pa1 (l.length) (D)/\f 20=au (l.length:Int)/\f 21=au (i:Int)/\aP k j 29 (vY m) 106/\sP k B m.tp m.mb m.T/\Mp k m.pb m.T.n m.T.x (Ev m.T)/\Mp k m.rb m.T.n m.T.x (xI m.R)/\iC k m.gb m.gn (fun i=>m.g i 0) (fun i=>m.g i 1) (uR m.g)/\iC k m.ab m.an m.ao m.ar Ew/\aP k E 14 (bV v) 32/\aP k F 5 (jw g) 66/\aP k A 1 (fun _=>(pt j)) 37/\aP k y 1 (fun _ => .map (some d)) 101/\Fx.Own k P.heap.size 28 1 (.slice pa1 (l.length) (D)) l.length (yw l)/\Mp k d i (fun q=>l.getD q 0) (tH m (fun x=>bK x v.o (g 3)) l)/\Below w.heap.size w k) (fun f _=>((l.length:Int)-intOf (f 21)).toNat) ⟨0,(by omega),rfl,(by rfl),(by rfl),(by rfl),(by rfl),Fx.ic,Fx.ic,sK,rJ,og,qV,wT,tV,rW,wu,uX,vL,nC,wz,b5⟩ ?_;rintro f1 w6 ⟨i,hi,M,h1,V,W,h4,X,H,uw,uy,uz,wU,qI,vM,oh,tX,O,wV,wB,wW,Q⟩;refine ay ?_;by_cases c22:(i:Int)<(l.length:Int)
 ·refine Lv aG (gN c22 (hx:=H) (hy:=X))<|aD<|Ws<|aL<|Wk<|sN<|Ws<|Wb<|ay ?_;obtain⟨DL,U⟩:=wB.addr (by omega);have wX:Fx.Own w6 P.heap.size 28 1 (bO DL l.length D) l.length (yw l):=wB.eH (L_ (fun q=>Value.slice q l.length D) U);refine Lv (pf DL i) (dh 1 (hx:=(h4.trans (L_ (fun q=>Value.slice q (l.length) (D)) U))) (hi:=H))<|Lv (aC (l.getD i 0)) (aM wX.aI i)<|av (aC (l.getD i 0))<|aD<|Ws ?_;obtain⟨b,hjz,ejz⟩:=gT (dN.oC h.t.inv I _ (vK (show i<l.length by omega) rfl));have K:EA m (l.getD i 0)=m.R b:=by unfold EA dU.idx; rw[mZ h.t.inv.inj hjz ejz]
  refine Wl<|aT h1<|Lv (pt j) (aM O.aI 0 (ha:=V))<|av (pt j)<|av (pf j 20)<|Lv (.map (some m.rb)) (aM uw.aI 20)<|av (aC (l.getD i 0))<|Lv (.agg (aA 54 (rv .i64 (m.R b)))) (Fx.wO (z := .agg (aA 54 (rv .i64 (fun _=>0)))) rfl rfl rfl wU Tryz.underlying101 Tryz.underlying28 (by kernel_rfl) hjz ejz rfl)<|Bj (by rfl) (Fx.Fe (args := [.agg (aA 54 (rv .i64 (m.R b)))]) rfl rfl rfl (all := #[.agg (aA 54 (rv .i64 (m.R b))),(pt E),(pt F)]) rfl Tryz.func178 rfl rfl) rfl<|(Wh (m.R b) v g E F _ ho oh tX).mono ?_;rintro e w7 ⟨u,G⟩;refine⟨.tuple #[.agg (aA 54 (rv .i64 ((bK (m.R b) v.o (g 3)).1))),au ((bK (m.R b) v.o (g 3)).2)],by rw[u],?_⟩;clear u;have⟨sM,uY,uD,wC,uZ,yx,wD,yA,yB,yC,wY,wE,b7⟩:=aaw G uw uy uz wU qI vM oh tX O wV wW wX Q;refine av (.tuple #[.agg (aA 54 (rv .i64 ((bK (m.R b) v.o (g 3)).1))),au ((bK (m.R b) v.o (g 3)).2)])<|av (.agg (aA 54 (rv .i64 ((bK (m.R b) v.o (g 3)).1))))<|av (au ((bK (m.R b) v.o (g 3)).2))<|uW 54 (rv .i64 (fun _=>0)) fun g4 w8 GQ vg s7 z5 => ?_;have⟨vN,yR,xV,AA,zW,zX,yS,zD,Al,Dz,Cc,Ao,b8⟩:=aaw s7.old sM uY uD wC uZ yx wD yA yB yC wY wE b7;have Rc:=iT GQ b7.size;have⟨aeB,aeC,aeD,apD,apE,apF,apG,apH,apI,apJ,apK⟩:=agj GQ sM.lt uD.lt wC.lt uZ.lt yx.lt wD.lt yA.lt yB.lt yC.lt wY.lt wE.lt;have Rf:=vg.lt;refine fq vg 0 fun w9 Bg s8 z6 => ?_;have yE:aP w9 g4 54 (rv .i64 ((bK (m.R b) v.o (g 3)).1)) 59:=aW Bg;have jv:=gX s8 vg.ty;have⟨DJ,Ce,DK,Eo,uO,xB,uP,rM,oI,ou,pK,oJ⟩:=agi jv vN yR xV AA zW zX yS zD Al Dz Cc Ao;have S:=s8.below b8 b8.size (by omega);refine av (au ((bK (m.R b) v.o (g 3)).2))<|aD<|Ws<|ay<|av (au ((bK (m.R b) v.o (g 3)).2)) ?_;by_cases J:((bK (m.R b) v.o (g 3)).2)=0
  ·refine Lv aF (ko J)<|aD<|aK<|Wk<|sN ?_;have hnd:l.Nodup:=(by rw[I]; exact dN.Ba h.t.inv C);have hny : ∀ q,q<i->(fun q=>l.getD q 0) q≠l.getD i 0:=fun q hq e=>by have:=Da hnd (show q<l.length by omega) (show i<l.length by omega) e; omega
   refine Wl<|Lv (.map (some d)) (aM ou.aI 0 (ha:=W))<|av (aC (l.getD i 0))<|Lv (.agg (aA 54 (rv .i64 ((bK (m.R b) v.o (g 3)).1)))) (fJ yE.aI 0)<|Fx.L.Qu (by rfl) rfl rfl rfl rfl rfl pK Tryz.underlying101 Tryz.underlying28 hny fun sI ql s9 z7 => ?_;have s:=pK.Cj s9;have qM:=DJ.dW s;have tZ:=Ce.dW s (by omega);have qm:=DK.dW s (by omega);have sZ:=Eo.dW s (by omega);have xZ:=uO.dW s (by omega);have uf:=xB.dW s (by omega);have yc:=uP.dW s;have AL:=rM.dW s;have vR:=oI.dW s;have tu:=ou.dW s;have pO:=oJ.dW s;have xC:=yE.dW s;have b10:=s9.below S S.size (by omega);have xD:Mp sI d (i+1) (fun q=>l.getD q 0) (tH m (fun x=>bK x v.o (g 3)) l):=Iy ql (by rw[K]);refine Ln<|bR<|sN<|Wl<|Lv (au ((i:Int)+1)) (eU (hx:=H))<|av (au ((i:Int)+1))<|Ln ?_;have tC:Fx.Own sI P.heap.size 28 1 (.slice pa1 (l.length) (D)) l.length (yw l):=pO.eH (L_ (fun q=>Value.slice q l.length D) U.symm);refine gL ⟨i+1,(by omega),(Db M (by rw[K]; exact J)),h1,V,W,h4,(X.trans Fx.ic),Fx.ic,qM,tZ,qm,sZ,xZ,uf,yc,AL,vR,tu,tC,xD,b10⟩ ?_;show((l.length:Int)-intOf (au ((i:Int)+1))).toNat<_;simp only[H,intOf]; omega
  refine Lv aG (nN J)<|aD<|aL<|ay<|av (au ((bK (m.R b) v.o (g 3)).2))<|av (.nilFunc)<|av (au ((bK (m.R b) v.o (g 3)).2))<|aD<|Wr<|sR<|bP<|sR<|pY<|bP<|sR<|aJ (.tuple #[.nilFunc,au ((bK (m.R b) v.o (g 3)).2)]) ?_;have N:dA m (fun x=>bK x v.o (g 3)) l=(bK (m.R b) v.o (g 3)).2:=by unfold dA; rw[Bb M (by rw[K]; exact J) _ (by omega),K]
  exact⟨⟨.nilFunc,0,#[],by rw[N],rfl,fun e0=>M_ (N.symm.trans e0) (by first|decide|omega|assumption)⟩,S⟩
 refine Lv aF (gP c22 (hx:=H) (hy:=X))<|aD<|Ws<|aK<|Wx<|bY<|gJ<|bZ<|sN<|ay<|Lv (.func (.func 187) #[] #[(pt y),(pt A)]) (Fx.nk (us := []) (vs := [(pt y),(pt A)]) rfl rfl (Fx.args2 W V))<|av (.func (.func 187) #[] #[(pt y),(pt A)])<|av (au 0)<|aD<|Wr<|aJ (.tuple #[.func (.func 187) #[] #[(pt y),(pt A)],au 0]) ?_;have hil:i=l.length:=by omega
 rw[hil]at wW M;have hgm:m.rb≠d/\m.mb≠d/\m.pb≠d/\m.gb≠d/\m.ab≠d:=⟨by omega,by omega,by omega,by omega,by omega⟩;have N:dA m (fun x=>bK x v.o (g 3)) l=0:=M;exact⟨⟨_,187,#[(pt y),(pt A)],by rw[N],rfl,fun _=>⟨rfl,⟨_,_,Tryz.func187,rfl,rfl⟩,fun w2 G=>(LJ m j B w2 ((h.up Q).up G) (fun x=>bK x v.o (g 3)) l d hgm (dN.oC h.t.inv I) (wW.up G) _ _ (wV.cZ (Sb G) (u_ wV.lt)) (O.cZ (Sb G) (u_ O.lt))).mono fun _ _ Y=>⟨Y.1,Y.2.1,Y.2.2.mono fun _ hk => .inl hk⟩⟩⟩,Q⟩
section
namespace Rt
def BS(k1 k2:Nat->Int):Nat->Int->Int->Bool
 | 0,_,_=>false
 | n+1,a,b=>(decide (k1 n=a)&&decide (k2 n=b)) || BS k1 k2 n a b
def xK(k1 k2:Nat->Int):Nat->Int->Int->Nat
 | 0,_,_=>0
 | n+1,a,b=>if k1 n=a/\k2 n=b then n else xK k1 k2 n a b
section
variable {k1 k2:Nat->Int} {a b:Int}
theorem lM : ∀ {n:Nat},BS k1 k2 n a b=true <-> ∃ j,j<n/\k1 j=a/\k2 j=b
 | 0=>⟨fun h=>(nomatch h),fun⟨j,h,_⟩=>M_ h (z_ _)⟩
 | n+1=>by
   unfold BS;rw[Bool.or_eq_true,T_,Q_,Q_,lM];constructor
   ·rintro (⟨f,c⟩|⟨j,f,c,d⟩)
    ·exact⟨n,by omega,f,c⟩
    ·exact⟨j,by omega,c,d⟩
   ·rintro ⟨j,f,c,d⟩;by_cases e:j=n
    ·subst e; exact .inl ⟨c,d⟩
    ·exact .inr ⟨j,by omega,c,d⟩
theorem tJ{n j:Nat}(e:j<n)(c:k1 j=a)(d:k2 j=b):BS k1 k2 n a b=true:=lM.2 ⟨j,e,c,d⟩
theorem pX{n:Nat}(h : ∀ i,i<n -> ¬ (k1 i=a/\k2 i=b)):BS k1 k2 n a b=false:=by
 cases e:BS k1 k2 n a b with
 | false=>rfl
 | true=>obtain⟨j,f,c,d⟩:=lM.1 e; exact M_ ⟨c,d⟩ (h j f)
theorem zO{j:Nat} : ∀ {n:Nat},(∀ p q,p<n->q<n->k1 p=k1 q->k2 p=k2 q->p=q)->j<n->k1 j=a->k2 j=b->xK k1 k2 n a b=j
 | 0,_,h,_,_=>M_ h (z_ _)
 | n+1,hi,hj,e1,e2=>by
   unfold xK;by_cases c:k1 n=a/\k2 n=b
   ·rw[d_ c]; exact hi n j (by omega) hj (c.1.trans e1.symm) (c.2.trans e2.symm)
   ·rw[b_ c];refine zO (fun p q d f=>hi p q (by omega) (by omega)) ?_ e1 e2;by_cases e:j=n
    ·subst e; exact M_ ⟨e1,e2⟩ c
    ·omega
end
theorem EW{v:EvM}(h:bS v=true)(a:gU v):Fx.Ef v.o v.req/\Fx.Ef v.o v.of:=by
 have d:=oz h;have b:=a.req;have c:=a.of;unfold jO at b c;exact⟨⟨by omega,by omega⟩,⟨by omega,by omega⟩⟩
theorem Zk{w:World}{b k n:Nat}{g:Nat->Nat->Int}{o r:Int}{y:Nat->Value}(h:iC w b k (aN (fun i=>g i 0) n o) (aN (fun i=>g i 1) n r) (aN (uR g) n (.agg (aA 5 y))))(x:Nat->Int)(e0:x 0=o)(a:x 1=r)(d : ∀ j,j<5->y j=jw x j) :
 iC w b k (fun i=>aN g n x i 0) (fun i=>aN g n x i 1) (uR (aN g n x)):=h.vI fun i _=>by
 unfold aN uR;by_cases c:i=n
 ·subst c;refine⟨?_,?_,?_⟩
  ·show(if i=i then o else g i 0)=(if i=i then x else g i) 0;rw[d_ rfl,d_ rfl,e0]
  ·show(if i=i then r else g i 1)=(if i=i then x else g i) 1;rw[d_ rfl,d_ rfl,a]
  ·show(if i=i then Value.agg (aA 5 y)else _)=Value.agg (aA 5 (jw (if i=i then x else g i)));rw[d_ rfl,d_ rfl,Fx.fB d]
 ·refine⟨?_,?_,?_⟩
  ·show(if i=n then o else g i 0)=(if i=n then x else g i) 0;rw[b_ c,b_ c]
  ·show(if i=n then r else g i 1)=(if i=n then x else g i) 1;rw[b_ c,b_ c]
  ·show(if i=n then Value.agg (aA 5 y)else Value.agg (aA 5 (jw (g i))))=Value.agg (aA 5 (jw (if i=n then x else g i)));rw[b_ c,b_ c]
theorem Zl{w:World}{b n j:Nat}{g:Nat->Nat->Int}{x:Nat->Int}(h:iC w b n (fun i=>g i 0) (fun i=>g i 1) (aN (uR g) j (.agg (aA 5 (jw x)))))(e0:x 0=g j 0)(a:x 1=g j 1) :
 iC w b n (fun i=>aN g j x i 0) (fun i=>aN g j x i 1) (uR (aN g j x)):=h.vI fun i _=>by
 unfold aN uR;show g i 0=(if i=j then x else g i) 0/\g i 1=(if i=j then x else g i) 1/\_=Value.agg (aA 5 (jw (if i=j then x else g i)));by_cases c:i=j
 ·subst c; rw[d_ rfl,d_ rfl]; exact⟨e0.symm,a.symm,rfl⟩
 ·rw[b_ c,b_ c]; exact⟨rfl,rfl,rfl⟩
theorem PX{w:World}{b k n:Nat}{o r:Nat->Int}{x y:Int}(h:iC w b k (aN o n x) (aN r n y) (aN Ew n (.bool true))):iC w b k (aN o n x) (aN r n y) Ew:=h.vI fun i _=>⟨rfl,rfl,by unfold aN Ew; split <;> rfl⟩
theorem ain(x:Nat->Int)(r:Int):dD (jw x) 4 (aC r)=jw (upd x 4 r):=by
 funext p
 unfold dD;by_cases c:p=4
 ·subst c; rw[d_ rfl]; rfl
 rw[b_ c]; unfold jw upd;by_cases a:p=0
 ·rw[d_ a,d_ a]; rfl
 rw[b_ a,b_ a];by_cases b:p=3
 ·rw[d_ b,d_ b]; rfl
 rw[b_ b,b_ b,b_ c]
def GI(a b:Int):Nat->Value:=fun p=>if p=0 then au a else aC b
def Wq(m:dU)(a:Nat->Nat->Int)(v:EvM):dU := { m with R:=a,an:=m.an+1,ao:=aN m.ao m.an v.o,ar:=aN m.ar m.an v.req,gn:=m.gn+1,g:=aN m.g m.gn (qC v) }
def PY(m:dU)(a:Nat->Nat->Int)(v:EvM)(j:Nat):dU := { m with R:=a,an:=m.an+1,ao:=aN m.ao m.an v.o,ar:=aN m.ar m.an v.req,g:=aN m.g j (upd (m.g j) 4 v.req) }
structure Bw(w0 w:World):Prop where
 b:Below w0.heap.size w0 w
theorem Bw.up{a w w':World}(h:Bw a w)(c:Below w.heap.size w w'):Bw a w':=⟨J3 h.b c⟩
instance {a w w':World}:Rt.Tr w w' (Bw a w) (Bw a w'):=⟨fun b h=>h.up b⟩
end Rt
theorem aeE{y:Nat->Value}{a b:Int}(c:y 0=au a)(h1:y 1=aC b){w:World}{g:Nat}(h:aP w g 2 y 113):aP w g 2 (GI a b) 113:=h.congr fun j d=>by
 rcases(show j=0\/j=1 by omega)with rfl|rfl
 ·exact c
 ·exact h1
structure LtT(gl gq ge b:Nat):Prop where
 gl:gl<b
 gq:gq<b
 ge:ge<b
structure LtF(gl gq ge gg go b:Nat):Prop where
 gl:gl<b
 gq:gq<b
 ge:ge<b
 gg:gg<b
 go:go<b
theorem Wu(m:dU)(l B:Nat)(w:World)(h:mh w B l m)(v:EvM)(hv:bS v=true)(hwf:gU v)(I:Nat->Nat->Int)(D J G:Nat)(aeF:J<=D)(cap:Array Value)(U:Vv w B l m { m with R:=I } D (.func (.func G) #[] cap) G cap)(S:Nat)(K:Nat)(M:Nat)(A:Nat)(Y:aP w S 1 (fun _ => .func (.func G) #[] cap) 107)(hl:aP w K 1 (fun _=>(pt l)) 37)(hq:aP w M 2 (GI v.o v.req) 113)(E:aP w A 14 (bV v) 32)(N:LtT K M A D)(hnz : ∀ i,i<m.an -> ¬ (m.ao i=v.o/\m.ar i=v.req))(hny : ∀ i,i<m.gn -> ¬ ((fun i=>m.g i 0) i=v.o/\(fun i=>m.g i 1) i=v.req)) :
 Calls Tryz.prog 177 #[(pt S),(pt K),(pt M),(pt A)] w fun e w'=>e = .returned (.tuple #[])/\mh w' B l (Wq m I v)/\jZ (Vu m l J) w w':=by
 have d:=h.ne;have Z:=EW hv hwf;refine Kent Tryz.func177 25 ?_;refine ay<|Lv (.func (.func G) #[] cap) (aM Y.aI 0)<|Bj (by rfl) (Fx.Pz (args := []) rfl rfl rfl (by simp) U.f) rfl<|(U.s _ (Below.refl _ _)).mono ?_;rintro e9 z ⟨E,C,H⟩;refine⟨_,E,?_⟩;clear E;have V:=H.mono (S':=Vu m l J) fun k hk=>hk.imp id (m_ aeF);have m1:=C.c;have m2:=C.t;have m3:=C.p;have m4:=C.r;have m5:=C.g;have m6:=C.a;have m7:=h.JH hl (by decide) H N.gl;have m8:=h.JH hq (by decide) H N.gq;have m9:=h.JH E (by decide) H N.ge;refine aD<|Ws ?_;refine kJ [0,1,2,3,4,5] [4,0,0,4,4,3] [(5,0,[0]),(5,3,[3]),(5,4,[4])] fun rG W iJ => ?_;have s1:=Sb W;have⟨m10,m11,m12,m13,m14,m15,m16,m17,m18⟩:=Br W m1 m2 m3 m4 m5 m6 m7 m8 m9;have D:=V.then s1 (.inr V.size);refine Rs (pt l) (aM m16.aI 0) ?_;refine bf (pt l)<|bf (pf l 28)<|Rs (.map (some m.ab)) (aM m10.aI 28) ?_;refine Rs (.agg (aA 2 (GI v.o v.req))) (fJ m17.aI 0) ?_;refine gQ<|Fx.L.Td (by rfl) rfl rfl rfl ((show ev _ _ = .agg (aA 2 (GI v.o v.req))from rfl).trans (Fx.Ai (y:=GI v.o v.req) (a:=v.o) (b:=v.req) rfl rfl)) Z.1 rfl m15 Tryz.underlying103 GV hnz fun O m19 s2 z1 => ?_;have q:=m15.Cj s2;have m20:=m10.dW q;have m21:=m11.dW q (d.ma);have m22:=m12.dW q (d.pa);have m23:=m13.dW q (d.ra);have m24:=m14.dW q (d.ga);have nP:=m16.dW q;have oG:=m17.dW q;have nY:=m18.dW q;have Q:=D.then s2 (.inl (.inl (.inr (.inr (.inr (.inr (.inr rfl)))))));have nZ:=PX m19;refine Ln<|bT ?_;refine kJ [5,7,9,11,0,1,2,3,4,6,8,10,12,13,14] [4,0,0,4,4,0,4,0,4,0,4,0,4,0,3] [(14,0,[0]),(14,3,[3]),(14,4,[4]),(14,6,[6]),(14,8,[8]),(14,10,[10]),(14,12,[12])] fun Dx X nX => ?_;have s3:=Sb X;have⟨oH,pG,nA,m32,qg,oO,qh,F,nS⟩:=Br X m20 m21 m22 m23 m24 nP oG nY nZ;have b3:=Q.then s3 (.inr Q.size);refine bf (pt A)<|bf (pf A 12)<|bf (pf A 9)<|bf (pf A 11)<|Rs (pt l) (aM oO.aI 0) ?_;refine bf (pt l)<|bf (pf l 27)<|Rs (.map (some m.gb)) (aM oH.aI 27) ?_;refine Rs (.agg (aA 2 (GI v.o v.req))) (fJ qh.aI 0) ?_;refine Rs (au v.o) (aM F.aI 0) ?_;refine Rs (aC v.req) (aM F.aI 12) ?_;refine Rs (aC v.node) (aM F.aI 9) ?_;refine Rs (au v.aU) (aM F.aI 11) ?_;refine bf (.agg (aA 5 (aZ (aZ (aZ (aZ (fun P=>if P<1 then au 0 else if P<3 then aC 0 else if P<4 then au 0 else aC 0) 0 1 (fun _=>au v.o)) 1 1 (fun _=>aC v.req)) 2 1 (fun _=>aC v.node)) 3 1 (fun _=>au v.aU))))<|gQ<|Fx.L.Td (by rfl) rfl rfl rfl ((show ev _ _ = .agg (aA 2 (GI v.o v.req))from rfl).trans (Fx.Ai (y:=GI v.o v.req) (a:=v.o) (b:=v.req) rfl rfl)) Z.1 rfl qg Tryz.underlying102 GV hny fun w3 rU s4 z2 => ?_;have u:=qg.Cj s4;have pV:=oH.dW u;have sJ:=pG.dW u (d.mg);have nJ:=nA.dW u (d.pg);have mJ:=m32.dW u (d.rg);have og:=nS.dW u (Ne.symm d.ga);have b4:=b3.then s4 (.inl (.inl (.inr (.inr (.inr (.inr (.inl rfl)))))));have qV:=Zk rU (qC v) rfl rfl (by intro j hj; rcases(show j=0\/j=1\/j=2\/j=3\/j=4 by omega)with rfl|rfl|rfl|rfl|rfl <;> rfl)
 refine Ln (Rn (⟨.tuple #[],iI Tryz.results177,?_⟩));unfold Wq;exact⟨rfl,{ c:=pV,t:=sJ,p:=nJ,r:=mJ,g:=qV,a:=og,ne:=⟨d.mp,d.mr,d.mg,d.ma,d.pr,d.pg,d.pa,d.rg,d.ra,d.ga⟩,lB:=h.lB,pB:=h.pB,rB:=h.rB,gB:=h.gB,aB:=h.aB },b4⟩
theorem Wv(m:dU)(l B:Nat)(w:World)(h:mh w B l m)(v:EvM)(hv:bS v=true)(hwf:gU v)(K:Nat->Nat->Int)(E H I:Nat)(aeF:H<=E)(cap:Array Value)(S:Vv w B l m { m with R:=K } E (.func (.func I) #[] cap) I cap)(j:Nat)(Q:Nat)(M:Nat)(N:Nat)(J:Nat)(A:Nat)(go:Nat)(X:aP w Q 1 (fun _ => .func (.func I) #[] cap) 107)(hl:aP w M 1 (fun _=>(pt l)) 37)(hq:aP w N 2 (GI v.o v.req) 113)(F:aP w J 14 (bV v) 32)(Y:aP w A 5 (jw (m.g j)) 66)(hof:aP w go 2 (GI v.o v.of) 113)(hgg:H<=A)(G:LtF M N J A go E)(hnz : ∀ i,i<m.an -> ¬ (m.ao i=v.o/\m.ar i=v.req))(Z:j<m.gn)(ejy:(fun i=>m.g i 0) j=v.o)(fjy:(fun i=>m.g i 1) j=v.of) :
 Calls Tryz.prog 180 #[(pt Q),(pt M),(pt N),(pt J),(pt A),(pt go)] w fun e w'=>e = .returned (.tuple #[])/\mh w' B l (PY m K v j)/\jZ (Vu m l H) w w':=by
 have d:=h.ne;have aa:=EW hv hwf;refine Kent Tryz.func180 22 ?_;refine ay<|Lv (.func (.func I) #[] cap) (aM X.aI 0)<|Bj (by rfl) (Fx.Pz (args := []) rfl rfl rfl (by simp) S.f) rfl<|(S.s _ (Below.refl _ _)).mono ?_;rintro e9 z ⟨F,D,C⟩;refine⟨_,F,?_⟩;clear F;have U:=C.mono (S':=Vu m l H) fun k hk=>hk.imp id (m_ aeF);have m1:=D.c;have m2:=D.t;have m3:=D.p;have m4:=D.r;have m5:=D.g;have m6:=D.a;have m7:=h.JH hl (by decide) C G.gl;have m8:=h.JH hq (by decide) C G.gq;have m9:=h.JH F (by decide) C G.ge;have m10:=h.JH Y (by decide) C G.gg;have m11:=h.JH hof (by decide) C G.go;refine aD<|Ws ?_;refine kJ [0,1,2,3,4,5] [4,0,0,4,4,3] [(5,0,[0]),(5,3,[3]),(5,4,[4])] fun rG V iJ => ?_;have s1:=Sb V;have⟨m12,m13,m14,m15,m16,m17,m18,m19,m20,m21,m22⟩:=Fq V m1 m2 m3 m4 m5 m6 m7 m8 m9 m10 m11;have E:=U.then s1 (.inr U.size);refine Rs (pt l) (aM m18.aI 0) ?_;refine bf (pt l)<|bf (pf l 28)<|Rs (.map (some m.ab)) (aM m12.aI 28) ?_;refine Rs (.agg (aA 2 (GI v.o v.req))) (fJ m19.aI 0) ?_;refine gQ<|Fx.L.Td (by rfl) rfl rfl rfl ((show ev _ _ = .agg (aA 2 (GI v.o v.req))from rfl).trans (Fx.Ai (y:=GI v.o v.req) (a:=v.o) (b:=v.req) rfl rfl)) aa.1 rfl m17 Tryz.underlying103 GV hnz fun w2 m23 s2 z1 => ?_;have q:=m17.Cj s2;have m24:=m12.dW q;have nP:=m13.dW q (d.ma);have oG:=m14.dW q (d.pa);have nY:=m15.dW q (d.ra);have nZ:=m16.dW q (d.ga);have oH:=m18.dW q;have pG:=m19.dW q;have nA:=m20.dW q;have m32:=m21.dW q;have qg:=m22.dW q;have b2:=E.then s2 (.inl (.inl (.inr (.inr (.inr (.inr (.inr rfl)))))));have oO:=PX m23;refine Ln<|bT<|ay<|av (pf J 12)<|Lv (aC v.req) (aM nA.aI 12)<|av (pf A 4)<|jh m32 4 (aC v.req) fun O qh s3 z2 => ?_;have qH:=qh.to (ain _ _);have gD:=gX s3 m32.ty;have⟨nS,rU,pV,sJ,nJ,mJ,nC,sK,rJ,og⟩:=OQ gD m24 nP oG nY nZ oH pG nA qg oO;have P:=b2.then s3 (.inl (.inr hgg));refine aD ?_;refine kJ [0,1,2,3,4,5,6] [4,0,0,4,4,4,3] [(6,0,[0]),(6,3,[3]),(6,4,[4]),(6,5,[5])] fun Dx W nX => ?_;have s4:=Sb W;have⟨qV,wT,tV,rW,wu,uX,uN,vL,wz,uw,uy⟩:=Fq W nS rU pV sJ nJ mJ nC sK rJ og qH;have b4:=P.then s4 (.inr P.size);refine Rs (pt l) (aM uX.aI 0) ?_;refine bf (pt l)<|bf (pf l 27)<|Rs (.map (some m.gb)) (aM qV.aI 27) ?_;refine Rs (.agg (aA 2 (GI v.o v.of))) (fJ wz.aI 0) ?_;refine Rs (.agg (aA 5 (jw (upd (m.g j) 4 v.req)))) (fJ uy.aI 0) ?_;refine gQ<|Fx.L.agk (by rfl) rfl rfl rfl ((show ev _ _ = .agg (aA 2 (GI v.o v.of))from rfl).trans (Fx.Ai (y:=GI v.o v.of) (a:=v.o) (b:=v.of) rfl rfl)) aa.2 rfl wu Tryz.underlying102 GV Z ejy fjy fun w4 uz s5 z3 => ?_;have u:=wu.Cj s5;have wU:=qV.dW u;have qI:=wT.dW u (d.mg);have vM:=tV.dW u (d.pg);have oh:=rW.dW u (d.rg);have wW:=uw.dW u (Ne.symm d.ga);have b5:=b4.then s5 (.inl (.inl (.inr (.inr (.inr (.inr (.inl rfl)))))));have sM:=Zl uz rfl rfl;refine Ln (Rn (⟨.tuple #[],iI Tryz.results180,?_⟩));unfold PY;exact⟨rfl,{ c:=wU,t:=qI,p:=vM,r:=oh,g:=sM,a:=wW,ne:=⟨d.mp,d.mr,d.mg,d.ma,d.pr,d.pg,d.pa,d.rg,d.ra,d.ga⟩,lB:=h.lB,pB:=h.pB,rB:=h.rB,gB:=h.gB,aB:=h.aB },b5⟩
end
namespace Rt
def gZ(m:dU)(o r:Int):Bool:=BS m.ao m.ar m.an o r
def iH(m:dU)(o r:Int):Bool:=BS (fun i=>m.g i 0) (fun i=>m.g i 1) m.gn o r
def fA(m:dU)(o r:Int):Nat:=xK (fun i=>m.g i 0) (fun i=>m.g i 1) m.gn o r
noncomputable def Ww(m:dU)(v:EvM):dU:=qO m (fun x=>bJ x v.o v.aU) (m.T.path v.node)
def jY(m:dU)(v:EvM):Int:=if gZ m v.o v.req=true then 14 else if m.T.has v.node=false then 9 else dA m (fun x=>bJ x v.o v.aU) (m.T.path v.node)
noncomputable def kU(m:dU)(v:EvM):dU:=Wq m (Ww m v).R v
noncomputable def Wy(m:dU)(v:EvM):dU:=qO m (fun x=>bK x v.o (m.g (fA m v.o v.of) 3)) (m.T.path (m.g (fA m v.o v.of) 2))
def jy(m:dU)(v:EvM):Int:=if gZ m v.o v.req=true then 14 else if iH m v.o v.of=false\/m.g (fA m v.o v.of) 4≠0 then 12 else dA m (fun x=>bK x v.o (m.g (fA m v.o v.of) 3)) (m.T.path (m.g (fA m v.o v.of) 2))
noncomputable def iF(m:dU)(v:EvM):dU:=PY m (Wy m v).R v (fA m v.o v.of)
def RF(m:dU):Prop := ∀ i,i<m.gn->gZ m (m.g i 0) (m.g i 1)=true
end Rt
theorem Fx.aio{f:Nat->Value}{x1 x2 e g h i:Operand}{v1 v2 a b c d:Value}(h1:ev f x1=v1)(j:ev f x2=v2)(k:ev f e=a)(l:ev f g=b)(m:ev f h=c)(n:ev f i=d) : [x1,x2,e,g,h,i].map (ev f) = [v1,v2,a,b,c,d]:=by rw[List.map_cons,h1,Fx.agb j k l m n]
theorem Vv.up{w w':World}{B d a b:Nat}{m e:dU}{c:Value}{cap:Array Value}(h:Vv w B d m e a c b cap)(f:Below w.heap.size w w'):Vv w' B d m e a c b cap := { h with s:=fun i g=>h.s i (J3 f g) }
instance {w w':World} {B e a c:Nat} {m f:dU} {d:Value} {cap:Array Value}:Rt.Tr w w' (Vv w B e m f a d c cap) (Vv w' B e m f a d c cap):=⟨fun b h=>h.up b⟩
theorem Zm(m:dU)(d B:Nat)(w:World)(h:mh w B d m)(v:EvM)(M:bS v=true)(hwf:gU v)(hga:RF m) :
 Calls Tryz.prog 164 #[(pt d),.agg (aA 14 (bV v))] w fun e w'=>Sd w B d m (kU m v) (jY m v) e w':=by
 have hC:=h.c;have hT:=h.t;have hP:=h.p;have hR:=h.r;have hG:=h.g;have hA:=h.a;obtain⟨a,ha,ho⟩ : ∃ a:Nat,a<6/\v.o=(a:Int)+1:=fu (iO M);have hra:aO v=a:=by unfold aO; omega
 have hko:=EW M hwf;have hvo:1<=v.o/\v.o<=6:=by omega
 refine Kent Tryz.func164 40 ?_;refine ay<|yM (pt d) fun C w1 lN N s1 z1 => ?_;have⟨m2,m3,m4,m5,m6,m7,V⟩:=jM s1.old hC hT hP hR hG hA (Below.refl w.heap.size w);have tN:=iy lN;have⟨nI,za,xX,BQ,Am⟩:=Ee lN hC.lt hP.lt hR.lt hG.lt hA.lt;have uM:=N.lt;refine rE fun f w2 yD D s2 z2 => ?_;have⟨m9,m10,m11,m12,m13,m14,m15,W⟩:=kW s2.old m2 m3 m4 m5 m6 m7 N V;have qW:=iT yD V.size;have⟨PN,F7,CX,ze,CY,AB⟩:=Je yD m2.lt m4.lt m5.lt m6.lt m7.lt N.lt;have zY:=D.lt;refine av (.nilFunc)<|av (au 0)<|aD<|ay<|av (pt f)<|Lv (au v.o) (aM D.aI 0)<|av (pf f 12)<|Lv (aC v.req) (aM D.aI 12)<|av (.agg (aA 2 (aZ (aZ (fun q=>if q<1 then au 0 else aC 0) 0 1 (fun _=>au v.o)) 1 1 (fun _=>aC v.req))))<|uW 2 (fun q=>if q<1 then au 0 else aC 0) fun l w3 zF O s3 z3 => ?_;have⟨m17,m18,m19,m20,m21,m22,m23,m24,X⟩:=Br s3.old m9 m10 m11 m12 m13 m14 m15 D W;have Aj:=iT zF W.size;have⟨aeG,aey,apM,Wj,aez,Wm,Wn⟩:=M5 zF m9.lt m11.lt m12.lt m13.lt m14.lt m15.lt D.lt;have J6:=O.lt;refine fq O 0 (h1:=(bE (bE (fun jq _=>by show((fun q=>if q<1 then au 0 else aC 0:Nat->Value) jq).oneCell'=true; simp only[]; repeat (first|rfl|split)) (fun _ _=>rfl)) (fun _ _=>rfl))) fun w4 nP s4 z4 => ?_
 have oG:aP w4 l 2 (aZ (aZ (fun q=>if q<1 then au 0 else aC 0) 0 1 (fun _=>au v.o)) 1 1 (fun _=>aC v.req)) 113:=aW nP;have nY:aP w4 l 2 (GI v.o v.req) 113:=aeE (Fx.zu (by omega) (Fx.qD (j:=0) (by omega) (by omega) rfl)) (Fx.qD (j:=0) (by omega) (by omega) rfl) oG;have gD:=gX s4 O.ty;have⟨nZ,oH,pG,nA,m32,qg,oO,qh⟩:=abR gD m17 m18 m19 m20 m21 m22 m23 m24;have b4:=s4.below X X.size (by omega);refine aD<|Ws<|Ws ?_;refine kJ [0,1,2,3,4,5] [4,0,0,4,4,4] [] fun rG dZ iJ => ?_;have⟨qH,nS,rU,pV,sJ,P,mJ,nC,sK,Y⟩:=vG dZ nZ oH pG nA m32 qg oO qh nY b4;refine Rs (pt d) (aM mJ.aI 0) ?_;refine bf (pt d)<|bf (pf d 28)<|Rs (.map (some m.ab)) (aM qH.aI 28) ?_;refine Rs (.agg (aA 2 (GI v.o v.req))) (fJ sK.aI 0) ?_
 rcases Fx.yO m.ao m.ar m.an v.o v.req with ⟨VY,DW,DX,LK⟩|jC
 ·refine Rs aG (Fx.Kv (z := .bool false) rfl rfl ((show ev _ _ = .agg (aA 2 (GI v.o v.req))from rfl).trans (Fx.Ai (y:=GI v.o v.req) (a:=v.o) (b:=v.req) rfl rfl)) hko.1 P Tryz.underlying103 GV (by rfl) DW DX LK rfl) ?_;refine bT<|aL<|ay<|av (.nilFunc)<|av (au 14)<|aD<|Wr<|sR<|aJ (.tuple #[.nilFunc,au 14]) ?_;have k:jY m v=14:=by unfold jY; exact d_ (tJ DW DX LK)
  exact⟨⟨.nilFunc,0,#[],by rw[k],rfl,fun A=>M_ (k.symm.trans A) (by first|decide|omega|assumption)⟩,Y⟩
 refine Rs aF (Fx.Ku (z := .bool false) rfl rfl ((show ev _ _ = .agg (aA 2 (GI v.o v.req))from rfl).trans (Fx.Ai (y:=GI v.o v.req) (a:=v.o) (b:=v.req) rfl rfl)) hko.1 P Tryz.underlying103 GV (by rfl) jC) ?_;refine bT<|aK<|Wk<|sN<|Ws<|Ws ?_;refine kJ [4,0,1,2,3,5,6,7] [4,0,0,4,0,4,3,0] [(6,0,[3,2,1,0]),(6,3,[3]),(6,5,[5]),(7,6,[6])] fun Dx gI nX => ?_;have⟨rJ,og,qV,wT,tV,rW,Q,G,uN,I⟩:=vG gI qH nS rU pV sJ P mJ nC sK Y;refine bf (pf f 9)<|Rs (pt d) (aM Q.aI 0) ?_;refine bf (pt d)<|bf (pf d 18)<|Rs (pt m.tp) (aM rJ.aI 18) ?_;refine Rs (aC v.node) (aM G.aI 9) ?_;refine gQ ?_;by_cases s:(dN.has m.T v.node)=true
 ·refine mO (aaQ v.node og) aG (by rw[s])<|Ln<|bf aF<|bT<|aK<|Wk<|sN<|ay<|Lv (pt d) (aM Q.aI 0)<|av (pf f 9)<|Lv (aC v.node) (aM G.aI 9)<|Lv (.func (.func 175) #[] #[(pt f)]) (Fx.nk (us := []) (vs := [(pt f)]) rfl rfl rfl)<|lU (Wi m d B _ (h.up I) v.node v hvo f G) ?_;rintro e9 H ⟨⟨F,fi1,QC,he,ho1,hD1⟩,hb1⟩;refine⟨_,he,?_⟩;clear he;have⟨vL,uw,uy,uz,wU,qI,vM,oh,Z⟩:=Br hb1 rJ qV wT tV rW Q G uN I;have bw1:Bw H H:=⟨Below.refl _ _⟩;refine av (.tuple #[F,au (dA m (fun x=>bJ x v.o v.aU) (m.T.path (v.node)))])<|av (F)<|av (au (dA m (fun x=>bJ x v.o v.aU) (m.T.path (v.node))))<|uW 1 (fun _ => .nilFunc) fun n w6 K S s8 z5 => ?_;have⟨uY,uD,wC,uZ,b8⟩:=tQ s8.old qI vM oh bw1 Z;have Rc:=iT K Z.size;have⟨apN,VL,VN,adZ,aea,aeb,apO,aec⟩:=Ya K vL.lt uw.lt uy.lt uz.lt wU.lt qI.lt vM.lt oh.lt;have Rf:=S.lt;have kg4:H.heap.size<=n:=by rw[K]; exact bw1.b.size
  refine jh S 0 F (h1:=ho1) fun w7 yx U z6 => ?_;have wD:aP w7 n 1 (fun _=>F) 107:=dM yx;have jv:=gX U S.ty;have⟨vN,yR,xV⟩:=Ec jv uY uD wC;have AA:=(⟨U.below uZ.b uZ.b.size kg4⟩:Bw H _);have J:=U.below b8 b8.size (by omega);refine av (au (dA m (fun x=>bJ x v.o v.aU) (m.T.path (v.node))))<|aD<|Ws<|ay<|av (au (dA m (fun x=>bJ x v.o v.aU) (m.T.path (v.node)))) ?_;by_cases E:(dA m (fun x=>bJ x v.o v.aU) (m.T.path (v.node)))=0
  ·refine Lv aF (ko E)<|aD<|aK<|Wk<|sN<|ay<|Lv (.func (.func 177) #[] #[(pt n),(pt C),(pt l),(pt f)]) (Fx.nk (us := []) (vs := [(pt n),(pt C),(pt l),(pt f)]) rfl rfl rfl)<|av (.func (.func 177) #[] #[(pt n),(pt C),(pt l),(pt f)])<|av (au 0)<|aD<|Wr<|aJ (.tuple #[.func (.func 177) #[] #[(pt n),(pt C),(pt l),(pt f)],au 0]) ?_;have hD0:=hD1 E;have hfe:=hD0.e;subst hfe;have b01:w.heap.size<=Dx.heap.size:=(by omega);have k:jY m v=0:=(by unfold jY; rw[b_ (show ¬ gZ m v.o v.req=true by unfold gZ; rw[pX jC]; decide)]; rw[b_ (by rw[s]; decide)]; exact E);exact⟨⟨_,177,#[(pt n),(pt C),(pt l),(pt f)],by rw[k],rfl,fun _=>⟨rfl,⟨_,_,Tryz.func177,rfl,rfl⟩,fun w2 u=>(Wu m d B w2 ((h.up J).up u) v M hwf (Ww m v).R Dx.heap.size w.heap.size _ (by omega) _ (hD0.up (J3 AA.b u)) _ _ _ _ (wD.cZ (Sb u) (u_ wD.lt)) (vN.cZ (Sb u) (u_ vN.lt)) (xV.cZ (Sb u) (u_ xV.lt)) (yR.cZ (Sb u) (u_ yR.lt)) ⟨by omega,by omega,by omega⟩ jC (fun i hi e=>by have q9:=hga i hi; obtain⟨j9,XP,e9,f9⟩:=lM.1 q9; exact jC j9 XP ⟨e9.trans e.1,f9.trans e.2⟩)).mono fun _ _ L=>⟨L.1,L.2.1,L.2.2.mono fun _ hk=>hk⟩⟩⟩,J⟩
  refine Lv aG (nN E)<|aD<|aL<|ay<|av (au (dA m (fun x=>bJ x v.o v.aU) (m.T.path (v.node))))<|av (.nilFunc)<|av (au (dA m (fun x=>bJ x v.o v.aU) (m.T.path (v.node))))<|aD<|Wr<|sR<|aJ (.tuple #[.nilFunc,au (dA m (fun x=>bJ x v.o v.aU) (m.T.path (v.node)))]) ?_;have k:jY m v=dA m (fun x=>bJ x v.o v.aU) (m.T.path (v.node)):=by unfold jY; rw[b_ (show ¬ gZ m v.o v.req=true by unfold gZ; rw[pX jC]; decide)]; rw[b_ (by rw[s]; decide)]
  exact⟨⟨.nilFunc,0,#[],by rw[k],rfl,fun A=>M_ (k.symm.trans A) (by first|decide|omega|assumption)⟩,J⟩
 rw[U_]at s;refine mO (aaQ v.node og) aF (by rw[s])<|Ln<|bf aG<|bT<|aL<|ay<|av (.nilFunc)<|av (au 9)<|aD<|Wr<|sR<|aJ (.tuple #[.nilFunc,au 9]) ?_;have k:jY m v=9:=by unfold jY; rw[b_ (show ¬ gZ m v.o v.req=true by unfold gZ; rw[pX jC]; decide)]; exact d_ s
 exact⟨⟨.nilFunc,0,#[],by rw[k],rfl,fun A=>M_ (k.symm.trans A) (by first|decide|omega|assumption)⟩,I⟩
theorem Zn(m:dU)(A B:Nat)(w:World)(h:mh w B A m)(v:EvM)(hv:bS v=true)(hwf:gU v) :
 Calls Tryz.prog 165 #[(pt A),.agg (aA 14 (bV v))] w fun e w'=>Sd w B A m (iF m v) (jy m v) e w':=by
 have hC:=h.c;have hP:=h.p;have hR:=h.r;have hG:=h.g;have hA:=h.a;have lA:=h.a.lt;obtain⟨a,ha,ho⟩ : ∃ a:Nat,a<6/\v.o=(a:Int)+1:=fu (iO hv);have hra:aO v=a:=by unfold aO; omega
 have ac:=EW hv hwf;have hvo:1<=v.o/\v.o<=6:=by omega
 refine Kent Tryz.func165 56 ?_;refine ay<|yM (pt A) fun K w1 lN m1 s1 z1 => ?_;have⟨m2,m4,m5,m6,m7,b1⟩:=tT s1.old hC hP hR hG hA (Below.refl w.heap.size w);have tN:=iy lN;have⟨nI,za,xX,BQ,Am⟩:=Ee lN hC.lt hP.lt hR.lt hG.lt hA.lt;have uM:=m1.lt;refine rE fun n w2 yD E s2 z2 => ?_;have⟨m9,m11,m12,m13,m14,m15,b2⟩:=jM s2.old m2 m4 m5 m6 m7 m1 b1;have qW:=iT yD b1.size;have⟨PN,F7,CX,ze,CY,AB⟩:=Je yD m2.lt m4.lt m5.lt m6.lt m7.lt m1.lt;have zY:=E.lt;refine av (.nilFunc)<|av (au 0)<|aD<|Ws ?_;refine JL (T1:=113) (T2:=113) (T1':=113) (T2':=113) (a1 := .tmp 6) (v1 := .tmp 16) (a2 := .tmp 7) (v2 := .tmp 21) (m1:=2) (m2:=2) (z1:=fun d=>if d<1 then au 0 else aC 0) (y1:=aZ (aZ (fun d=>if d<1 then au 0 else aC 0) 0 1 (fun _=>au v.o)) 1 1 (fun _=>aC v.req)) (z2:=fun d=>if d<1 then au 0 else aC 0) (y2:=aZ (aZ (fun d=>if d<1 then au 0 else aC 0) 0 1 (fun _=>au v.o)) 1 1 (fun _=>aC v.of)) (u1 := .agg (aA 2 (aZ (aZ (fun d=>if d<1 then au 0 else aC 0) 0 1 (fun _=>au v.o)) 1 1 (fun _=>aC v.req)))) (u2 := .agg (aA 2 (aZ (aZ (fun d=>if d<1 then au 0 else aC 0) 0 1 (fun _=>au v.o)) 1 1 (fun _=>aC v.of)))) 10 11 12 13 [[],[],[],[],[],[],[],[],[],[],[],[],[(0,[10]),(1,[11])],[(0,[10]),(1,[11]),(2,[12])]] [[(2,[0]),(3,[0])],[(2,[1]),(3,[1])],[(2,[2]),(3,[2])],[(2,[3]),(3,[3])],[(2,[4]),(3,[4])],[(3,[5])],[(3,[6])],[(3,[7])],[(3,[8])],[(3,[9])],[(2,[10]),(3,[10])],[(2,[11]),(3,[11])],[(3,[12])],[]] #[(pt n),au v.o,(pf n 12),aC v.req,.agg (aA 2 (aZ (aZ (fun d=>if d<1 then au 0 else aC 0) 0 1 (fun _=>au v.o)) 1 1 (fun _=>aC v.req))),(pt n),au v.o,(pf n 13),aC v.of,.agg (aA 2 (aZ (aZ (fun d=>if d<1 then au 0 else aC 0) 0 1 (fun _=>au v.o)) 1 1 (fun _=>aC v.of))),undef,undef,undef,undef] (by kernel_rfl) (by kernel_rfl) (by kernel_rfl) (by kernel_rfl) (by kernel_rfl) (by kernel_rfl) (by kernel_rfl) (by kernel_rfl) (by kernel_rfl) (by kernel_rfl) rfl rfl (by kernel_rfl) (by kernel_rfl) rfl rfl rfl rfl (by kernel_rfl) (by kernel_rfl) (fun k l=>(show ev _ (.tmp 6)=(pt k)from by kernel_rfl)) (fun k l=>(show ev _ (.tmp 7)=(pt l)from by kernel_rfl)) (fun k l=>(show ev _ (.tmp 16) = .agg (aA 2 (aZ (aZ (fun d=>if d<1 then au 0 else aC 0) 0 1 (fun _=>au v.o)) 1 1 (fun _=>aC v.req)))from by kernel_rfl)) (fun k l=>(show ev _ (.tmp 21) = .agg (aA 2 (aZ (aZ (fun d=>if d<1 then au 0 else aC 0) 0 1 (fun _=>au v.o)) 1 1 (fun _=>aC v.of)))from by kernel_rfl)) (bD _ _) (bD _ _) (bE (bE (fun jq _=>by show((fun d=>if d<1 then au 0 else aC 0:Nat->Value) jq).oneCell'=true; simp only[]; repeat (first|rfl|split)) (fun _ _=>rfl)) (fun _ _=>rfl)) (bE (bE (fun jq _=>by show((fun d=>if d<1 then au 0 else aC 0:Nat->Value) jq).oneCell'=true; simp only[]; repeat (first|rfl|split)) (fun _ _=>rfl)) (fun _ _=>rfl)) (fun k l => ?_) ?_
 ·refine⟨?_,?_,?_,?_,?_,?_,?_,?_,?_,?_,?_,?_,?_,?_,trivial⟩
  ·exact .inr oF
  ·exact .inr (lY (au v.o) fun G u=>bB (x:=bV v) rfl (show ev _ (.tmp 12)=(pt n)from by kernel_rfl) (by kernel_rfl) (E.aI.below u (by have:=E.lt; omega)) (i:=0) (by omega) (by omega) rfl)
  ·exact .inr oF
  ·exact .inr (lY (aC v.req) fun G u=>bB (x:=bV v) rfl (show ev _ (.tmp 14)=(pf n 12)from by kernel_rfl) (by kernel_rfl) (E.aI.below u (by have:=E.lt; omega)) (i:=12) (by omega) (by omega) rfl)
  ·exact .inr (lY (.agg (aA 2 (aZ (aZ (fun d=>if d<1 then au 0 else aC 0) 0 1 (fun _=>au v.o)) 1 1 (fun _=>aC v.req)))) fun G u=>fQ (vs := [(0,au v.o),(1,aC v.req)]) (places := #[(0,1),(1,1)]) (m:=2) (x:=fun d=>if d<1 then au 0 else aC 0) rfl (Fx.MW (show ev _ (.tmp 13)=au v.o from by kernel_rfl) (show ev _ (.tmp 15)=aC v.req from by kernel_rfl)) Tryz.underlying113 (by kernel_rfl) (by kernel_rfl) (by rw[aR (off:=0) (s:=1) (y:=fun _=>au v.o) (by kernel_rfl) (cells_one (by rfl)) (by rfl)]; rw[aR (off:=1) (s:=1) (y:=fun _=>aC v.req) (by kernel_rfl) (cells_one (by rfl)) (by rfl)]; rfl))
  ·exact .inr oF
  ·exact .inr (lY (au v.o) fun G u=>bB (x:=bV v) rfl (show ev _ (.tmp 17)=(pt n)from by kernel_rfl) (by kernel_rfl) (E.aI.below u (by have:=E.lt; omega)) (i:=0) (by omega) (by omega) rfl)
  ·exact .inr oF
  ·exact .inr (lY (aC v.of) fun G u=>bB (x:=bV v) rfl (show ev _ (.tmp 19)=(pf n 13)from by kernel_rfl) (by kernel_rfl) (E.aI.below u (by have:=E.lt; omega)) (i:=13) (by omega) (by omega) rfl)
  ·exact .inr (lY (.agg (aA 2 (aZ (aZ (fun d=>if d<1 then au 0 else aC 0) 0 1 (fun _=>au v.o)) 1 1 (fun _=>aC v.of)))) fun G u=>fQ (vs := [(0,au v.o),(1,aC v.of)]) (places := #[(0,1),(1,1)]) (m:=2) (x:=fun d=>if d<1 then au 0 else aC 0) rfl (Fx.MW (show ev _ (.tmp 18)=au v.o from by kernel_rfl) (show ev _ (.tmp 20)=aC v.of from by kernel_rfl)) Tryz.underlying113 (by kernel_rfl) (by kernel_rfl) (by rw[aR (off:=0) (s:=1) (y:=fun _=>au v.o) (by kernel_rfl) (cells_one (by rfl)) (by rfl)]; rw[aR (off:=1) (s:=1) (y:=fun _=>aC v.of) (by kernel_rfl) (cells_one (by rfl)) (by rfl)]; rfl))
  ·exact .inl rfl
  ·exact .inl rfl
  ·exact .inl rfl
  exact .inl rfl
 rintro k l w3 Z Q H I ne1 m16 m17 hb1;have ahQ:A≠k:=u_ (n_ (m9.lt) H);have aeH:m.pb≠k:=u_ (n_ (m11.lt) H);have aeI:m.rb≠k:=u_ (n_ (m12.lt) H);have aeJ:m.gb≠k:=u_ (n_ (m13.lt) H);have Wz:m.ab≠k:=u_ (n_ (m14.lt) H);have apP:K≠k:=u_ (n_ (m15.lt) H);have ahP:n≠k:=u_ (n_ (E.lt) H);have atH:A≠l:=u_ (n_ (m9.lt) I);have apQ:m.pb≠l:=u_ (n_ (m11.lt) I);have apR:m.rb≠l:=u_ (n_ (m12.lt) I);have apS:m.gb≠l:=u_ (n_ (m13.lt) I);have aeK:m.ab≠l:=u_ (n_ (m14.lt) I);have aeL:K≠l:=u_ (n_ (m15.lt) I);have atI:n≠l:=u_ (n_ (E.lt) I);have⟨m18,m20,m21,m22,m23,m24,nP,b3⟩:=kW hb1 m9 m11 m12 m13 m14 m15 E b2;have H:w.heap.size<=k:=m_ b2.size H;have J6:=m16.lt;have I:w.heap.size<=l:=m_ b2.size I;have Rf:=m17.lt;have q1:Z 2=(pt K):=by rw[Q]; kernel_rfl
 have q2:Z 3=(pt n):=by rw[Q]; kernel_rfl
 have q5:Z 6=(pt k):=by rw[Q]; kernel_rfl
 have q6:Z 7=(pt l):=by rw[Q]; kernel_rfl
 clear Q;refine sN<|Ws<|Ws ?_;refine kJ [0,1,2,3,4,5] [4,0,0,4,4,4] [] fun rG dZ iJ => ?_;have⟨oG,nZ,oH,pG,nA,m32,qg,oO,qh,b4⟩:=vG dZ m18 m20 m21 m22 m23 m24 nP m16 m17 b3;refine Rs (pt A) (aM m32.aI 0 (ha:=q1)) ?_;refine bf (pt A)<|bf (pf A 28)<|Rs (.map (some m.ab)) (aM oG.aI 28) ?_;refine Rs (.agg (aA 2 (aZ (aZ (fun d=>if d<1 then au 0 else aC 0) 0 1 (fun _=>au v.o)) 1 1 (fun _=>aC v.req)))) (fJ oO.aI 0 (ha:=q5)) ?_
 rcases Fx.yO m.ao m.ar m.an v.o v.req with ⟨VY,DW,DX,LK⟩|jC
 ·refine Rs aG (Fx.Kv (z := .bool false) rfl rfl ((show ev _ _ = .agg (aA 2 (aZ (aZ (fun d=>if d<1 then au 0 else aC 0) 0 1 (fun _=>au v.o)) 1 1 (fun _=>aC v.req)))from rfl).trans (Fx.Ai (y:=aZ (aZ (fun d=>if d<1 then au 0 else aC 0) 0 1 (fun _=>au v.o)) 1 1 (fun _=>aC v.req)) (a:=v.o) (b:=v.req) (Fx.zu (by omega) (Fx.qD (j:=0) (by omega) (by omega) rfl)) (Fx.qD (j:=0) (by omega) (by omega) rfl))) ac.1 nA Tryz.underlying103 GV (by rfl) DW DX LK rfl) ?_;refine bT<|aL<|ay<|av (.nilFunc)<|av (au 14)<|aD<|Wr<|sR<|aJ (.tuple #[.nilFunc,au 14]) ?_;have C:jy m v=14:=by unfold jy; exact d_ (tJ DW DX LK)
  exact⟨⟨.nilFunc,0,#[],by rw[C],rfl,fun L=>M_ (C.symm.trans L) (by first|decide|omega|assumption)⟩,b4⟩
 refine Rs aF (Fx.Ku (z := .bool false) rfl rfl ((show ev _ _ = .agg (aA 2 (aZ (aZ (fun d=>if d<1 then au 0 else aC 0) 0 1 (fun _=>au v.o)) 1 1 (fun _=>aC v.req)))from rfl).trans (Fx.Ai (y:=aZ (aZ (fun d=>if d<1 then au 0 else aC 0) 0 1 (fun _=>au v.o)) 1 1 (fun _=>aC v.req)) (a:=v.o) (b:=v.req) (Fx.zu (by omega) (Fx.qD (j:=0) (by omega) (by omega) rfl)) (Fx.qD (j:=0) (by omega) (by omega) rfl))) ac.1 nA Tryz.underlying103 GV (by rfl) jC) ?_;refine bT<|aK<|Wk<|sN<|Ws ?_;refine kJ [0,1,2,3,4,5,6,7,8,9,10,11] [1,0,0,1,1,1,0,0,0,2,3,0] [(10,0,[0]),(10,3,[3]),(10,4,[4]),(10,5,[5]),(10,9,[9]),(11,9,[9]),(11,10,[10])] fun Dx gI nX => ?_;have⟨S,rU,pV,U,nJ,V,nC,sK,W,X⟩:=vG gI oG nZ oH pG nA m32 qg oO qh b4;refine Rd (v:=(pt A)) (by rfl) (by rfl) (vB _) (fun G u=>bB (x:=fun _=>(pt A)) rfl q1 (by kernel_rfl) (V.aI.below u (by have:=V.lt; omega)) (i:=0) (by omega) (by omega) rfl) ?_;refine bf (pt A)<|bf (pf A 27)<|Rd (v := .map (some m.gb)) (by rfl) (by rfl) (vB _) (fun G u=>bB (x:=vY m) rfl rfl (by kernel_rfl) (S.aI.below u (by have:=S.lt; omega)) (i:=27) (by omega) (by omega) rfl) ?_;refine Rd (v := .agg (aA 2 (aZ (aZ (fun d=>if d<1 then au 0 else aC 0) 0 1 (fun _=>au v.o)) 1 1 (fun _=>aC v.of)))) (by rfl) (by rfl) (vB _) (fun G u=>fC (x:=aZ (aZ (fun d=>if d<1 then au 0 else aC 0) 0 1 (fun _=>au v.o)) 1 1 (fun _=>aC v.of)) (y:=aZ (aZ (fun d=>if d<1 then au 0 else aC 0) 0 1 (fun _=>au v.o)) 1 1 (fun _=>aC v.of)) rfl q6 (by kernel_rfl) (by kernel_rfl) (W.aI.below u (by have:=W.lt; omega)) (i:=0) (by omega) (by omega) (fun j _=>by rw[G_])) ?_
 rcases Fx.yO (fun i=>m.g i 0) (fun i=>m.g i 1) m.gn v.o v.of with ⟨f,P,M,N⟩|abl
 ·refine Rd (v := .tuple #[.agg (aA 5 (jw (m.g f))),.bool true]) (by rfl) (by rfl) (vB _) (fun G u=>Fx.Qy (z := .agg (aA 5 (fun d=>if d<1 then au 0 else if d<3 then aC 0 else if d<4 then au 0 else aC 0))) rfl rfl ((show ev _ _ = .agg (aA 2 (aZ (aZ (fun d=>if d<1 then au 0 else aC 0) 0 1 (fun _=>au v.o)) 1 1 (fun _=>aC v.of)))from rfl).trans (Fx.Ai (y:=aZ (aZ (fun d=>if d<1 then au 0 else aC 0) 0 1 (fun _=>au v.o)) 1 1 (fun _=>aC v.of)) (a:=v.o) (b:=v.of) (Fx.zu (by omega) (Fx.qD (j:=0) (by omega) (by omega) rfl)) (Fx.qD (j:=0) (by omega) (by omega) rfl))) ac.2 (U.up u) Tryz.underlying102 GV (by kernel_rfl) P M N rfl) ?_;refine bf (.tuple #[.agg (aA 5 (jw (m.g f))),.bool true])<|bf (.agg (aA 5 (jw (m.g f))))<|bf aG<|Dw<|uW 5 (fun d=>if d<1 then au 0 else if d<3 then aC 0 else if d<4 then au 0 else aC 0) fun D w4 eg5 og s6 z3 => ?_;have⟨qV,tV,rW,wu,uX,uN,vL,wz,uw,b6⟩:=vG s6.old S rU pV U nJ V nC sK W X;have WA:=iT eg5 X.size;have⟨apT,apU,apV,apW,apX,apY,apZ,aqa,aqb⟩:=Yb eg5 S.lt rU.lt pV.lt U.lt nJ.lt V.lt nC.lt sK.lt W.lt;have tg5:=og.lt;refine Ln ⟨s6.old,?_⟩;refine gQ<|fq og 0 (h1:=(fun j hj=>by rcases j with _|_|_|_|_|_|_|_|_|_|_|_|_|_|j <;> first|rfl|omega)) fun w5 uy s7 z4 => ?_
  have uz:aP w5 D 5 (jw (m.g f)) 66:=aW uy;have ad:aP w5 D 5 (jw (m.g f)) 66:=uz;have gD:=gX s7 og.ty;have⟨qI,oh,tX,m64,wV,wB,wW,wX,sM⟩:=abS gD qV tV rW wu uX uN vL wz uw;have b7:=s7.below b6 b6.size (by omega);refine Ln<|bf aG<|bT<|Ws<|ay<|av aG<|av aF<|av aF<|av (pf D 4)<|Lv (aC ((m.g f) 4)) (aM ad.aI 4) ?_;by_cases TH:((m.g f) 4)=0
  ·refine Lv aF (ko TH)<|av aF<|aD<|aK<|Wk<|sN<|ay<|Lv (pt A) (aM wB.aI 0 (ha:=q1))<|av (pf D 2)<|Lv (aC ((m.g f) 2)) (aM ad.aI 2)<|Lv (.func (.func 178) #[] #[(pt n),(pt D)]) (Fx.nk (us := []) (vs := [(pt n),(pt D)]) rfl rfl (Fx.args2 q2 rfl))<|lU (Wp m A B _ (h.up b7) ((m.g f) 2) v (m.g f) hvo n D wW ad) ?_;rintro e9 w6 ⟨⟨aa,fi1,QC,he,ho1,hD1⟩,F⟩;refine⟨_,he,?_⟩;clear he;have⟨uY,wC,uZ,yx,wD,yA,yB,yC,wY,wE,b8⟩:=Fq F qI oh tX m64 wV wB wW wX sM ad b7;have bw1:Bw w6 w6:=⟨Below.refl _ _⟩;refine av (.tuple #[aa,au (dA m (fun x=>bK x v.o (m.g f 3)) (m.T.path ((m.g f) 2)))])<|av (aa)<|av (au (dA m (fun x=>bK x v.o (m.g f 3)) (m.T.path ((m.g f) 2))))<|uW 1 (fun _ => .nilFunc) fun O w7 eg6 vg s9 z5 => ?_;have⟨yS,zD,Al,Dz,Cc,Ao,b9⟩:=jM s9.old yA yB yC wY wE bw1 b8;have lg6:=iT eg6 b8.size;have⟨aqc,aqd,aqe,aqf,aqg,aqh,aqi,aqj,aqk,aql⟩:=aay eg6 uY.lt wC.lt uZ.lt yx.lt wD.lt yA.lt yB.lt yC.lt wY.lt wE.lt;have tg6:=vg.lt;have kg6:w6.heap.size<=O:=(by rw[eg6]; exact bw1.b.size);refine jh vg 0 aa (h1:=ho1) fun w8 Bg s10 z6 => ?_;have yE:aP w8 O 1 (fun _=>aa) 107:=dM Bg;have jv:=gX s10 vg.ty;have⟨uP,rM,oI,ou,pK⟩:=rF jv yS zD Al Dz Cc;have oJ:=(⟨s10.below Ao.b Ao.b.size kg6⟩:Bw w6 _);have b10:=s10.below b9 b9.size (by omega);refine av (au (dA m (fun x=>bK x v.o (m.g f 3)) (m.T.path ((m.g f) 2))))<|aD<|Ws<|ay<|av (au (dA m (fun x=>bK x v.o (m.g f 3)) (m.T.path ((m.g f) 2)))) ?_;by_cases Y:(dA m (fun x=>bK x v.o (m.g f 3)) (m.T.path ((m.g f) 2)))=0
   ·refine Lv aF (ko Y)<|aD<|aK<|Wk<|sN<|ay<|Lv (.func (.func 180) #[] #[(pt O),(pt K),(pt k),(pt n),(pt D),(pt l)]) (Fx.nk (us := []) (vs := [(pt O),(pt K),(pt k),(pt n),(pt D),(pt l)]) rfl rfl (Fx.aio rfl q1 q5 q2 rfl q6))<|av (.func (.func 180) #[] #[(pt O),(pt K),(pt k),(pt n),(pt D),(pt l)])<|av (au 0)<|aD<|Wr<|aJ (.tuple #[.func (.func 180) #[] #[(pt O),(pt K),(pt k),(pt n),(pt D),(pt l)],au 0]) ?_;have J:fA m v.o v.of=f:=zO h.g.inj P M N;have hD0:=hD1 Y;have hfe:=hD0.e;subst hfe;have em:iF m v=PY m (qO m (fun x=>bK x v.o (m.g f 3)) (m.T.path (m.g f 2))).R v f:=(by unfold iF Wy; rw[J]);rw[em];have C:jy m v=0:=by unfold jy; rw[b_ (show ¬ gZ m v.o v.req=true by unfold gZ; rw[pX jC]; decide)]; rw[b_ (show ¬ (iH m v.o v.of=false\/m.g (fA m v.o v.of) 4≠0) by rw[J,show iH m v.o v.of=true from tJ P M N]; rintro (q|q) <;> first|(exact M_ q (by decide))|omega),J]; exact Y
    exact⟨⟨_,180,#[(pt O),(pt K),(pt k),(pt n),(pt D),(pt l)],by rw[C],rfl,fun _=>⟨rfl,⟨_,_,Tryz.func180,rfl,rfl⟩,fun w2 F=>(Wv m A B w2 ((h.up b10).up F) v hv hwf _ w5.heap.size w.heap.size _ (by omega) _ (hD0.up (J3 oJ.b F)) f _ _ _ _ _ _ (yE.cZ (Sb F) (u_ yE.lt)) (uP.cZ (Sb F) (u_ uP.lt)) (oI.cZ (Sb F) (u_ oI.lt)) (rM.cZ (Sb F) (u_ rM.lt)) (pK.cZ (Sb F) (u_ pK.lt)) (ou.cZ (Sb F) (u_ ou.lt)) WA ⟨by omega,by omega,by omega,by omega,by omega⟩ jC P M N).mono fun _ _ hc=>⟨hc.1,hc.2.1,hc.2.2.mono fun _ hk=>hk⟩⟩⟩,b10⟩
   refine Lv aG (nN Y)<|aD<|aL<|ay<|av (au (dA m (fun x=>bK x v.o (m.g f 3)) (m.T.path ((m.g f) 2))))<|av (.nilFunc)<|av (au (dA m (fun x=>bK x v.o (m.g f 3)) (m.T.path ((m.g f) 2))))<|aD<|Wr<|sR<|aJ (.tuple #[.nilFunc,au (dA m (fun x=>bK x v.o (m.g f 3)) (m.T.path ((m.g f) 2)))]) ?_;have J:fA m v.o v.of=f:=zO h.g.inj P M N;have C:jy m v=dA m (fun x=>bK x v.o (m.g f 3)) (m.T.path ((m.g f) 2)):=by unfold jy; rw[b_ (show ¬ gZ m v.o v.req=true by unfold gZ; rw[pX jC]; decide)]; rw[b_ (show ¬ (iH m v.o v.of=false\/m.g (fA m v.o v.of) 4≠0) by rw[J,show iH m v.o v.of=true from tJ P M N]; rintro (q|q) <;> first|(exact M_ q (by decide))|omega),J]
   exact⟨⟨.nilFunc,0,#[],by rw[C],rfl,fun L=>M_ (C.symm.trans L) (by first|decide|omega|assumption)⟩,b10⟩
  refine Lv aG (nN TH)<|av aG<|aD<|aL<|ay<|av (.nilFunc)<|av (au 12)<|aD<|Wr<|sR<|aJ (.tuple #[.nilFunc,au 12]) ?_;have J:fA m v.o v.of=f:=zO h.g.inj P M N;have C:jy m v=12:=by unfold jy; rw[b_ (show ¬ gZ m v.o v.req=true by unfold gZ; rw[pX jC]; decide)]; exact d_ (.inr (by rw[J]; omega))
  exact⟨⟨.nilFunc,0,#[],by rw[C],rfl,fun L=>M_ (C.symm.trans L) (by first|decide|omega|assumption)⟩,b7⟩
 refine Rd (v := .tuple #[.agg (aA 5 (fun d=>if d<1 then au 0 else if d<3 then aC 0 else if d<4 then au 0 else aC 0)),.bool false]) (by rfl) (by rfl) (vB _) (fun G u=>Fx.Qx (z := .agg (aA 5 (fun d=>if d<1 then au 0 else if d<3 then aC 0 else if d<4 then au 0 else aC 0))) rfl rfl ((show ev _ _ = .agg (aA 2 (aZ (aZ (fun d=>if d<1 then au 0 else aC 0) 0 1 (fun _=>au v.o)) 1 1 (fun _=>aC v.of)))from rfl).trans (Fx.Ai (y:=aZ (aZ (fun d=>if d<1 then au 0 else aC 0) 0 1 (fun _=>au v.o)) 1 1 (fun _=>aC v.of)) (a:=v.o) (b:=v.of) (Fx.zu (by omega) (Fx.qD (j:=0) (by omega) (by omega) rfl)) (Fx.qD (j:=0) (by omega) (by omega) rfl))) ac.2 (U.up u) Tryz.underlying102 GV (by kernel_rfl) abl) ?_;refine bf (.tuple #[.agg (aA 5 (fun d=>if d<1 then au 0 else if d<3 then aC 0 else if d<4 then au 0 else aC 0)),.bool false])<|bf (.agg (aA 5 (fun d=>if d<1 then au 0 else if d<3 then aC 0 else if d<4 then au 0 else aC 0)))<|bf aF<|Dw<|uW 5 (fun d=>if d<1 then au 0 else if d<3 then aC 0 else if d<4 then au 0 else aC 0) fun g7 w9 eg7 ql s11 z7 => ?_;have b11:=bF s11.old X;have lg7:=iT eg7 X.size;have⟨akt,aku,akv,akw,akx,aky,akz,akA,akB⟩:=Yb eg7 S.lt rU.lt pV.lt U.lt nJ.lt V.lt nC.lt sK.lt W.lt;have tg7:=ql.lt;refine Ln ⟨s11.old,?_⟩;refine gQ<|fq ql 0 (h1:=(fun j hj=>by rcases j with _|_|_|_|_|_|_|_|_|_|_|_|_|_|j <;> first|rfl|omega)) fun sI pO s12 z8 => ?_
 have xC:aP sI g7 5 (fun d=>if d<1 then au 0 else if d<3 then aC 0 else if d<4 then au 0 else aC 0) 66:=aW pO;have b12:=s12.below b11 b11.size (by omega);refine Ln<|bf aF<|bT<|Ws<|ay<|av aF<|av aG<|av aG<|dw<|dw<|dw<|av aG<|aD<|aL<|ay<|av (.nilFunc)<|av (au 12)<|aD<|Wr<|sR<|aJ (.tuple #[.nilFunc,au 12]) ?_;have C:jy m v=12:=by unfold jy; rw[b_ (show ¬ gZ m v.o v.req=true by unfold gZ; rw[pX jC]; decide)]; exact d_ (.inl (pX abl))
 exact⟨⟨.nilFunc,0,#[],by rw[C],rfl,fun L=>M_ (C.symm.trans L) (by first|decide|omega|assumption)⟩,b12⟩
namespace Rt
noncomputable def iN(m:dU)(v:EvM):dU:=if v.kind=1 then DY m v else if v.kind=2 then uT m v else if v.kind=3 then kU m v else if v.kind=4 then iF m v else if v.kind=5 then DV m v else if v.kind=6 then Io m v else CW m v
def fH(m:dU)(v:EvM):Int:=if v.kind=1 then iW m v else if v.kind=2 then jI m v else if v.kind=3 then jY m v else if v.kind=4 then jy m v else if v.kind=5 then kR m v else if v.kind=6 then 0 else 0
def dF(m:dU)(v:EvM):Int:=if bS v=false then 1 else if mR m.known v=true then 14 else if dI m.known v=false then 13 else if m.inn (aO v)=false\/m.left (aO v)=true then 10 else fH m v
structure QlK(m:dU):Prop where
 own : ∀ a,a<6->0<=m.own a/\m.own a<=1000
 row : ∀ i,i<m.T.n -> ∀ p,p<54->0<=m.R i p/\m.R i p<=1125899906842624
 ga:RF m
 kn:El m.known
def kfn(k:Nat):Nat:=if k=1 then 162 else if k=2 then 163 else if k=3 then 164 else if k=4 then 165 else if k=5 then 166 else if k=6 then 167 else 168
def Oc:Nat->Value:=fun p=>if p=0 then .nilFunc else .func (.func (kfn p)) #[] #[]
theorem Zo{p:Nat}(h:1<=p):Oc p = .func (.func (kfn p)) #[] #[]:=b_ (by omega)
end Rt
theorem air {k : Nat} (h1 : 1 ≤ k) (b : k ≤ 7) : ∃ a c, Tryz.prog.funcs[kfn k]? = some a ∧ (a.name == "runtime.NumGoroutine") = false ∧ a.body = some c := by
 rcases(show k=1\/k=2\/k=3\/k=4\/k=5\/k=6\/k=7 by omega)with rfl|rfl|rfl|rfl|rfl|rfl|rfl
 ·exact⟨_,_,Tryz.func162,rfl,rfl⟩
 ·exact⟨_,_,Tryz.func163,rfl,rfl⟩
 ·exact⟨_,_,Tryz.func164,rfl,rfl⟩
 ·exact⟨_,_,Tryz.func165,rfl,rfl⟩
 ·exact⟨_,_,Tryz.func166,rfl,rfl⟩
 ·exact⟨_,_,Tryz.func167,rfl,rfl⟩
 exact⟨_,_,Tryz.func168,rfl,rfl⟩
theorem Vv.low{w:World}{B f b c d:Nat}{m g:dU}{e:Value}{cap:Array Value}(h:Vv w B f m g b e d cap)(i:c<=b):Vv w B f m g c e d cap := { h with s:=fun n j=>(h.s n j).mono fun _ _ a=>⟨a.1,a.2.1,a.2.2.mono fun k l=>l.imp id (m_ i)⟩ }
theorem Zp(m:dU)(a B:Nat)(w:World)(h:mh w B a m)(v:EvM)(d:bS v=true)(f:gU v)(e:QlK m)(k:Nat)(l:v.kind=(k:Int))(j:1<=k/\k<=7) :
 Calls Tryz.prog (kfn k) #[(pt a),.agg (aA 14 (bV v))] w (Sd w B a m (iN m v) (fH m v)):=by
 rcases(show k=1\/k=2\/k=3\/k=4\/k=5\/k=6\/k=7 by omega)with rfl|rfl|rfl|rfl|rfl|rfl|rfl
 ·have c:v.kind=1:=by omega
  rw[show iN m v=DY m v by unfold iN; rw[d_ (by omega)],show fH m v=iW m v by unfold fH; rw[d_ (by omega)]];exact Zj m a B w h v d e.own
 ·have c:v.kind=2:=by omega
  rw[show iN m v=uT m v by unfold iN; rw[b_ (by omega),d_ (by omega)],show fH m v=jI m v by unfold fH; rw[b_ (by omega),d_ (by omega)]];exact VH m a B w h v d c e.row
 ·have c:v.kind=3:=by omega
  rw[show iN m v=kU m v by unfold iN; rw[b_ (by omega),b_ (by omega),d_ (by omega)],show fH m v=jY m v by unfold fH; rw[b_ (by omega),b_ (by omega),d_ (by omega)]];exact Zm m a B w h v d f e.ga
 ·have c:v.kind=4:=by omega
  rw[show iN m v=iF m v by unfold iN; rw[b_ (by omega),b_ (by omega),b_ (by omega),d_ (by omega)],show fH m v=jy m v by unfold fH; rw[b_ (by omega),b_ (by omega),b_ (by omega),d_ (by omega)]];exact Zn m a B w h v d f
 ·have c:v.kind=5:=by omega
  rw[show iN m v=DV m v by unfold iN; rw[b_ (by omega),b_ (by omega),b_ (by omega),b_ (by omega),d_ (by omega)],show fH m v=kR m v by unfold fH; rw[b_ (by omega),b_ (by omega),b_ (by omega),b_ (by omega),d_ (by omega)]];exact Y8 m a B w h v d c
 ·have c:v.kind=6:=by omega
  rw[show iN m v=Io m v by unfold iN; rw[b_ (by omega),b_ (by omega),b_ (by omega),b_ (by omega),b_ (by omega),d_ (by omega)],show fH m v=0 by unfold fH; rw[b_ (by omega),b_ (by omega),b_ (by omega),b_ (by omega),b_ (by omega),d_ (by omega)]];obtain⟨b,g,i⟩:=Ib d c;exact Y9 m a B w h v d b g i
 have c:v.kind=7:=by omega
 rw[show iN m v=CW m v by unfold iN; rw[b_ (by omega),b_ (by omega),b_ (by omega),b_ (by omega),b_ (by omega),b_ (by omega)],show fH m v=0 by unfold fH; rw[b_ (by omega),b_ (by omega),b_ (by omega),b_ (by omega),b_ (by omega),b_ (by omega)]];exact VO m a B w h v d
theorem Zq(m:dU)(b B:Nat)(w:World)(h:mh w B b m)(v:EvM)(n:gU v)(R:QlK m)(hB:1<=B)(N:jg w 0 0 8 Oc) :
 Calls Tryz.prog 40 #[(pt b),.agg (aA 14 (bV v))] w fun e w'=>Sd w B b m (iN m v) (dF m v) e w':=by
 have M:=h.c;have hP:=h.p;have hR:=h.r;have hG:=h.g;have hA:=h.a;obtain⟨s,Q⟩ : ∃ s:Nat,v.kind=(s:Int):=⟨v.kind.toNat,by have:=n.kind; omega⟩;have O:Kr m.known:=fun i hi=>by have:=R.kn i hi; exact⟨by omega,by omega⟩
 refine Kent Tryz.func40 55 ?_;refine ay<|rE fun y w1 A F s1 z1 => ?_;have⟨m2,m8,H⟩:=jr s1.old M N (Below.refl w.heap.size w);have⟨nI,za,xX,BQ,Am⟩:=Ee A M.lt hP.lt hR.lt hG.lt hA.lt;have KW:0≠y:=by rw[A]; exact u_ (N.lt (by omega))
 have uM:=F.lt;refine av (.nilFunc)<|av (au 0)<|aD<|Ws<|Wb<|ay<|av (pt b)<|Lv aF (Fx.uh rfl rfl rfl (by kernel_rfl))<|av aF<|aD<|aK<|ay<|Lv (.agg (aA 14 (bV v))) (fJ F.aI 0) ?_;by_cases k:(bS v)=true
 ·have D:bS v=true:=k;obtain⟨a,ha,ho⟩ : ∃ a:Nat,a<6/\v.o=(a:Int)+1:=fu (iO D);have E:aO v=a:=by unfold aO; omega
  have hkr:=jf D;refine dQ (Il v _ n) aG (by rw[k]) ?_;intro w2 hb1;have⟨m9,m15,m16,b2⟩:=nO hb1 m2 m8 F H;refine av aF<|av aF<|aD<|aK<|Ws ?_;refine kJ [0,1,2,3,4,5,6] [0,0,0,4,4,3,0] [(5,3,[3]),(5,4,[4]),(6,5,[5])] fun rG dZ iJ => ?_;have⟨S,m23,T,I⟩:=nO dZ m9 m15 m16 b2;refine bf (pt b)<|bf (pt b)<|bf (pf b 12)<|Rs (.agg (aA 6 (rv .u64 m.known))) (fJ S.aI 12 (fun j hj=>rY (p:=j) (by omega) (by omega))) ?_;refine Rs (.agg (aA 14 (bV v))) (fJ T.aI 0) ?_;refine gQ ?_;by_cases l:(mR m.known v)=true
  ·refine dQ (VE m.known v _ n) aG (by rw[l]) ?_;intro w3 hb2;have b4:=bF hb2 I;refine Ln<|bf aG<|bT<|aL<|ay<|av (.nilFunc)<|av (au 14)<|aD<|Wr<|bP<|sR<|aJ (.tuple #[.nilFunc,au 14]) ?_;have d:dF m v=14:=(by unfold dF; rw[b_ (by rw[k]; decide)]; exact d_ l);exact⟨⟨.nilFunc,0,#[],by rw[d],rfl,fun f=>M_ (d.symm.trans f) (by first|decide|omega|assumption)⟩,b4⟩
  rw[U_]at l;refine dQ (VE m.known v _ n) aF (by rw[l]) ?_;intro w4 hb3;have⟨qg,pV,sJ,b5⟩:=nO hb3 S m23 T I;refine Ln<|bf aF<|bT<|aK<|Ws ?_;refine kJ [0,1,2,3,4,5,6,7] [0,0,0,4,4,3,0,0] [(5,3,[3]),(5,4,[4]),(6,5,[5]),(7,5,[5])] fun Dx gI nX => ?_;have⟨U,qV,V,J⟩:=nO gI qg pV sJ b5;refine bf (pt b)<|bf (pt b)<|bf (pf b 12)<|Rs (.agg (aA 6 (rv .u64 m.known))) (fJ U.aI 12 (fun j hj=>rY (p:=j) (by omega) (by omega))) ?_;refine Rs (.agg (aA 14 (bV v))) (fJ V.aI 0) ?_;refine gQ ?_;by_cases q:(dI m.known v)=true
  ·refine dQ (PK m.known v _ n O) aG (by rw[q]) ?_;intro w5 hb4;have⟨tV,wz,uw,b7⟩:=nO hb4 U qV V J;refine Ln<|bf aF<|bf aF<|bT<|aK<|Ws<|Ws ?_;refine kJ [0,1,4,5,2,3,6,7,8,9] [0,0,4,0,0,0,0,4,0,0] [] fun R8 lZ BA => ?_;have⟨G,tX,W,K⟩:=nO lZ tV wz uw b7;refine bf (pt b)<|bf (pt y)<|bf (pt b)<|bf (pt b)<|Rs (au v.o) (aM W.aI 0) ?_;refine Rp (au a) (fun _=>fZ)<|Rp (pf b a) (fun _=>iY 6 1) ?_;by_cases u:(m.inn a)=true
   ·refine Rs aG (aM G.aI a ((CU (by omega)).trans (L_ Value.bool u))) ?_;refine bf aF<|bf aF<|bT<|aK ?_;refine kJ [0,1,4,5,2,3,6,7,8] [0,0,4,0,0,0,0,4,0] [] fun wt4 qU Hw => ?_;have⟨X,uD,Y,L⟩:=nO qU G tX W K;refine bf (pt b)<|bf (pt y)<|bf (pt b)<|bf (pf b 6)<|Rs (au v.o) (aM Y.aI 0) ?_;refine Rp (au a) (fun _=>fZ)<|Rp (pf b (a+6)) (fun _=>iY 6 1) ?_;by_cases x:(m.left a)=true
    ·refine Rs aG (aM X.aI (a+6) ((BO (p:=a) (by omega) (by omega)).trans (L_ Value.bool x))) ?_;refine bf aG<|bT<|aL<|ay<|av (.nilFunc)<|av (au 10)<|aD<|Wr<|bP<|sR<|aJ (.tuple #[.nilFunc,au 10]) ?_;have d:dF m v=10:=(by unfold dF; rw[b_ (by rw[k]; decide)]; rw[b_ (by rw[l]; decide)]; rw[b_ (by rw[q]; decide)]; exact d_ (.inr (by rw[E]; exact x)));exact⟨⟨.nilFunc,0,#[],by rw[d],rfl,fun f=>M_ (d.symm.trans f) (by first|decide|omega|assumption)⟩,L⟩
    rw[U_]at x;refine Rs aF (aM X.aI (a+6) ((BO (p:=a) (by omega) (by omega)).trans (L_ Value.bool x))) ?_;refine bf aF<|bT<|aK<|Wk<|bR<|sN<|Ws ?_;refine kJ [0,4,1,2,3,5,6,7,8,9,10] [0,4,0,4,0,4,3,0,0,0,0] [(6,1,[3,2,1]),(6,3,[3]),(6,5,[5]),(7,6,[6]),(8,6,[6]),(9,6,[6]),(10,6,[6])] fun wt5 Ak TN => ?_;have⟨wY,Z,z⟩:=jr Ak uD Y L;refine bf (pf y 8)<|bf (pt b)<|Rs (.int .u8 (s:Int)) (aM Z.aI 8 (L_ (Value.int IntKind.u8) Q)) ?_;refine Rp (pf 0 s) (fun _=>iY 8 1)<|Rs (.func (.func (kfn s)) #[] #[]) (aM wY s (Zo (by omega))) ?_;refine Rs (.agg (aA 14 (bV v))) (fJ Z.aI 0) ?_;refine gQ<|Bj (by rfl) (Fx.Pz (args := [(pt b),.agg (aA 14 (bV v))]) rfl rfl rfl (by rfl) (air (by omega) (by omega))) rfl<|(Zp m b B _ (h.up z) v D n R s Q (by omega)).mono ?_;rintro e9 w6 ⟨⟨C,fi1,QC,P,ho1,hD1⟩,hb5⟩;refine⟨_,P,?_⟩;clear P;have aa:=bF hb5 z;refine Ln<|bf (C)<|bf (au (fH m v))<|bf (C)<|bf (au (fH m v))<|bT<|Wr<|aJ (.tuple #[C,au (fH m v)]) ?_;have d:dF m v=fH m v:=(by unfold dF; rw[b_ (by rw[k]; decide)]; rw[b_ (by rw[l]; decide)]; rw[b_ (by rw[q]; decide)]; exact b_ (by rw[E,u,x]; decide));exact⟨⟨_,_,_,by rw[d],ho1,fun f=>(hD1 (d.symm.trans f)).low z.size⟩,aa⟩
   rw[U_]at u;refine Rs aF (aM G.aI a ((CU (by omega)).trans (L_ Value.bool u))) ?_;refine bf aG<|bf aG<|bT<|aL<|Wk<|sN<|aL<|ay<|av (.nilFunc)<|av (au 10)<|aD<|Wr<|bP<|sR<|aJ (.tuple #[.nilFunc,au 10]) ?_;have d:dF m v=10:=(by unfold dF; rw[b_ (by rw[k]; decide)]; rw[b_ (by rw[l]; decide)]; rw[b_ (by rw[q]; decide)]; exact d_ (.inl (by rw[E]; exact u)));exact⟨⟨.nilFunc,0,#[],by rw[d],rfl,fun f=>M_ (d.symm.trans f) (by first|decide|omega|assumption)⟩,K⟩
  rw[U_]at q;refine dQ (PK m.known v _ n O) aF (by rw[q]) ?_;intro w7 hb6;have ab:=bF hb6 J;refine Ln<|bf aG<|bf aG<|bT<|aL<|ay<|av (.nilFunc)<|av (au 13)<|aD<|Wr<|bP<|sR<|aJ (.tuple #[.nilFunc,au 13]) ?_;have d:dF m v=13:=by unfold dF; rw[b_ (by rw[k]; decide)]; rw[b_ (by rw[l]; decide)]; exact d_ q
  exact⟨⟨.nilFunc,0,#[],by rw[d],rfl,fun f=>M_ (d.symm.trans f) (by first|decide|omega|assumption)⟩,ab⟩
 rw[U_]at k;refine dQ (Il v _ n) aF (by rw[k]) ?_;intro w8 hb7;have ac:=bF hb7 H;refine av aG<|av aG<|aD<|aL<|ay<|av (.nilFunc)<|av (au 1)<|aD<|Wr<|bP<|sR<|aJ (.tuple #[.nilFunc,au 1]) ?_;have d:dF m v=1:=by unfold dF; exact d_ k
 exact⟨⟨.nilFunc,0,#[],by rw[d],rfl,fun f=>M_ (d.symm.trans f) (by first|decide|omega|assumption)⟩,ac⟩
namespace Rt
noncomputable def iX(m:dU)(v:EvM):dU:=if dF m v=0 then { iN m v with known:=aH (iN m v).known (aO v) ((iN m v).known (aO v)+1) } else m
theorem LM(m:dU)(v:EvM):(iN m v).known=m.known:=by
 unfold iN
 repeat (first|rfl|split)
def Gd:Nat->Int:=fun _=>0
def bA(m:dU)(k:Int):Nat->Int:=if m.T.has k=true then EA m k else Gd
end Rt
theorem mh.known{w w':World}{B d:Nat}{m:dU}{K:Nat->Int}(h:mh w B d m)(f:Stp d w w')(e:aP w' d 29 (vY { m with known:=K }) 106):mh w' B d { m with known:=K }:=by
 have b:=gX f h.c.ty;exact { c:=e,t:=h.t.kV b (by decide),p:=h.p.kV b trivial,r:=h.r.kV b trivial,g:=h.g.kV b trivial,a:=h.a.kV b trivial,ne:=⟨h.ne.mp,h.ne.mr,h.ne.mg,h.ne.ma,h.ne.pr,h.ne.pg,h.ne.pa,h.ne.rg,h.ne.ra,h.ne.ga⟩,lB:=h.lB,pB:=h.pB,rB:=h.rB,gB:=h.gB,aB:=h.aB }
theorem qx{m:dU}{v:EvM}(h:dF m v=0):bS v=true:=by
 cases hc:bS v with
 | true=>rfl
 | false=>unfold dF at h; rw[d_ hc]at h; cases h
theorem qy{m:dU}{v:EvM}(h:dF m v=0):v.seq=m.known (aO v)+1/\fH m v=0/\m.inn (aO v)=true/\m.left (aO v)=false:=by
 have d:=qx h;unfold dF at h;rw[b_ (by rw[d]; decide)]at h;by_cases c:mR m.known v=true
 ·rw[d_ c]at h; cases h
 rw[b_ c]at h;by_cases a:dI m.known v=false
 ·rw[d_ a]at h; cases h
 rw[b_ a]at h;by_cases b:m.inn (aO v)=false\/m.left (aO v)=true
 ·rw[d_ b]at h; cases h
 rw[b_ b]at h;refine⟨?_,h,?_,?_⟩
 ·have a:dI m.known v=true:=by cases e:dI m.known v with|true=>rfl|false=>exact M_ e a
  unfold dI at a;simp only[T_,Q_]at a;exact a.1.2
 ·cases e:m.inn (aO v)with|true=>rfl|false=>exact M_ (.inl e) b
 cases e:m.left (aO v)with|false=>rfl|true=>exact M_ (.inr e) b
theorem Zr(m:dU)(b B:Nat)(w:World)(h:mh w B b m)(v:EvM)(hwf:gU v)(M:QlK m)(hB:1<=B)(I:jg w 0 0 8 Oc) :
 Calls Tryz.prog 15 #[(pt b),.agg (aA 14 (bV v))] w fun e S=>e = .returned (au (dF m v))/\mh S B b (iX m v)/\jZ (Vu m b w.heap.size) w S:=by
 have F:=h.c;have hP:=h.p;have hR:=h.r;have hG:=h.g;have Z:=h.a;refine Kent Tryz.func15 30 ?_;refine ay<|rE fun E w1 x D s1 z1 => ?_;have⟨d,m8,l⟩:=jr s1.old F I (Below.refl w.heap.size w);have⟨nI,za,xX,BQ,Am⟩:=Ee x F.lt hP.lt hR.lt hG.lt Z.lt;have KW:0≠E:=by rw[x]; exact u_ (I.lt (by omega))
 have uM:=D.lt;refine av (au 0)<|aD<|ay<|av (pt b)<|Lv (.agg (aA 14 (bV v))) (fJ D.aI 0)<|lU (Zq m b B _ (h.up l) v hwf M hB m8) ?_;rintro W w2 ⟨⟨z,Y,V,j,ho1,hD1⟩,hb1⟩;refine⟨_,j,?_⟩;clear j;have⟨O,n⟩:=fF hb1 D l;refine av (.tuple #[z,au (dF m v)])<|av (z)<|av (au (dF m v))<|av (z)<|av (au (dF m v))<|aD<|Ws<|ay<|av (au (dF m v)) ?_;by_cases i:(dF m v)=0
 ·refine Lv aF (ko i)<|aD<|aK<|Wk<|sN<|Ws ?_;have A:=hD1 i;have hfe:=A.e;subst hfe;refine Wl<|av (.func (.func Y) #[] V)<|Bj (by rfl) (Fx.Pz (args := []) rfl rfl rfl (by simp) A.f) rfl<|(A.s _ (Below.refl _ _)).mono ?_;rintro W u ⟨j,C,G⟩;refine⟨_,j,?_⟩;clear j;have J:jZ (Vu m b w.heap.size) w u:=(Fx.jZ.of_below n) |> fun q=>Fx.jZ.trans _ _ _ q (G.mono fun k hk=>hk.imp id (m_ l.size));obtain⟨d,y⟩ : ∃ q,q=iN m v:=⟨_,rfl⟩;rw[<- y]at C;have X:d.known=m.known:=by rw[y,LM]
  have H:=C.c;have lC2:=H.lt;have hkb:=(qy i).1;have N:=qx i;obtain⟨a,K,ho⟩ : ∃ a:Nat,a<6/\v.o=(a:Int)+1:=fu (iO N);have hra:aO v=a:=by unfold aO; omega
  have hbd:=oz N;have hka:=M.kn a K;have P:=(h.up n).JH (w':=u) (O) (by decide) G (by have:=O.lt; have:=l.size; omega);have axk:=P.lt;refine aD<|Ws ?_;refine kJ [0,1,4,5,9,10,2,3,6,7,8,11,12] [0,0,4,0,0,0,0,4,0,0,0,0,3] [(12,2,[2]),(12,7,[7])] fun rG L iJ => ?_;have s3:Stp u.heap.size u rG:=Sb L;have⟨Q,m19,m20⟩:=jr L H C P;have T:=J.then s3 (.inr J.size);refine bf (pt b)<|bf (pt E)<|bf (pt b)<|bf (pf b 12)<|bf (pt b)<|bf (pf b 12)<|Rs (au v.o) (aM m20.aI 0) ?_;refine Rp (au a) (fun _=>fZ)<|Rp (pf b (a+12)) (fun _=>iY 6 1)<|Rs (aC (d.known a)) (aM Q.aI (a+12) (rY (p:=a) (by omega) (by omega))) ?_;refine Rp (aC (d.known a+1)) (fun v1=>Fx.Fa rfl rfl rfl (jL (by rw[X]; omega) rfl))<|Rp (pf b (a+12)) (fun _=>iY 6 1)<|gQ<|jh Q (a+12) (aC (d.known a+1)) fun w4 m21 R z2 => ?_;have m22:aP w4 b 29 (vY { d with known:=aH d.known a (d.known a+1) }) 106:=m21.to (Rw K (by omega) _);have U:=T.then R (.inl (.inl (.inl rfl)));refine Ln (bT (ay (av (au 0) (aD (Wr (aJ (au 0) (⟨by rw[i],?_,U⟩)))))));rw[show iX m v = { d with known:=aH d.known a (d.known a+1) } by unfold iX; rw[d_ i,<- y,hra]];exact m19.known R m22
 refine Lv aG (nN i) (aD (aL (ay (av (au (dF m v)) (av (au (dF m v)) (aD (Wr (sR (aJ (au (dF m v)) (⟨rfl,?_,Fx.jZ.of_below n⟩))))))))));rw[show iX m v=m by unfold iX; exact b_ i]; exact h.up n
namespace Rt
def zi(k f c d e b a:Nat):dU := { inn:=fun i=>decide (i<k),left:=fun _=>false,known:=fun _=>0,own:=fun _=>0,T:=dN.zero,R:=fun _ _=>0,gn:=0,g:=fun _ _=>0,an:=0,ao:=fun _=>0,ar:=fun _=>0,tp:=f,mb:=c,pb:=d,rb:=e,gb:=b,ab:=a }
end Rt
theorem WB(k g c d f b a:Nat)(h:k<6):dD (vY (zi k g c d f b a)) k (.bool true)=vY (zi (k+1) g c d f b a):=by
 rw[Vs h];have:aH (zi k g c d f b a).inn k true=(zi (k+1) g c d f b a).inn:=by
  funext i
  show(if i=k then true else decide (i<k))=decide (i<k+1);by_cases e:i=k
  ·subst e; rw[d_ rfl]; exact(f_ (by omega)).symm
  ·rw[b_ e]; exact decide_eq_decide.2 (by omega)
 show vY { zi k g c d f b a with inn:=_ }=_;rw[this]; rfl
theorem Zt(m:dU)(b B:Nat)(w:World)(h:mh w B b m) :
 Calls Tryz.prog 23 #[(pt b)] w fun e D=>e = .returned (.agg (aA 6 (rv .u64 m.known)))/\Below w.heap.size w D:=by
 have i:=h.c;have s:=h.p;have u:=h.r;have q:=h.g;have o:=h.a;refine Kent Tryz.func23 10 ?_;refine ay<|Cg (m:=6) (y:=rv .u64 (fun _=>0)) (by rfl) rfl (by kernel_rfl) rfl fun n V f k A W => ?_;have⟨v,d⟩:=fF A.old i (Below.refl w.heap.size w);have⟨P,Q,R,S,T⟩:=Ee f i.lt s.lt u.lt q.lt o.lt;refine aD<|Ws<|ay<|av (pt b)<|Lv aF (Fx.uh rfl rfl rfl (by kernel_rfl))<|aD<|aK<|Wk<|sN<|ay<|av (pt b)<|av (pt b)<|av (pf b 12)<|Lv (.agg (aA 6 (rv .u64 m.known))) (fJ v.aI 12 (fun j H=>rY (p:=j) (by omega) (by omega)))<|fq k 0 fun E x C X => ?_;have z:=aW x;have l:=C.below d d.size (by omega);refine aD (Wr (⟨.agg (aA 6 (rv .u64 m.known)),rV Tryz.results23 ⟨_,rfl,aY z.aI (by kernel_rfl) (by kernel_rfl)⟩,?_⟩));exact⟨rfl,l⟩
theorem Zu(m:dU)(f B:Nat)(w:World)(h:mh w B f m)(i b:Int)(hi : -9223372036854775808<=i/\i<=9223372036854775807) :
 Calls Tryz.prog 19 #[(pt f),au i,aC b] w fun e C=>e = .returned (au (cB (bA m b) i))/\Below w.heap.size w C:=by
 have v:=h.c;have o:=h.r;refine Kent Tryz.func19 17 ?_;refine ay<|av (au 0)<|aD<|Ws<|ay<|av (pt f)<|Lv aF (Fx.uh rfl rfl rfl (by kernel_rfl))<|aD<|aK<|Wk<|sN<|ay<|av (pt f)<|av (pt f)<|av (pf f 20)<|Lv (.map (some m.rb)) (aM v.aI 20)<|av (aC b) ?_
 rcases Fx.sG m.T.x m.T.n b with ⟨d,l,j⟩|jC
 ·refine Lv (.agg (aA 54 (rv .i64 (m.R d)))) (Fx.wO (z := .agg (aA 54 (rv .i64 (fun _=>0)))) rfl rfl rfl o Tryz.underlying101 Tryz.underlying28 (by kernel_rfl) l j rfl)<|av (au i)<|dQ (sS (m.R d) i _ hi) _ rfl ?_;intro O y;have s:=bF y (Below.refl w.heap.size w);refine av (au (cB (m.R d) i))<|aD<|Wr<|aJ (au (cB (m.R d) i)) ?_;have k:bA m b=m.R d:=by unfold bA EA; rw[d_ (show m.T.has b=true from jN l j),show m.idx b=d from mZ h.t.inv.inj l j]
  exact⟨L_ (fun q=>Ending.returned (Value.int .i64 (cB q i))) k.symm,s⟩
 refine Lv (.agg (aA 54 (rv .i64 (fun _=>0)))) (Fx.OT (z := .agg (aA 54 (rv .i64 (fun _=>0)))) rfl rfl rfl o Tryz.underlying101 Tryz.underlying28 (by kernel_rfl) jC)<|av (au i)<|dQ (sS (fun _=>0) i _ hi) _ rfl ?_;intro P A;have u:=bF A (Below.refl w.heap.size w);refine av (au (cB (fun _=>0) i))<|aD<|Wr<|aJ (au (cB (fun _=>0) i)) ?_;have k:bA m b=Gd:=by unfold bA; exact b_ (by rw[show m.T.has b=false from zB jC]; decide)
 exact⟨L_ (fun q=>Ending.returned (Value.int .i64 (cB q i))) k.symm,u⟩
theorem ais(k:Nat)(hk:1<=k/\k<=6)(w:World) :
 Calls Tryz.prog 14 #[au (k:Int)] w fun e w' => ∃ W m,e = .returned (.tuple #[(pt W),au 0])/\(∃ tp mb pb rb gb ab,m=zi k tp mb pb rb gb ab)/\mh w' w.heap.size W m/\Below w.heap.size w w':=by
 refine Kent Tryz.func14 30 ?_;refine ay<|av (.pointer none)<|av (au 0)<|aD<|Ws<|ay<|av (au k)<|Lv aF Hf<|av aF<|av (au k)<|Lv aF yL<|av aF<|aD<|aK<|Wk<|sN<|ay<|lU (aaP _) ?_;rintro e9 w1 ⟨n,x,V,hg1,X,hb1⟩;refine⟨_,V,?_⟩;clear V;have J:=bF hb1 (Below.refl w.heap.size w);have m2:=X.weak (Below.refl w.heap.size w).size;clear X hg1;refine Fx.L.Ko (by rfl) rfl rfl fun o w2 Q G s2 z1 => ?_;have⟨m4,K⟩:=fF s2.old m2 J;have tN:=iT Q J.size;have aeM:=cu Q m2.lt;refine Fx.L.Ko (by rfl) rfl rfl fun q w3 R H s3 z2 => ?_;have⟨m6,m7,M⟩:=jr s3.old m4 G K;have qW:=iT R K.size;have⟨aeN,Pf⟩:=vH R m4.lt G.lt;refine Fx.L.Te (by rfl) rfl rfl fun s w4 S I s4 z3 => ?_;have⟨m9,Y,Z,N⟩:=nO s4.old m6 m7 H M;have Aj:=iT S M.size;have⟨aeO,aqm,aeH⟩:=Ed S m6.lt m7.lt H.lt;refine Fx.L.Te (by rfl) rfl rfl fun u w5 T E s5 z4 => ?_;have⟨m13,aa,ac,ad,O⟩:=tQ s5.old m9 Y Z I N;have Rc:=iT T N.size;have⟨aeP,aeK,aeL,aqn⟩:=SX T m9.lt Y.lt Z.lt I.lt;refine av (.agg (aA 29 (aZ (aZ (aZ (aZ (aZ (fun d=>if d<12 then .bool false else if d<18 then aC 0 else if d<19 then .pointer none else if d<21 then .map none else if d<27 then au 0 else .map none) 18 1 (fun _=>(pt n))) 19 1 (fun _ => .map (some o))) 20 1 (fun _ => .map (some q))) 27 1 (fun _ => .map (some s))) 28 1 (fun _ => .map (some u)))))<|EB (m:=29) (y:=aZ (aZ (aZ (aZ (aZ (fun d=>if d<12 then .bool false else if d<18 then aC 0 else if d<19 then .pointer none else if d<21 then .map none else if d<27 then au 0 else .map none) 18 1 (fun _=>(pt n))) 19 1 (fun _ => .map (some o))) 20 1 (fun _ => .map (some q))) 27 1 (fun _ => .map (some s))) 28 1 (fun _ => .map (some u))) (by rfl) rfl rfl (bD _ _) rfl fun b w6 U ae s6 z5 => ?_;have⟨m18,m19,m20,m21,m22,b6⟩:=tT s6.old m13 aa ac ad E O;have WA:=iT U O.size;have⟨aqo,aqp,aqr,aqs⟩:=SX U aa.lt ac.lt ad.lt E.lt;have l:QlN (zi 0 n x o q s u):=⟨aeM,aeN,aeO,aeP,by assumption,by assumption,by assumption,by assumption,by assumption,by assumption⟩;have m23:=ae.congr (fun j hj=>match j,hj with|0,_=>rfl|1,_=>rfl|2,_=>rfl|3,_=>rfl|4,_=>rfl|5,_=>rfl|6,_=>rfl|7,_=>rfl|8,_=>rfl|9,_=>rfl|10,_=>rfl|11,_=>rfl|12,_=>rfl|13,_=>rfl|14,_=>rfl|15,_=>rfl|16,_=>rfl|17,_=>rfl|18,_=>rfl|19,_=>rfl|20,_=>rfl|21,_=>rfl|22,_=>rfl|23,_=>rfl|24,_=>rfl|25,_=>rfl|26,_=>rfl|27,_=>rfl|28,_=>rfl|j+29,h=>M_ h (by omega))
 refine av (pt b)<|aD<|Ws<|ay<|av (au k)<|av (au 0)<|aD<|Wb<|Wo (fun f z => ∃ i:Nat,i<=k/\f 4=(pt b)/\f 19=au (k:Int)/\f 20=au (i:Int)/\sP z (w.heap.size) n x dN.zero/\Mp z o 0 (fun _=>0) (fun _ => .pointer none)/\Mp z q 0 (fun _=>0) (fun _ => .pointer none)/\iC z s 0 (fun _=>0) (fun _=>0) (fun _ => .pointer none)/\iC z u 0 (fun _=>0) (fun _=>0) (fun _ => .pointer none)/\aP z b 29 (vY (zi i n x o q s u)) 106/\Below w.heap.size w z) (fun f _=>((k:Int)-intOf (f 20)).toNat) ⟨0,(by omega),(by rfl),Fx.ic,Fx.ic,m18,m19,m20,m21,m22,m23,b6⟩ ?_;rintro f1 w7 ⟨i,v,C,D,A,m24,nP,oG,nY,nZ,F,B⟩;refine ay ?_;by_cases P:(i:Int)<(k:Int)
 ·refine Lv aG (gN P (hx:=A) (hy:=D))<|aD<|Ws<|aL<|Wk<|sN<|Ws<|Wb<|ay<|aT A<|av (au i)<|aD<|Wl<|aT C<|av (au i)<|av (pt b)<|av (pt b)<|Lv (pf b i) (iY 6 1)<|jh F i aG fun w8 pG s7 z6 => ?_;have nA:=pG.to (WB i _ _ _ _ _ _ (by omega));have gD:=gX s7 F.ty;have⟨m32,qg,oO,qh,qH⟩:=rF gD m24 nP oG nY nZ;have b8:=s7.below B B.size (by omega);refine Ln<|bR<|sN<|Wl<|Lv (au ((i:Int)+1)) (eU (hx:=A))<|av (au ((i:Int)+1))<|Ln<|gL ⟨i+1,(by omega),C,(D.trans Fx.ic),Fx.ic,m32,qg,oO,qh,qH,nA,b8⟩ ?_;show((k:Int)-intOf (au ((i:Int)+1))).toNat<_;simp only[A,intOf]; omega
 refine Lv aF (gP P (hx:=A) (hy:=D))<|aD<|Ws<|aK<|Wx<|bY<|gJ<|bZ<|sN<|ay<|aT C<|av (pt b)<|av (au 0)<|aD<|Wr<|aJ (.tuple #[(pt b),au 0]) ?_;have eik:i=k:=by omega
 subst eik;exact⟨b,zi i n x o q s u,rfl,⟨_,_,_,_,_,_,rfl⟩,{ c:=F,t:=m24,p:=nP.vI fun i v=>M_ v (z_ _),r:=oG.vI fun i v=>M_ v (z_ _),g:=nY.vI fun i v=>M_ v (z_ _),a:=nZ.vI fun i v=>M_ v (z_ _),ne:=⟨l.mp,l.mr,l.mg,l.ma,l.pr,l.pg,l.pa,l.rg,l.ra,l.ga⟩,lB:=WA,pB:=tN,rB:=qW,gB:=Aj,aB:=Rc },B⟩
end Go.Proofs.YtahbiajdgealnaaGreatDoor
namespace Go.Proofs.YtahbiajdgealnaaGreatDoor.Fx
open Go.RowKit Go.Shelf Go.Sort Go.Lib
def kX(a b:Int):Int:=if a<b then -1 else if b<a then 1 else 0
theorem PZ(a b:Int):kX a b<0<->a<b:=by
 unfold kX;split
 ·simp_all
 split <;> simp_all
theorem Zv{c:Type}(ky:c->Int):SWO (ltOf fun x y=>kX (ky x) (ky y)):=by
 have e : ∀ x y,(ltOf fun x y=>kX (ky x) (ky y)) x y=decide (ky x<ky y):=fun x y=>by
  unfold ltOf;exact decide_eq_decide.2 (PZ _ _)
 refine⟨fun x => ?_,fun x y z a b => ?_,fun x y z a b => ?_⟩ <;> simp only[e,decide_eq_true_eq,decide_eq_false_iff_not]at * <;> omega
end Go.Proofs.YtahbiajdgealnaaGreatDoor.Fx
namespace Go.Proofs.YtahbiajdgealnaaGreatDoor.Fx
open Go.RowKit Go.Shelf Go.Sort Go.Lib
theorem LP{w:World}{B g cap m N s:Nat}{E:TypeId}(a:Array Value)(os:Array Obj){x:Nat->Value}(h:Own w B E s (.slice (some ⟨g,0,none⟩) m cap) m x)(f:a.size=m*s) :
 Own (sortWorld id w g 0 N a os) B E s (.slice (some ⟨g,0,none⟩) m cap) m (fun q=>a[q]!)/\Stp g w (sortWorld id w g 0 N a os):=by
 rcases h.2 with ⟨b,_⟩|⟨g',cap',cur,b,hB,hg,hn,hm,hs,ht⟩
 ·cases b
 simp only[Value.slice.injEq,Option.some.injEq,Addr.mk.injEq]at b;obtain⟨⟨rfl,_⟩,_,rfl⟩:=b;have n:=(t_.1 hg).1;have d:(sortWorld id w g 0 N a os).heap=(w.heap.modify g (onCells (putCells id 0 a)))++os:=rfl;have e : ∀ k,k<w.heap.size->(sortWorld id w g 0 N a os).heap[k]? = (w.heap.modify g (onCells (putCells id 0 a)))[k]? := fun k c=>by
  rw[d,Array.getElem?_append_left (by simpa using c)]
 have p:m*s<=cap*s:=Nat.mul_le_mul_right s hn;refine⟨⟨by simp,.inr ⟨g,cap,putCells id 0 a cur,rfl,hB,?_,hn,hm,?_,?_⟩⟩,⟨rfl,rfl,rfl,by rw[d]; simp,fun k c o => ?_⟩⟩
 ·rw[e g n,Array.getElem?_modify,d_ rfl,hg]; rfl
 ·simp[putCells,hs]
 ·apply List.ext_getElem?;intro i;by_cases j:i<m*s
  ·have l:i<cur.size:=(by omega);rw[List.getElem?_take_of_lt (by omega),Array.getElem?_toList];unfold putCells;rw[Array.getElem?_mapIdx,Array.getElem?_eq_getElem l];simp[j,f]
  rw[List.getElem?_eq_none (by simp; omega),List.getElem?_eq_none (by simp; omega)]
 rw[e k c,Array.getElem?_modify,b_ (Ne.symm o)]
theorem Od{w:World}{B g cap m s:Nat}{E:TypeId}(d:Array Value){x:Nat->Value}(h:Own w B E s (.slice (some ⟨g,0,none⟩) m cap) m x)(n:d.size=m*s)(hx : ∀ q,q<m*s->x q=d[q]!)(i:0<m) :
 Holds id w g 0 d/\g<w.heap.size:=by
 obtain⟨l,k,e,_,f,_,c⟩:=h.form i
 rcases h.2 with ⟨a,_⟩|⟨g2,cap2,cur,a,hB,hg,hn,hm,hs,ht⟩
 ·cases a
 simp only[Value.slice.injEq,Option.some.injEq,Addr.mk.injEq]at a e;obtain⟨⟨rfl,_⟩,_,rfl⟩:=a;obtain⟨⟨rfl,_⟩,_,rfl⟩:=e;refine⟨fun j o=>⟨?_,?_⟩,f⟩
 ·have b:=c j (by omega);rw[b,hx j (by omega)]; rfl
 simp[World.frozen?,hg]
theorem Iz{a:Type} [Inhabited a]{s:Nat}{enc:a->Nat->Value}{e0:a}{l:List a}(f:0<s) : ∀ q,q<l.length*s->flat s (fun k=>enc (l.getD k e0)) q=(Go.Sort.flatK (fun x=>(List.range s).map (enc x)) s l.toArray)[q]! := fun q b=>by
 have d:=Nat.div_lt_of_lt_mul (by rw[Nat.mul_comm]; exact b);have e:q % s<s:=J_ _ f;rw[Go.Sort.get_flatK _ _ _ q (by simpa using b)];unfold flat;have c:l.toArray[q / s]! = l.getD (q / s) e0:=by simp[d]
 rw[c];simp[e]
theorem WE{P:Program}{ρ:Ren}(H:SlLaysF0.n6 P ρ){gc:Nat}(T : ∀ I w,(callFunc gc I).run P w = .ok (.enter gc I) w){w:World}{B cap s:Nat}{a:Option Addr}{E:TypeId}(K:0<s)
 (R : ∀ w,(isAgg (ρ.t 24)).run P w = .ok true w) (zE : ∀ w,(Go.sizeOf (ρ.t 24)).run P w = .ok s w) {o:Type} [Inhabited o] {enc:o->Nat->Value} {e0:o} (h1 : ∀ x j,j<s->(enc x j).oneCell'=true) {ky:o->Int} {l:List o}
 (h:Own w B E s (.slice a l.length cap) l.length (flat s fun q=>enc (l.getD q e0)))
 (X : ∀ M x y,Calls P gc #[.agg (aA s (enc x)),.agg (aA s (enc y))] M fun e c=>e = .returned (.int .i64 (kX (ky x) (ky y))) /\ ∃ q os',c=grow (M.drewN q) os') (hm:l.length<4611686018427387904) :
 Calls P (ρ.f 6) #[.slice a l.length cap,.func (.func gc) #[] #[]] w fun e c=>e = .returned (.tuple #[]) /\ ∃ G:List o,G.Perm l/\G.Pairwise (fun x y=>ky x<=ky y)/\Own c B E s (.slice a l.length cap) l.length (flat s fun q=>enc (G.getD q e0))/\(∀ k,k<w.heap.size->(Value.slice a l.length cap).ownBlock≠some k->c.heap[k]? = w.heap[k]?)/\iA [E] w c/\Below B w c:=by
 by_cases U:l.length=0
 ·have D:=List.length_eq_zero_iff.1 U;subst D;refine(AnyF.slices_SortFunc_none H a cap _ w).mono ?_;rintro e c ⟨C,rfl⟩;exact⟨C,[],List.Perm.refl _,List.Pairwise.nil,h,fun _ _ _=>rfl,wm _,Below.refl _ _⟩
 obtain⟨g,c2,r,hB,hg,hmc,_⟩:=h.form (by omega);simp only[Value.slice.injEq]at r;obtain⟨rfl,_,rfl⟩:=r;have z : ∀ x,((fun x=>(List.range s).map (enc x)) x).length=s:=fun x=>by simp
 have hsz:(Go.Sort.flatK (fun x=>(List.range s).map (enc x)) s l.toArray).size=l.length*s:=by simp
 obtain⟨W,D⟩:=Od _ h hsz (Iz K) (by omega);have hty:=h.ty rfl;have A : ∀ x,((List.range s).map (enc x)).toArray=aA s (enc x):=fun x=>by
  apply Array.ext
  ·simp[bX]
  ·intro i h1 V;have m:i<s:=(by simpa using h1);have:=fK (enc x) m;rw[Array.getElem?_eq_getElem V]at this;rw[C_ this]; simp
 have J:=AnyQ.slices_SortFunc H s R zE (fun x=>(List.range s).map (enc x)) z (fun x v A=>by
  obtain⟨j,u,rfl⟩:=List.mem_map.1 A;exact h1 x j (O_.1 u)) (fun x y=>kX (ky x) (ky y)) (Zv _) gc #[] g 0 cap l.toArray w T
  (fun N p dk hdk x y=>by rw[A,A]; exact X _ x y) W D (by simpa using hm)
 rw[show l.toArray.size=l.length by simp]at J;refine J.mono ?_;rintro e c ⟨C,b,N,p,⟨n,_,L⟩,hso,rfl⟩;have n:b.size=l.length:=by simpa using n
 have hw:sortWorldK (fun x=>(List.range s).map (enc x)) s w g 0 N b p=sortWorld id w g 0 N (Go.Sort.flatK (fun x=>(List.range s).map (enc x)) s b) p:=rfl;rw[hw];obtain⟨o1,d⟩:=LP (N:=N) (Go.Sort.flatK (fun x=>(List.range s).map (enc x)) s b) p h (by simp[n]);have r:(b.extract 0 l.length).toList=b.toList:=by
  rw[<- n]; simp
 have S:(l.toArray.extract 0 l.length).toList=l:=by simp
 rw[r,S]at L;refine⟨C,b.toList,L,?_,?_,fun k z hne=>d.block k z (fun e=>hne (by rw[e]; rfl)),gX d hty,⟨d.os,d.tape,d.output,d.size,fun k z=>d.block k (by omega) (by omega)⟩⟩
 ·rw[List.pairwise_iff_getElem];intro i j Y u Z;have m:=hso i j (K_ _) Z (by rw[<- n]; simpa using u);unfold ltOf at m;rw[decide_eq_false_iff_not,PZ]at m;have O:b[i]! = b.toList[i]:=by rw[getElem!_pos b i (by simpa using Y)]; simp
  have Q:b[j]! = b.toList[j]:=by rw[getElem!_pos b j (by simpa using u)]; simp
  rw[O,Q]at m;exact Int.not_lt.1 m
 have:=fun q (F:q<l.length*s)=>Iz (enc:=enc) (e0:=e0) (l:=b.toList) K q (by simpa [n] using F);have o3:=o1.congr fun q F=>by
  have:=this q F;simp only[Array.toArray_toList]at this;exact this.symm
 exact o3
end Go.Proofs.YtahbiajdgealnaaGreatDoor.Fx
namespace Go.Proofs.YtahbiajdgealnaaGreatDoor
open Go.Shelf
def RG:Go.Shelf.Ren:=⟨fun|6=>43|15=>68|14=>67|28=>102|29=>103|20=>94|21=>95|22=>96|23=>97|24=>98|25=>99|26=>100|27=>101|46=>121|47=>122|48=>123|49=>124|50=>125|57=>138|n=>n,fun|22=>51|24=>66|25=>118|3=>3|39=>142|0=>0|53=>173|55=>28|4=>4|46=>166|45=>165|50=>170|5=>5|9=>9|66=>184|70=>188|76=>200|77=>201|n=>n,fun|n=>n⟩
theorem ait:Go.Proofs.SlLaysF0.n6 Tryz.prog RG := {
 mixed:=by kernel_rfl
 f6:=⟨Tryz.f43.name,by decide,Tryz.func43.trans (L_ some (by kernel_rfl))⟩
 f14:=⟨Tryz.f67.name,by decide,Tryz.func67.trans (L_ some (by kernel_rfl))⟩
 f15:=Tryz.func68.trans (L_ some (by kernel_rfl))
 f20:=⟨Tryz.f94.name,by decide,Tryz.func94.trans (L_ some (by kernel_rfl))⟩
 f21:=⟨Tryz.f95.name,by decide,Tryz.func95.trans (L_ some (by kernel_rfl))⟩
 f22:=⟨Tryz.f96.name,by decide,Tryz.func96.trans (L_ some (by kernel_rfl))⟩
 f23:=⟨Tryz.f97.name,by decide,Tryz.func97.trans (L_ some (by kernel_rfl))⟩
 f24:=⟨Tryz.f98.name,by decide,Tryz.func98.trans (L_ some (by kernel_rfl))⟩
 f25:=⟨Tryz.f99.name,by decide,Tryz.func99.trans (L_ some (by kernel_rfl))⟩
 f26:=⟨Tryz.f100.name,by decide,Tryz.func100.trans (L_ some (by kernel_rfl))⟩
 f27:=⟨Tryz.f101.name,by decide,Tryz.func101.trans (L_ some (by kernel_rfl))⟩
 f28:=Tryz.func102.trans (L_ some (by kernel_rfl))
 f29:=Tryz.func103.trans (L_ some (by kernel_rfl))
 f46:=⟨Tryz.f121.name,by decide,Tryz.func121.trans (L_ some (by kernel_rfl))⟩
 f47:=Tryz.func122.trans (L_ some (by kernel_rfl))
 f48:=Tryz.func123.trans (L_ some (by kernel_rfl))
 f49:=⟨Tryz.f124.name,by decide,Tryz.func124.trans (L_ some (by kernel_rfl))⟩
 f50:=⟨Tryz.f125.name,by decide,Tryz.func125.trans (L_ some (by kernel_rfl))⟩
 f57:=⟨Tryz.f138.name,by decide,Tryz.func138.trans (L_ some (by kernel_rfl))⟩
 t0:=Tryz.underlying0
 a0:=Tryz.isAgg0
 z0:=Tryz.sizeOf0
 v0:=Tryz.zeroValue0
 t3:=Tryz.underlying3
 a3:=Tryz.isAgg3
 z3:=Tryz.sizeOf3
 v3:=Tryz.zeroValue3
 t4:=Tryz.underlying4
 a4:=Tryz.isAgg4
 z4:=Tryz.sizeOf4
 v4:=Tryz.zeroValue4
 t5:=Tryz.underlying5
 a5:=Tryz.isAgg5
 z5:=Tryz.sizeOf5
 v5:=Tryz.zeroValue5
 t9:=Tryz.underlying9
 a9:=Tryz.isAgg9
 z9:=Tryz.sizeOf9
 v9:=Tryz.zeroValue9
 t22:=Tryz.underlying51
 a22:=Tryz.isAgg51
 z22:=Tryz.sizeOf51
 v22:=Tryz.zeroValue51
 t25:=Tryz.underlying118
 a25:=Tryz.isAgg118
 z25:=Tryz.sizeOf118
 v25:=Tryz.zeroValue118
 t39:=Tryz.underlying142
 a39:=Tryz.isAgg142
 z39:=Tryz.sizeOf142
 v39:=Tryz.zeroValue142
 t45:=Tryz.underlying165
 a45:=Tryz.isAgg165
 z45:=Tryz.sizeOf165
 v45:=Tryz.zeroValue165
 t46:=Tryz.underlying166
 a46:=Tryz.isAgg166
 z46:=Tryz.sizeOf166
 v46:=Tryz.zeroValue166
 t50:=Tryz.underlying170
 a50:=Tryz.isAgg170
 z50:=Tryz.sizeOf170
 v50:=Tryz.zeroValue170
 t53:=Tryz.underlying173
 a53:=Tryz.isAgg173
 z53:=Tryz.sizeOf173
 v53:=Tryz.zeroValue173
 t55:=Tryz.underlying28
 a55:=Tryz.isAgg28
 z55:=Tryz.sizeOf28
 v55:=Tryz.zeroValue28
 t66:=Tryz.underlying184
 a66:=Tryz.isAgg184
 z66:=Tryz.sizeOf184
 v66:=Tryz.zeroValue184
 t70:=Tryz.underlying188
 a70:=Tryz.isAgg188
 z70:=Tryz.sizeOf188
 v70:=Tryz.zeroValue188
 t76:=Tryz.underlying200
 a76:=Tryz.isAgg200
 z76:=Tryz.sizeOf200
 v76:=Tryz.zeroValue200
 t77:=Tryz.underlying201
 a77:=Tryz.isAgg201
 z77:=Tryz.sizeOf201
 v77:=Tryz.zeroValue201 }
end Go.Proofs.YtahbiajdgealnaaGreatDoor
namespace Go.Proofs.YtahbiajdgealnaaGreatDoor
open Go.RowKit Go.Sort Rt
namespace Fx
def Zw(w w':World):Prop := ∃ q a,w'=grow (w.drewN q) a
theorem Zw.refl(w:World):Zw w w:=⟨0,#[],by rw[grow_empty]; rfl⟩
theorem Zw.alloc{w a b:World}(h:Zw w a)(z : ∃ o,b=a.alloc o):Zw w b:=by
 obtain⟨q,c,rfl⟩:=h;obtain⟨o,rfl⟩:=z;exact⟨q,c ++ #[o],by rw[alloc_eq_grow,grow_grow]⟩
theorem Zw.drew{w a b:World}(h:Zw w a)(z:b=a.drew):Zw w b:=by
 obtain⟨q,c,rfl⟩:=h;subst z;exact⟨q+1,c,rfl⟩
section
variable {P:Program} {n:Nat} {Q:Post} {f:Nat->Value} {w:World} {ops:Array Oper} {rest:List Oper} {o:Oper}
theorem L.aiu{T:TypeId}{x:Operand}{v:Value}{m:Nat}{y:Nat->Value}(i:Region.wanted o (yf ops f)=true)(d:o.op = .box T x)(hx:ev f x=v)(b:v.cells=aA m y)(c:inn n o.dst=true)
 (h : ∀ g a,g=w.heap.size->aP a g m y T->Stp w.heap.size w a->(∃ o,a=w.alloc o)->L P n ops Q rest (put f o.dst (.pointer (some ⟨g,0,none⟩))) a):L P n ops Q (o::rest) f w:=by
 have e:(execOp (ev f) o).run P w = .ok (.value (.pointer (some ⟨w.heap.size,0,none⟩))) (w.alloc (.cells v.cells T)):=by
  unfold execOp;simp[d,hx,Instr.box,newVar,newRow]
 refine L.val i e c (h _ _ rfl ?_ (Stp.alloc _ _) ⟨_,rfl⟩);show(w.alloc _).heap[w.heap.size]? = _;rw[alloc_at,d_ rfl,b]
theorem L.Zx{T E:TypeId}{len s:Nat}{l:List (Nat × Operand)}{vs:List (Nat × Value)}{zc y:Nat->Value}(I:Region.wanted o (yf ops f)=true)(B:o.op = .buildSlice T len l.toArray)(C:l.map (fun p=>(p.1,ev f p.2))=vs)(H:P.underlying T=some (.slice E))(k:(P.info? E).map (·.size)=some s)
 (q:Nat.ble (len*s) 16777216=true) (d:Nat.beq (len*s) 0=false) (J:((P.info? E).bind (·.zero)).map (·.cells)=some (aA s zc)) (u:Instr.fill (fun i=>some (i*s,s)) (aA (len*s) (fun j=>zc (j % s))) vs=some (aA (len*s) y)) (t:inn n o.dst=true)
 (h : ∀ g a,g=w.heap.size->aP a g (len*s) y E->Stp w.heap.size w a->(∃ o,a=w.alloc o)->L P n ops Q rest (put f o.dst (.slice (some ⟨g,0,none⟩) len len)) a):L P n ops Q (o::rest) f w:=by
 obtain⟨z,K,M⟩:=Option.map_eq_some_iff.1 J;obtain⟨i,c,N⟩:=Option.bind_eq_some_iff.1 K;have G:i.size=s:=by rw[c]at k; simpa using k
 have O : ¬ len*s>2^24:=by have:=Nat.le_of_ble_eq_true q; omega
 have b:len*s≠0:=fun e=>by rw[e]at d; exact M_ d (by decide)
 have F:0<s:=Nat.pos_of_ne_zero fun e=>b (by rw[e,Nat.mul_zero]);have r:(Array.range (len*s)).map (fun j=>z.cells[j % z.cells.size]!)=aA (len*s) (fun j=>zc (j % s)):=by
  refine vo (by simp) fun j x => ?_;have A:j % s<s:=J_ _ F;have v:=fK zc A;rw[M];simp[x,bX];rw[getElem!_def,v]
 have D:(execOp (ev f) o).run P w = .ok (.value (.slice (some ⟨w.heap.size,0,none⟩) len len)) (w.alloc (.cells (aA (len*s) y) E)):=by
  unfold execOp;simp only[B,List.map_toArray,C];unfold Instr.buildSlice;have m : ¬ 16777216<len*s:=by omega
  simp[underlying,sizeOf,typeInfo,zeroValue,H,c,G,N,m];simp[b,r,u,newRow]
 refine L.val I D t (h _ _ rfl ?_ (Stp.alloc _ _) ⟨_,rfl⟩);show(w.alloc _).heap[w.heap.size]? = _;rw[alloc_at,d_ rfl]
end
section
variable {P:Program} {n:Nat} {ops:List Oper} {Q:Post}
theorem W.aeQ{f:Nat->Value}{w:World}{id:Nat}(l:List Nat)(cs:List Nat)(S:World->World->Prop)(j : ∀ w,S w w)(m : ∀ a b c,S a b->S b c->S a c)(fO:List (Nat × Nat × List Nat))(t:P.follows .mixedOrders=true)(u:lX n ops=true)(x:Region.noSelect ops.toArray=true)(e:Aw ops l=true)(v:wM ops cs fO l=true)
 (h : ∀ g,Below w.heap.size w g->g=w.drew->R P n ops cs S Q l f g):W P n (.region id ops.toArray true) Q f w:=fun a o=>by
 refine wp_region_any t ?_;unfold Aw at e;rw[T_,T_,T_,List.all_eq_true,List.all_eq_true]at e;obtain⟨⟨⟨y,z⟩,p3⟩,p4⟩:=e;have s:=B_ y;have A:=h_ p3;have:=R.any (P:=P) (Q:=Q) (fO:=fO) u x j m ops.length l (Array.replicate ops.length false) a f w.drew s (by simp) (J4.start _ _ _) (fun i=>by
  have p : ∀ i,(Array.replicate ops.length false).getD i false=false:=fun i=>getD_replicate_false _ _;constructor
  ·intro d; exact⟨by simpa [Nat.blt_eq] using z i d,p i⟩
  ·intro d;obtain⟨k,q,r⟩:=List.any_eq_true.1 (p4 i (by simpa using d.1));rw[B_ r]; exact q) A (wN v) o (h w.drew (Below.refl _ _).drew rfl)
 simpa using this
end
end Fx
namespace Rt
structure JN where
 x:Nat->Int
 h:0<=x 1/\x 1<=18446744073709551615
def g0:JN:=⟨fun _=>0,by decide⟩
instance:Inhabited JN:=⟨g0⟩
def Ka(x:Nat->Int):JN:=if h:0<=x 1/\x 1<=18446744073709551615 then⟨x,h⟩else g0
def LQ(x:JN):Int:=x.x 0*18446744073709551616+x.x 1
theorem abm{x:Nat->Int}(h:0<=x 1/\x 1<=18446744073709551615):(Ka x).x=x:=by unfold Ka; rw[dif_pos h]
def Si(a b:Int):Int:=if a=0 then b else a
def Oe(a b:Int)(i:Nat):Int:=if i=0 then a else b
def orW(a b:Int):Nat->Value:=fun j => .int .i64 (Oe a b j)
section
variable {a b:Int} {i:Nat}
theorem aqt(d:i=0\/a=0)(c:Oe a b i=0):i+1=0\/a=0:=by
 unfold Oe at c
 rcases d with rfl|e
 ·exact .inr (by simpa using c)
 exact .inr e
theorem aqu(d:i=0\/a=0)(c:Oe a b i=0):i+1<2\/Si a b=0:=by
 unfold Oe at c;by_cases e:i=0
 ·exact .inl (by omega)
 rw[b_ e]at c
 rcases d with h|h
 ·exact M_ h e
 exact .inr (by unfold Si; rw[d_ h]; exact c)
theorem aqv(d:i=0\/a=0)(c : ¬ Oe a b i=0):Si a b=Oe a b i:=by
 unfold Oe at c ⊢;unfold Si;by_cases e:i=0
 ·rw[d_ e]at c ⊢; rw[b_ c]
 rw[b_ e]
 rcases d with h|h
 ·exact M_ h e
 rw[d_ h]
theorem aqw(h:i<2\/Si a b=0)(c : ¬ (i:Int)<2):Si a b=0:=by
 rcases h with h|h
 ·omega
 exact h
end
theorem aeR(x y:JN):Si (Fx.kX (x.x 0) (y.x 0)) (Fx.kX (x.x 1) (y.x 1))=Fx.kX (LQ x) (LQ y):=by
 have a:=x.h;have b:=y.h;unfold Si Fx.kX LQ
 repeat' split
 all_goals first|rfl|omega
structure RH(n:Nat)(S:Nat->Bool)(il:List Nat):Prop where
 nd:il.Nodup
 mem : ∀ i,i∈il<->(i<n/\S i=true)
theorem RH.start(n:Nat):RH n (fun _=>false) []:=⟨List.nodup_nil,fun i=>⟨fun h=>(nomatch h),fun h=>(nomatch h.2)⟩⟩
theorem RH.step{n i:Nat}{S:Nat->Bool}{c:List Nat}(h:RH n S c)(hi:i<n)(l:S i=false):RH n (Fx.aN S i true) (c ++ [i]):=by
 have k:i ∉ c:=fun g=>by have:=((h.mem i).1 g).2; rw[l]at this; cases this
 refine⟨List.nodup_append.2 ⟨h.nd,by simp,fun a f b d e => ?_⟩,fun j => ?_⟩
 ·rw[List.mem_singleton]at d; subst d; subst e; exact k f
 rw[List.mem_append,List.mem_singleton,h.mem];show _<->(j<n/\(if j=i then true else S j)=true);by_cases e:j=i
 ·subst e; rw[d_ rfl]; exact⟨fun _=>⟨hi,rfl⟩,fun _ => .inr rfl⟩
 rw[b_ e]; exact⟨fun h=>h.elim id fun h=>M_ h e,fun h => .inl h⟩
theorem RH.len{n:Nat}{S:Nat->Bool}{c:List Nat}(h:RH n S c):c.length<=n :=
 CZ n c.length (fun q=>c.getD q 0) (fun q d=>by
  have:c.getD q 0∈c:=by rw[r_,o_ d]; exact R_ d
  exact((h.mem _).1 this).1) fun a b f g e=>by
  have e:=e;rw[r_,r_,o_ f,o_ g]at e;exact(List.getElem_inj h.nd).1 e
structure GrS(m:dU)(l:List JN):Prop where
 mem : ∀ x,x∈l -> ∃ i,i<m.gn/\x.x=m.g i
 all : ∀ i,i<m.gn -> ∃ x,x∈l/\x.x=m.g i
 up:l.Pairwise fun x y=>LQ x<LQ y
theorem GrS.of{m:dU}{w:World}{b:Nat}{t:List Nat}{l:List JN}{S:Nat->Bool}(o:Fx.iC w b m.gn (fun i=>m.g i 0) (fun i=>m.g i 1) (uR m.g))(hi:RH m.gn S t)(z : ∀ i,i<m.gn->S i=true)(r:l.Perm (t.map fun i=>Ka (m.g i)))(B:l.Pairwise fun x y=>LQ x<=LQ y):GrS m l:=by
 have k : ∀ i,i<m.gn->(Ka (m.g i)).x=m.g i:=fun i hi=>abm (o.ok hi).b;have f : ∀ i,i∈t<->i<m.gn:=fun i=>by rw[hi.mem]; exact⟨fun h=>h.1,fun h=>⟨h,z i h⟩⟩
 have p : ∀ x,x∈l -> ∃ i,i<m.gn/\x=Ka (m.g i):=fun x s=>by
  obtain⟨i,c,d⟩:=List.mem_map.1 (r.mem_iff.1 s);exact⟨i,(f i).1 c,d.symm⟩
 have A:l.Nodup:=by
  rw[r.nodup_iff,List.nodup_iff_pairwise_ne,List.pairwise_map];refine(List.nodup_iff_pairwise_ne.1 hi.nd).imp_of_mem fun {a b} ha hb q e=>q ?_;have c:=L_ JN.x e;rw[k a ((f a).1 ha),k b ((f b).1 hb)]at c;exact o.inj a b ((f a).1 ha) ((f b).1 hb) (by show m.g a 0=m.g b 0; rw[c]) (by show m.g a 1=m.g b 1; rw[c])
 refine⟨fun x s => ?_,fun i c => ?_,?_⟩
 ·obtain⟨i,c,d⟩:=p x s;exact⟨i,c,by rw[d,k i c]⟩
 ·exact⟨Ka (m.g i),r.mem_iff.2 (List.mem_map.2 ⟨i,(f i).2 c,rfl⟩),k i c⟩
 refine(B.and (List.nodup_iff_pairwise_ne.1 A)).imp_of_mem fun {a b} ha hb h => ?_;obtain⟨i,c,u⟩:=p a ha;obtain⟨j,d,v⟩:=p b hb;have q:=h.2
 rcases Int.lt_or_eq_of_le h.1 with h3|h3
 ·exact h3
 exfalso;have C:=a.h;have D:=b.h;unfold LQ at h3;refine q ?_;have n:a.x 0=b.x 0/\a.x 1=b.x 1:=by omega
 rw[u,v,k i c,k j d]at n;have:=o.inj i j c d n.1 n.2;rw[u,v,this]
def WG(m:dU)(l:List Int)(k:Nat):Nat->Value:=jQ (l.getD k 0) (m.T.par (l.getD k 0)) (EA m (l.getD k 0))
def XQ(l:List JN)(k:Nat):Nat->Value:=jw (l.getD k g0).x
theorem LU{id par:Int}{R:Nat->Int}{z:Nat->Value} : ∀ j,j<56->Fx.aZ (Fx.aZ (Fx.aZ z 0 1 (fun _ => .int .u64 id)) 1 1 (fun _ => .int .u64 par)) 2 54 (Fx.rv .i64 R) j=jQ id par R j:=fun j a=>by
 unfold Fx.aZ jQ
 rcases(show j=0\/j=1\/2<=j by omega)with rfl|rfl|h
 ·rfl
 ·rfl
 ·rw[d_ (by omega),b_ (by omega),b_ (by omega)]; rfl
theorem Zy{m:dU}{l:List Int}{n:Nat}{id par:Int}{R:Nat->Int}{z z2:Nat->Value}(b:l.getD n 0=id)(c:m.T.par id=par)(d:EA m id=R) : ∀ j,j<(n+1)*56->Fx.gY (Fx.flat 56 (WG m l)) (n*56) (Fx.aZ z (0*56) 56 (Fx.aZ (Fx.aZ (Fx.aZ z2 0 1 (fun _ => .int .u64 id)) 1 1 (fun _ => .int .u64 par)) 2 54 (Fx.rv .i64 R))) j=Fx.flat 56 (WG m l) j:=fun j a =>
 (Fx.vE j a).trans (Fx.bM (fun k _ q f=>by
  unfold Fx.qG;by_cases e:k=n
  ·subst e; rw[d_ rfl,LU q f]; unfold WG; rw[b,c,d]
  ·rw[b_ e]) j a)
theorem Zz{g:Nat->Nat->Int}{a:List Nat}{i:Nat}{z:Nat->Value} : ∀ j,j<(a.length+1)*5->Fx.gY (Fx.flat 5 fun k=>jw (g (a.getD k 0))) (a.length*5) (Fx.aZ z (0*5) 5 (jw (g i))) j=Fx.flat 5 (fun k=>jw (g ((a ++ [i]).getD k 0))) j:=fun j b =>
 (Fx.vE j b).trans (Fx.bM (fun k c q _=>by
  unfold Fx.qG;by_cases e:k=a.length
  ·subst e; rw[d_ rfl]; simp[r_]
  ·rw[b_ e]; show jw (g (a.getD k 0)) q=_; rw[r_,r_,List.getElem?_append_left (by omega)]) j b)
theorem ZA{m:dU}{a:List Nat}{S:Nat->Bool}{w:World}{b:Nat}(d:Fx.iC w b m.gn (fun i=>m.g i 0) (fun i=>m.g i 1) (uR m.g))(hi:RH m.gn S a) : ∀ j,j<(a.map fun i=>Ka (m.g i)).length*5->Fx.flat 5 (fun k=>jw (m.g (a.getD k 0))) j=Fx.flat 5 (XQ (a.map fun i=>Ka (m.g i))) j:=fun j f =>
 Fx.bM (n:=(a.map fun i=>Ka (m.g i)).length) (fun k c q _=>by
  rw[List.length_map]at c;unfold XQ;have h:a.getD k 0∈a:=by rw[r_,o_ c]; exact R_ c
  have e:((a.map fun i=>Ka (m.g i)).getD k g0)=Ka (m.g (a.getD k 0)):=by
   rw[r_,r_,o_ (by rw[List.length_map]; exact c),o_ c,List.getElem_map]; rfl
  rw[e,abm (d.ok ((hi.mem _).1 h).1).b]) j f
theorem RI(s:vk)(a:Option Addr)(n c:Nat):Fx.dD (kK s) 18 (.slice a n c)=kK { s with na:=a,nn:=n,nc:=c }:=by
 funext p
 unfold Fx.dD kK;by_cases e:p=18
 ·subst e; rw[d_ rfl,b_ (by omega),b_ (by omega),b_ (by omega),d_ rfl]
 rw[b_ e]
 repeat' split
 all_goals first|rfl|omega
theorem Og(s:vk)(a:Option Addr)(n c:Nat) : ∀ p,p<20->Fx.dD (kK s) 19 (.slice a n c) p=kK { s with ga:=a,gn:=n,gc:=c } p:=fun p b=>by
 unfold Fx.dD kK;by_cases e:p=19
 ·subst e; rw[d_ rfl,b_ (by omega),b_ (by omega),b_ (by omega),b_ (by omega)]
 ·rw[b_ e]
  repeat' split
  all_goals first|rfl|omega
def WH(m:dU)(na:Option Addr)(b nc:Nat)(ga:Option Addr)(a gc:Nat):vk:=⟨m.inn,m.left,m.known,na,b,nc,ga,a,gc⟩
theorem ZB{id par:Int}{R:Nat->Int}{z z2:Nat->Value} : ∀ j,j<1*56->(Fx.aZ z (0*56) 56 (Fx.aZ (Fx.aZ (Fx.aZ z2 0 1 (fun _ => .int .u64 id)) 1 1 (fun _ => .int .u64 par)) 2 54 (Fx.rv .i64 R)) j).oneCell'=true:=fun j a=>by
 rw[show Fx.aZ z (0*56) 56 (Fx.aZ (Fx.aZ (Fx.aZ z2 0 1 (fun _ => .int .u64 id)) 1 1 (fun _ => .int .u64 par)) 2 54 (Fx.rv .i64 R)) j=Fx.aZ (Fx.aZ (Fx.aZ z2 0 1 (fun _ => .int .u64 id)) 1 1 (fun _ => .int .u64 par)) 2 54 (Fx.rv .i64 R) (j-0*56) by unfold Fx.aZ; rw[d_ (by omega)],LU _ (by omega)];exact qj _ _ _ _
theorem ZC{x:Nat->Int}{z:Nat->Value} : ∀ j,j<1*5->(Fx.aZ z (0*5) 5 (jw x) j).oneCell'=true:=fun j a=>by
 unfold Fx.aZ; rw[d_ (by omega)]; exact uH x _
theorem aeS{m:dU}{c:List Nat}{S:Nat->Bool}{w f:World}{b B cap d:Nat}{a:Option Addr}{T:TypeId}(l:Fx.iC w b m.gn (fun i=>m.g i 0) (fun i=>m.g i 1) (uR m.g))(hi:RH m.gn S c)(e:d=c.length)(n:Fx.Own f B T 5 (.slice a d cap) d (Fx.flat 5 fun k=>jw (m.g (c.getD k 0)))) :
 Fx.Own f B T 5 (.slice a (c.map fun i=>Ka (m.g i)).length cap) (c.map fun i=>Ka (m.g i)).length (Fx.flat 5 (XQ (c.map fun i=>Ka (m.g i)))):=by
 have h:=n.congr (y:=Fx.flat 5 (XQ (c.map fun i=>Ka (m.g i)))) (fun j o=>ZA l hi j (by rw[List.length_map,<- e]; exact o));rw[List.length_map,<- e]; exact h
theorem WI(m:dU){z:Nat->Value}(e : ∀ j,18<=j->z j = .slice none 0 0){x1 x2:Nat->Value}(h1 : ∀ j,j<6->x1 j = .bool (m.inn j))(d : ∀ j,j<6->x2 j = .bool (m.left j)) : ∀ j,j<20->Fx.aZ (Fx.aZ (Fx.aZ z 0 6 x1) 6 6 x2) 12 6 (Fx.rv .u64 m.known) j=kK (WH m none 0 0 none 0 0) j:=fun j f=>by
 unfold Fx.aZ kK;by_cases a:j<6
 ·rw[b_ (by omega),b_ (by omega),d_ (by omega),d_ a]; exact h1 _ (by omega)
 ·by_cases b:j<12
  ·rw[b_ (by omega),d_ (by omega),b_ a,d_ b]; exact d _ (by omega)
  ·by_cases c:j<18
   ·rw[d_ (by omega),b_ a,b_ b,d_ c]; rfl
   ·rw[b_ (by omega),b_ (by omega),b_ (by omega),b_ a,b_ b,b_ c,e j (by omega)];split <;> rfl
end Rt
structure StQ(w:World)(B:Nat)(m:dU)(s:vk)(l:List Int)(gl:List JN):Prop where
 inn:s.inn=m.inn
 left:s.left=m.left
 known:s.known=m.known
 nn:s.nn=l.length
 gn:s.gn=gl.length
 ls:l.Pairwise (· < ·) /\ ∀ k,k∈l<->m.T.has k=true
 len:l.length<=32
 gs:GrS m gl
 glb:gl.length<=m.gn
 n:Fx.Own w B 61 56 (.slice s.na s.nn s.nc) s.nn (Fx.flat 56 (WG m l))
 g:Fx.Own w B 66 5 (.slice s.ga s.gn s.gc) s.gn (Fx.flat 5 (XQ gl))
end Go.Proofs.YtahbiajdgealnaaGreatDoor
namespace Go.Proofs.YtahbiajdgealnaaGreatDoor
open Go.RowKit Rt
open Fx (bB Lv sN Ln Ws Wl Rp Wr Wk rV sR Rs Rn Rd Wb Wx Wo EF Wt xY yu Cg qP gX yJ vB wm tO yt Bp rv aA aP aZ aN aW flat Mp aY iC jg aR kX bD cells_one iA bE unseen bP bR bY bZ gJ gL pY)
theorem P5(n:Int)(w:World) :
 Calls Tryz.prog 69 #[au n] w fun e a=>e = .returned (.bool false)/\a=w:=by
 refine Kent Tryz.func69 6 ?_;refine ay<|av aF<|aD<|ay<|av (au n)<|av (au n)<|Lv aF (ko rfl)<|av aF<|aD<|Wr<|aJ aF ?_;exact⟨rfl,rfl⟩
theorem ZE(a b:Int)(w:World) :
 Calls Tryz.prog 46 #[au a,au b] w fun e f=>e = .returned (au (kX a b))/\f=w:=by
 refine Kent Tryz.func46 20 ?_;refine ay<|av (au 0)<|aD<|ay<|av (au a)<|mO (P5 a _) _ rfl<|av aF<|aD<|ay<|av (au b)<|mO (P5 b _) _ rfl<|av aF<|aD<|Ws<|ay<|av aF<|aD<|aK<|Wk<|sN<|Ws<|ay<|av aF<|aD<|aK<|Wk<|sN<|Ws<|ay<|av (au a)<|av (au b) ?_;by_cases c:a<b
 ·refine Lv aG (gN c)<|aD<|aL<|ay<|av (au (-1))<|aD<|Wr<|sR<|aJ (au (-1)) ?_;exact⟨by unfold kX; simp[c],rfl⟩
 refine Lv aF (gP c)<|aD<|aK<|Wk<|sN<|Ws<|ay<|av (au a)<|av (au b) ?_;by_cases d:b<a
 ·refine Lv aG (mK d)<|aD<|aL<|ay<|av (au 1)<|aD<|Wr<|sR<|aJ (au 1) ?_;exact⟨by unfold kX; simp[c,d],rfl⟩
 refine Lv aF (mM d)<|aD<|aK<|Wk<|sN<|ay<|av (au 0)<|aD<|Wr<|aJ (au 0) ?_;exact⟨by unfold kX; simp[c,d],rfl⟩
theorem P6(n:Int)(w:World) :
 Calls Tryz.prog 70 #[aC n] w fun e a=>e = .returned (.bool false)/\a=w:=by
 refine Kent Tryz.func70 6 ?_;refine ay<|av aF<|aD<|ay<|av (aC n)<|av (aC n)<|Lv aF (ko rfl)<|av aF<|aD<|Wr<|aJ aF ?_;exact⟨rfl,rfl⟩
theorem ZF(a b:Int)(w:World) :
 Calls Tryz.prog 47 #[aC a,aC b] w fun e f=>e = .returned (au (kX a b))/\f=w:=by
 refine Kent Tryz.func47 20 ?_;refine ay<|av (au 0)<|aD<|ay<|av (aC a)<|mO (P6 a _) _ rfl<|av aF<|aD<|ay<|av (aC b)<|mO (P6 b _) _ rfl<|av aF<|aD<|Ws<|ay<|av aF<|aD<|aK<|Wk<|sN<|Ws<|ay<|av aF<|aD<|aK<|Wk<|sN<|Ws<|ay<|av (aC a)<|av (aC b) ?_;by_cases c:a<b
 ·refine Lv aG (gN c)<|aD<|aL<|ay<|av (au (-1))<|aD<|Wr<|sR<|aJ (au (-1)) ?_;exact⟨by unfold kX; simp[c],rfl⟩
 refine Lv aF (gP c)<|aD<|aK<|Wk<|sN<|Ws<|ay<|av (aC a)<|av (aC b) ?_;by_cases d:b<a
 ·refine Lv aG (mK d)<|aD<|aL<|ay<|av (au 1)<|aD<|Wr<|sR<|aJ (au 1) ?_;exact⟨by unfold kX; simp[c,d],rfl⟩
 refine Lv aF (mM d)<|aD<|aK<|Wk<|sN<|ay<|av (au 0)<|aD<|Wr<|aJ (au 0) ?_;exact⟨by unfold kX; simp[c,d],rfl⟩
theorem aqx(a b:Int)(c:Nat)(w:World)(q:jg w c 0 2 (orW a b)) :
 Calls Tryz.prog 45 #[bO c 2 2] w fun e s=>e = .returned (au (Si a b))/\s=w:=by
 refine Kent Tryz.func45 18 ?_;refine ay<|av (au 0)<|aD<|ay<|av (au 0)<|aD<|Ws<|ay<|av (bO c 2 2)<|av (au 2)<|av (au 0)<|aD<|Wb<|Wo (fun f p => ∃ i:Nat,i<=2/\(i=0\/a=0)/\(i<2\/Si a b=0)/\p=w/\f 3=au 0/\f 6=bO c 2 2/\f 7=au 2/\f 8=au (i:Int)/\jg p c 0 2 (orW a b)) (fun f _=>(2-intOf (f 8)).toNat) ⟨0,(by omega),(.inl rfl),(.inl (by decide)),rfl,Fx.ic,(by rfl),Fx.ic,Fx.ic,q⟩ ?_;rintro t v ⟨i,u,m,r,l,j,n,k,g,o⟩;refine ay ?_;by_cases h:(i:Int)<2
 ·refine Lv aG (gN h (hx:=g) (hy:=k))<|aD<|Ws<|aL<|Wk<|sN<|Ws<|Wb<|ay<|Lv (pf c i) (dh 1 (hx:=n) (hi:=g))<|Lv (au (Oe a b i)) (aM o i)<|av (au (Oe a b i))<|aD<|ay<|av (au (Oe a b i))<|aT j ?_;by_cases d:(Oe a b i)=0
  ·refine Lv aF (ko d)<|aD<|aK<|Wk<|bR<|sN<|Wl<|Lv (au ((i:Int)+1)) (eU (hx:=g))<|av (au ((i:Int)+1))<|Ln<|gL ⟨i+1,(by omega),(aqt m d),(aqu m d),l,(j.trans Fx.ic),n,(k.trans Fx.ic),Fx.ic,o⟩ ?_;show(2-intOf (au ((i:Int)+1))).toNat<_;simp only[g,intOf]; omega
  refine Lv aG (nN d)<|aD<|aL<|ay<|av (au (Oe a b i))<|av (au (Oe a b i))<|aD<|Wr<|bP<|sR<|pY<|bP<|sR<|aJ (au (Oe a b i)) ?_;exact⟨by rw[aqv m d],l⟩
 refine Lv aF (gP h (hx:=g) (hy:=k))<|aD<|Ws<|aK<|Wx<|bY<|gJ<|bZ<|sN<|ay<|aT j<|av (au 0)<|aD<|Wr<|aJ (au 0) ?_;exact⟨by rw[aqw r h],l⟩
theorem Rt.aeT{w:World}{g:Nat}{a b:Int}{z:Nat->Value}{T:TypeId}(h:aP w g 2 (aZ (aZ z (0*1) 1 (fun _=>au a)) (1*1) 1 (fun _=>au b)) T):jg w g 0 2 (orW a b):=(h.congr (y:=orW a b) fun j c=>by
 rcases(show j=0\/j=1 by omega)with rfl|rfl <;> rfl).aI
theorem aeU(x y:JN)(w:World) :
 Calls Tryz.prog 44 #[.agg (aA 5 (jw x.x)),.agg (aA 5 (jw y.x))] w fun e H=>e = .returned (au (kX (LQ x) (LQ y))) /\ ∃ q C,H=Go.Sort.grow (w.drewN q) C:=by
 refine Kent Tryz.func44 17 ?_;refine ay<|Fx.L.aiu (m:=5) (y:=jw x.x) (by rfl) rfl rfl (bD _ _) rfl fun k V t d D I => ?_;have f:=bF D.old (Below.refl w.heap.size w);refine Fx.L.aiu (m:=5) (y:=jw y.x) (by rfl) rfl rfl (bD _ _) rfl fun l X g n E J => ?_;have⟨B,p⟩:=fF E.old d f;refine av (au 0)<|aD<|Ws ?_;refine Fx.W.aeQ [0,2,5,7,1,3,6,8,4,9,10,11,12] [0,4,0,4,2,0,1,0,1,2,2,3,0] Fx.Mk vB Fx.Mk.trans (fO := [(4,1,[1]),(9,1,[4,1]),(10,1,[4,1]),(11,1,[10,4,1]),(4,3,[3]),(9,3,[4,3]),(10,3,[4,3]),(11,3,[10,4,3]),(11,6,[9,6]),(11,8,[9,8]),(9,4,[4]),(10,4,[4]),(11,4,[10,4]),(12,4,[4]),(10,9,[9]),(11,9,[9]),(12,9,[9]),(11,10,[10]),(12,10,[10]),(12,11,[11])]) (by kernel_rfl) (by kernel_rfl) (by kernel_rfl) (by kernel_rfl) (by kernel_rfl) fun Z z A => ?_;have⟨a,b,r⟩:=jr z B n p;refine bf (pt k)<|bf (pt l)<|bf (pf k 1)<|bf (pf l 1)<|Rs (au (x.x 0)) (aM a.aI 0) ?_;refine Rs (au (y.x 0)) (aM b.aI 0) ?_;refine Rd (v:=aC (x.x 1)) (by rfl) (by rfl) (vB _) (fun G c=>bB (x:=jw x.x) rfl rfl (by kernel_rfl) (a.aI.below c (by have:=a.lt; omega)) (i:=1) (by omega) (by omega) rfl) ?_;refine Rd (v:=aC (y.x 1)) (by rfl) (by rfl) (vB _) (fun G c=>bB (x:=jw y.x) rfl rfl (by kernel_rfl) (b.aI.below c (by have:=b.lt; omega)) (i:=1) (by omega) (by omega) rfl) ?_;refine Dw (mO (ZE (x.x 0) (y.x 0) _) _ rfl (Ln ⟨Below.refl _ _,?_⟩));refine Dw (mO (ZF (x.x 1) (y.x 1) _) _ rfl (Ln ⟨Below.refl _ _,?_⟩));refine Dw<|Fx.L.Zx (vs := [(0,au (kX (x.x 0) (y.x 0))),(1,au (kX (x.x 1) (y.x 1)))]) (s:=1) (zc:=rv .i64 (fun _=>0)) (y:=aZ (aZ (fun j=>(rv .i64 (fun _=>0)) (j % 1)) (0*1) 1 (fun _=>au (kX (x.x 0) (y.x 0)))) (1*1) 1 (fun _=>au (kX (x.x 1) (y.x 1)))) (by rfl) rfl rfl Tryz.underlying88 (by kernel_rfl) (by rfl) (by rfl) (by kernel_rfl) (by rw[aR (off:=0*1) (s:=1) (y:=fun _=>au (kX (x.x 0) (y.x 0))) rfl (cells_one (by rfl)) (by rfl)]; rw[aR (off:=1*1) (s:=1) (y:=fun _=>au (kX (x.x 1) (y.x 1))) rfl (cells_one (by rfl)) (by rfl)]; rfl) rfl fun u Y h o F K => ?_;have⟨Q,R⟩:=vH h a.lt b.lt;refine Ln ⟨F.old,?_⟩;refine gQ<|mO (aqx (kX (x.x 0) (y.x 0)) (kX (x.x 1) (y.x 1)) u _ (aeT o)) _ rfl<|Ln<|bf (au (Si (kX (x.x 0) (y.x 0)) (kX (x.x 1) (y.x 1))))<|bT<|Wr<|aJ (au (Si (kX (x.x 0) (y.x 0)) (kX (x.x 1) (y.x 1)))) ?_;exact⟨by rw[<- aeR],(((((Fx.Zw.refl w).alloc I).alloc J).drew A).alloc K)⟩
theorem aeV{w:World}{B cap:Nat}{a:Option Addr}{l:List JN}(h:Fx.Own w B 66 5 (.slice a l.length cap) l.length (flat 5 (XQ l)))(i:l.length<=1000000) :
 Calls Tryz.prog 43 #[.slice a l.length cap,.func (.func 44) #[] #[]] w fun e b=>e = .returned (.tuple #[]) /\ ∃ c:List JN,c.Perm l/\c.Pairwise (fun x y=>LQ x<=LQ y)/\Fx.Own b B 66 5 (.slice a l.length cap) l.length (flat 5 (XQ c))/\(∀ k,k<w.heap.size->(Value.slice a l.length cap).ownBlock≠some k->b.heap[k]? = w.heap[k]?)/\iA [66] w b/\Below B w b:=by
 have f:=h
 have:=Fx.WE ait (fun d w=>enters_of Tryz.func44 (by kernel_rfl) rfl d w) (by decide) Tryz.isAgg66 Tryz.sizeOf66 (enc:=fun x:JN=>jw x.x) (e0:=g0) (ky:=LQ) (fun x j _=>uH x.x j) f
  (by intro g x y; refine(aeU x y g).mono fun e b h => ?_; exact h) (by omega)
 exact this
theorem ZG{m:dU}{d:List Nat}{S:Nat->Bool}{p w:World}{b B cap c:Nat}{a:Option Addr}(n:iC p b m.gn (fun i=>m.g i 0) (fun i=>m.g i 1) (uR m.g))(hi:RH m.gn S d)(e:c=d.length)(o:Fx.Own w B 66 5 (.slice a c cap) c (flat 5 fun k=>jw (m.g (d.getD k 0))))(q:c<=1000000) :
 Calls Tryz.prog 43 #[.slice a c cap,.func (.func 44) #[] #[]] w fun e f=>e = .returned (.tuple #[]) /\ ∃ h:List JN,h.Perm (d.map fun i=>Ka (m.g i))/\h.Pairwise (fun x y=>LQ x<=LQ y)/\Fx.Own f B 66 5 (.slice a c cap) c (flat 5 (XQ h))/\(∀ k,k<w.heap.size->(Value.slice a c cap).ownBlock≠some k->f.heap[k]? = w.heap[k]?)/\iA [66] w f/\Below B w f:=by
 have j:(d.map fun i=>Ka (m.g i)).length=c:=by rw[List.length_map]; exact e.symm
 have l:=aeV (aeS n hi e o) (by rw[j]; omega);rw[j]at l;exact l
set_option maxHeartbeats 1000000 in
theorem ZH(m:dU)(u B:Nat)(w:World)(h:mh w B u m)(hgn:m.gn<=900000) :
 Calls Tryz.prog 18 #[(pt u)] w fun e w' => ∃ s l gl,e = .returned (.agg (aA 20 (kK s)))/\StQ w' w.heap.size m s l gl/\Below w.heap.size w w':=by
 have hC:=h.c;have hT:=h.t;have hP:=h.p;have hR:=h.r;have hG:=h.g;have hA:=h.a;refine Kent Tryz.func18 72 ?_;refine ay<|Cg (m:=20) (y:=fun d=>if d<12 then .bool false else if d<18 then aC 0 else .slice none 0 0) (by rfl) rfl (by kernel_rfl) rfl fun D w1 lN m1 s1 z1 => ?_;have⟨m2,m3,m4,m5,m6,m7,b1⟩:=jM s1.old hC hT hP hR hG hA (Below.refl w.heap.size w);have⟨nI,za,xX,BQ,Am⟩:=Ee lN hC.lt hP.lt hR.lt hG.lt hA.lt;refine aD<|Ws<|ay<|av (pt u)<|Lv aF (Fx.uh rfl rfl rfl (by kernel_rfl))<|aD<|aK<|Wk<|sN<|Ws ?_;refine Wt 13 (by kernel_rfl) (by kernel_rfl) fun rG dZ iJ => ?_;have⟨m8,m9,m10,m11,m12,m13,m14,b2⟩:=kW dZ m2 m3 m4 m5 m6 m7 m1 b1;refine Fp (pt u)<|Fp (pt u)<|Fp (pt u)<|qP (.agg (aA 6 (fun j => .bool (m.inn j)))) (fJ m8.aI 0 (fun j J=>by rw[G_]; exact CU J))<|Fp (pt u)<|Fp (pt u)<|Fp (pf u 6)<|qP (.agg (aA 6 (fun j => .bool (m.left j)))) (fJ m8.aI 6 (fun j J=>BO (p:=j) J (by omega)))<|Fp (pt u)<|Fp (pt u)<|Fp (pf u 12)<|qP (.agg (aA 6 (rv .u64 m.known))) (fJ m8.aI 12 (fun j J=>rY (p:=j) (by omega) (by omega)))<|Fp (.agg (aA 20 (aZ (aZ (aZ (fun d=>if d<12 then .bool false else if d<18 then aC 0 else .slice none 0 0) 0 6 (fun j => .bool (m.inn j))) 6 6 (fun j => .bool (m.left j))) 12 6 (rv .u64 m.known))))<|Fx.St.nil ?_;refine fq m14 0 (h1:=(bE (bE (bE (fun jq _=>by show((fun d=>if d<12 then .bool false else if d<18 then aC 0 else .slice none 0 0:Nat->Value) jq).oneCell'=true; simp only[]; repeat (first|rfl|split)) (fun _ _=>rfl)) (fun _ _=>rfl)) (fun _ _=>rfl))) fun V m15 s3 z2 => ?_
 have m16:=aW m15;have m17:=m16.congr (WI m (fun j J=>by show(if j<12 then _ else if j<18 then _ else _)=_; rw[b_ (by omega),b_ (by omega)]) (fun _ _=>rfl) (fun _ _=>rfl));have gD:=gX s3 m14.ty;have⟨m18,m19,m20,m21,m22,m23⟩:=SS gD m8 m9 m10 m11 m12 m13;have b3:=s3.below b2 b2.size (by omega);refine aD<|Ws<|ay<|av (pt u)<|av (pt u)<|av (pf u 18)<|Lv (pt m.tp) (aM m18.aI 18)<|lU (Uu m19) ?_;rintro e9 w3 ⟨la1,N,b,he,m24,hq1,aii,hb1⟩;refine⟨_,he,?_⟩;clear he;have⟨nP,oG,nY,nZ,oH,pG,nA,b4⟩:=kW hb1 m18 m19 m20 m21 m22 m23 m17 b3;refine av (au b.length)<|av (au 0)<|aD<|Wb ?_;have m32:Fx.Own w3 w.heap.size 61 56 (.slice none 0 0) 0 (flat 56 (WG m b)):=tO _ _ _ _ _;have kll:=aii;refine Wo (fun f A => ∃ i:Nat,∃ E:Option Addr,∃ F:Nat,i<=b.length/\f 0=(pt u)/\f 2=(pt D)/\f 27 = .slice la1 (b.length) (N)/\f 28=au (b.length:Int)/\f 29=au (i:Int)/\aP A u 29 (vY m) 106/\sP A B m.tp m.mb m.T/\Mp A m.pb m.T.n m.T.x (Ev m.T)/\Mp A m.rb m.T.n m.T.x (xI m.R)/\iC A m.gb m.gn (fun i=>m.g i 0) (fun i=>m.g i 1) (uR m.g)/\iC A m.ab m.an m.ao m.ar Ew/\Fx.Own A V.heap.size 28 1 (.slice la1 (b.length) (N)) b.length (yw b)/\aP A D 20 (kK (WH m E i F none 0 0)) 53/\Fx.Own A w.heap.size 61 56 (.slice E (i) (F)) i (flat 56 (WG m b))/\Below w.heap.size w A) (fun f _=>((b.length:Int)-intOf (f 29)).toNat) ⟨0,none,0,(by omega),(by rfl),(by rfl),(by rfl),Fx.ic,Fx.ic,nP,oG,nY,nZ,oH,pG,m24,nA,m32,b4⟩ ?_;rintro f1 w4 ⟨i,E,F,hi,P,h2,h3,h4,Q,qg,oO,qh,qH,nS,rU,pV,sJ,nJ,b5⟩;refine ay ?_;by_cases c30:(i:Int)<(b.length:Int)
 ·refine Lv aG (gN c30 (hx:=Q) (hy:=h4))<|aD<|Ws<|aL<|Wk<|sN<|Ws<|Wb<|ay ?_;obtain⟨DL,eq1⟩:=pV.addr (by omega);have mJ:Fx.Own w4 V.heap.size 28 1 (bO DL b.length N) b.length (yw b):=pV.eH (L_ (fun q=>Value.slice q b.length N) eq1);refine Lv (pf DL i) (dh 1 (hx:=(h3.trans (L_ (fun q=>Value.slice q (b.length) (N)) eq1))) (hi:=Q))<|Lv (aC (b.getD i 0)) (aM mJ.aI i)<|av (aC (b.getD i 0))<|aD ?_;obtain⟨I,hjz,aa⟩:=gT ((hq1.2 _).1 (vK (show i<b.length by omega) rfl));have ejx:EA m (b.getD i 0)=m.R I:=by unfold EA dU.idx; rw[mZ h.t.inv.inj hjz aa]
  have ejp:m.T.par (b.getD i 0)=m.T.p I:=Bu h.t.inv.inj hjz aa;refine Bp [0,2,3,4,5,7,9,10,11,13,1,6,8,12,14,15,16,17,18,19] [0,1,0,0,0,0,4,0,4,0,0,0,4,0,4,0,2,2,0,3] (iA [61]) wm Fx.iA.trans (fO := [(19,1,[1]),(16,6,[15,8,6]),(17,6,[16,15,8,6]),(19,6,[6]),(16,8,[15,8]),(17,8,[16,15,8]),(19,8,[8]),(16,12,[15,14,12]),(17,12,[16,15,14,12]),(19,12,[12]),(16,14,[15,14]),(17,14,[16,15,14]),(19,14,[14]),(17,16,[16]),(18,16,[16]),(19,16,[16]),(18,17,[17]),(19,17,[17])]) (by kernel_rfl) (by kernel_rfl) (by kernel_rfl) (by kernel_rfl) (by kernel_rfl) fun Dx gI nX => ?_;have⟨nC,sK,rJ,og,qV,wT,tV,rW,wu,b6⟩:=vG gI qg oO qh qH nS rU sJ nJ mJ b5;refine Rp (pf D 18) (fun _=>iZ h2 18)<|bf (aC (b.getD i 0))<|bW P<|bf (pt u)<|bf (pf u 19)<|bf (aC (b.getD i 0))<|bW P<|bf (pt u)<|bf (pf u 20)<|bf (aC (b.getD i 0))<|Rd (v := .slice E (i) (F)) (by rfl) (by rfl) (wm _) (fun v1 hv1=>bB (x:=kK (WH m E i F none 0 0)) rfl rfl (by kernel_rfl) (tV.kV hv1 (by decide)).aI (i:=18) (by omega) (by omega) rfl) ?_;refine Rs (.map (some m.pb)) (aM nC.aI 19) ?_;refine Rs (aC (m.T.p I)) (Fx.wO (z:=aC 0) rfl rfl rfl rJ Tryz.underlying100 Tryz.underlying28 (by rfl) hjz aa rfl) ?_;refine Rs (.map (some m.rb)) (aM nC.aI 20) ?_;refine Rs (.agg (aA 54 (rv .i64 (m.R I)))) (Fx.wO (z := .agg (aA 54 (rv .i64 (fun _=>0)))) rfl rfl rfl og Tryz.underlying101 Tryz.underlying28 (by kernel_rfl) hjz aa rfl) ?_;refine bf (.agg (aA 56 (aZ (aZ (aZ (fun d=>if d<2 then aC 0 else au 0) 0 1 (fun _=>aC (b.getD i 0))) 1 1 (fun _=>aC (m.T.p I))) 2 54 (rv .i64 (m.R I)))))<|Dw<|xY (vs := [(0,.agg (aA 56 (aZ (aZ (aZ (fun d=>if d<2 then aC 0 else au 0) 0 1 (fun _=>aC (b.getD i 0))) 1 1 (fun _=>aC (m.T.p I))) 2 54 (rv .i64 (m.R I)))))]) (s:=56) (zc:=fun d=>if d<2 then aC 0 else au 0) (y:=aZ (fun j=>(fun d=>if d<2 then aC 0 else au 0) (j % 56)) (0*56) 56 (aZ (aZ (aZ (fun d=>if d<2 then aC 0 else au 0) 0 1 (fun _=>aC (b.getD i 0))) 1 1 (fun _=>aC (m.T.p I))) 2 54 (rv .i64 (m.R I)))) (by rfl) rfl rfl Tryz.underlying50 (by kernel_rfl) (by rfl) (by rfl) (by kernel_rfl) (by rw[aR (off:=0*56) (s:=56) (y:=aZ (aZ (aZ (fun d=>if d<2 then aC 0 else au 0) 0 1 (fun _=>aC (b.getD i 0))) 1 1 (fun _=>aC (m.T.p I))) 2 54 (rv .i64 (m.R I))) rfl (bD _ _) (by rfl)]; rfl) rfl fun g2 w5 Y uX s6 z3 => ?_;have⟨uN,vL,wz,uw,uy,uz,wU,qI,vM,b7⟩:=vG s6.old nC sK rJ og qV wT tV rW wu b6;have qW:=iT Y b6.size;have⟨aqy,adB,adC,aqz,aqA,adD⟩:=Je Y nC.lt rJ.lt og.lt qV.lt wT.lt tV.lt;have aqB:(.slice E (i) (F):Value).ownBlock≠some g2:=by rw[Y]; exact rW.jo (A_ _)
  have aqC:=cu Y wu.lt;have zY:=uX.lt;refine Ln ⟨Fx.iA.of_below s6.old,?_⟩;refine Dw<|yu (B:=w.heap.size) (s:=56) (bytes:=448) (k:=i) (m:=1) (v := .slice E (i) (F)) (x:=flat 56 (WG m b)) (by rfl) rfl rfl rfl Tryz.underlying50 (by kernel_rfl) (by kernel_rfl) rfl rfl qI uX.aI ZB (by omega) (by omega) (by omega) b7.size fun g3 W w6 ho1 hg1 sH hlt1 => ?_;have jv:=yJ hg1 qI;have⟨tX,m64,wV,wB,wW,wX,sM,uY⟩:=abR jv uN vL wz uw uy uz wU vM;have oh:Fx.Own w6 w.heap.size 61 56 (bO g3 (i+1) W) (i+1) (flat 56 (WG m b)):=(ho1.congr (fun j J=>Zy rfl ejp ejx j J));have b8:Below w.heap.size w w6:=yt b7 hg1 b7.size (fun q hq=>(qI.ge hq).1);refine Ln ⟨jv,?_⟩;refine Rp (pf D 18) (fun _=>iZ h2 18)<|gQ<|jh sM 18 (bO g3 (i+1) W) fun w7 uD s7 z4 => ?_;have wC:aP w7 D 20 (kK (WH m (some ⟨g3,0,none⟩) (i+1) W none 0 0)) 53:=uD.to (RI _ _ _ _);have qc:=gX s7 sM.ty;have⟨uZ,yx,wD,yA,yB,yC,wY,wE⟩:=abR qc tX m64 wV wB wW wX uY oh;have b9:=s7.below b8 b8.size (by omega);refine Ln<|Rn<|bR<|sN<|Wl<|Lv (au ((i:Int)+1)) (eU (hx:=Q))<|av (au ((i:Int)+1))<|Ln ?_;have vg:Fx.Own w7 V.heap.size 28 1 (.slice la1 (b.length) (N)) b.length (yw b):=wY.eH (L_ (fun q=>Value.slice q b.length N) eq1.symm)
  skip
  refine gL ⟨i+1,(some ⟨g3,0,none⟩),W,(by omega),P,h2,h3,(h4.trans Fx.ic),Fx.ic,uZ,yx,wD,yA,yB,yC,vg,wC,wE,b9⟩ ?_;show((b.length:Int)-intOf (au ((i:Int)+1))).toNat<_;simp only[Q,intOf]; omega
 refine Lv aF (gP c30 (hx:=Q) (hy:=h4))<|aD<|Ws<|aK<|Wx<|bY<|gJ<|bZ<|sN<|Ws<|ay<|aT P<|av (pt u)<|av (pf u 27)<|Lv (.map (some m.gb)) (aM qg.aI 27)<|Fx.L.abW (by rfl) rfl rfl rfl nS Tryz.underlying102 fun g4 w8 GQ vN s8 z5 => ?_;have⟨zX,Al,Dz,b10⟩:=nO s8.old nS sJ nJ b5;have Rc:=iT GQ b5.size;have Rf:=vN.lt;refine aD<|Wb ?_;have Cc:Fx.Own w8 w.heap.size 66 5 (.slice none 0 0) 0 (flat 5 (fun k=>jw (m.g (([]:List Nat).getD k 0)))):=tO _ _ _ _ _;refine EF (fun kE f A => ∃ S:Nat->Bool,∃ kk:Nat,∃ K:List Nat,∃ o:Nat,∃ G:Option Addr,∃ H:Nat,kk=unseen S m.gn/\kk=kE/\RH m.gn S K/\o=K.length/\f 2=(pt D)/\f 57=(pt g4)/\iC A m.gb m.gn (fun i=>m.g i 0) (fun i=>m.g i 1) (uR m.g)/\Fx.Own A w.heap.size 61 56 (.slice E (i) (F)) i (flat 56 (WG m b))/\aP A D 20 (kK (WH m E i F G o H)) 53/\Fx.Own A w.heap.size 66 5 (.slice G (o) (H)) o (flat 5 (fun k=>jw (m.g (K.getD k 0))))/\Fx.It A g4 m.gb m.gn S/\Below w.heap.size w A) (unseen (fun _=>false) m.gn) ⟨(fun _=>false),(unseen (fun _=>false) m.gn),[],0,none,0,rfl,rfl,(RH.start _),rfl,h2,(by rfl),zX,Dz,Al,Cc,vN,b10⟩ ?_;rintro kE f2 w9 ⟨S,kk,K,o,G,H,hkk,hkE,U,hgl,M,h7,Ao,Bg,yE,DJ,Ce,b11⟩;refine ay<|Fx.L.agl (by rfl) rfl rfl h7 Ao Ce (fun sO => ?_)<|fun C sI hi1 hS1 DK mc1 s9 z6 => ?_
 ·skip
  refine av aF<|aD<|Ws<|aK<|Wx<|bY<|gJ<|bZ<|sN<|Ws ?_;have eL:(K.map fun i=>Ka (m.g i)).length=o:=by rw[List.length_map]; exact hgl.symm
  have aqD:=U.len;refine Wl<|Lv (pf D 19) (iZ M 19)<|Lv (.slice G (o) (H)) (aM yE.aI 19)<|dQ (ZG h.g U hgl DJ (by omega)) _ rfl ?_;rintro xU ⟨gl,hpm,hup,Eo,_,yQ,hb2⟩;have b12:=b11.trans hb2;have⟨uO,xB⟩:=Bt yQ Bg yE;have atN:=xB.lt;refine aD<|ay<|Lv (.agg (aA 20 (kK (WH m E i F G o H)))) (fJ xB.aI 0 (ha:=M))<|fq xB 0 (ha:=M) (h1:=(fun j _=>Jq _ j)) fun Dy uP s10 z7 => ?_;have rM:aP Dy D 20 (kK (WH m E i F G o H)) 53:=aW uP;have zU:=gX s10 xB.ty;have⟨ou,pK⟩:=Bt zU uO Eo;have b13:=s10.below b12 b12.size (by omega);refine aD (Wr (⟨.agg (aA 20 (kK (WH m E i F G o H))),rV Tryz.results18 ⟨_,M,aY rM.aI (by kernel_rfl) (by kernel_rfl)⟩,?_⟩));have eil:i=b.length:=by omega
  have egl:o=gl.length:=by rw[hpm.length_eq,eL]
  exact⟨WH m E i F G o H,b,gl,rfl,{ inn:=rfl,left:=rfl,known:=rfl,nn:=eil,gn:=egl,ls:=hq1,len:=kll,gs:=GrS.of h.g U sO hpm hup,glb:=by omega,n:=ou,g:=pK },b13⟩
 skip
 have hcm1:=Ce.Cj s9;have oJ:=Ao.dW hcm1 (Ce.rb.symm);have ql:=Bg.dW hcm1;have qM:=yE.dW hcm1;have tZ:=DJ.dW hcm1;have b14:=s9.below b11 b11.size (by omega);refine av aG<|aD<|Ws<|aL<|Wk<|sN<|Wb<|ay<|Lv (.tuple #[Fx.kS (m.g C 0) (m.g C 1),.agg (aA 5 (jw (m.g C)))]) (Fx.Tf (k1:=fun i=>m.g i 0) (k2:=fun i=>m.g i 1) (val:=uR m.g) (i:=C) rfl h7 oJ mc1 hi1)<|av (.agg (aA 5 (jw (m.g C))))<|uW 5 (fun d=>if d<1 then au 0 else if d<3 then aC 0 else if d<4 then au 0 else aC 0) fun g5 EI eg5 qm s11 z8 => ?_;have⟨sZ,xZ,uf,yc,vR,b15⟩:=tT s11.old oJ ql qM tZ DK b14;have WA:=iT eg5 b14.size;have⟨akE,akF⟩:=vH eg5 oJ.lt qM.lt;have P7:(.slice G (o) (H):Value).ownBlock≠some g5:=by rw[eg5]; exact tZ.jo (A_ _)
 have tg5:=qm.lt;refine fq qm 0 (h1:=(fun j _=>uH _ j)) fun MG tu s12 z9 => ?_;have pO:aP MG g5 5 (jw (m.g C)) 66:=aW tu;have zV:=gX s12 qm.ty;have⟨xC,xD,tC⟩:=Ec zV sZ xZ uf;have AO:=yc.cZ s12 P7;have Cw:=jT zV vR;have b16:=s12.below b15 b15.size (by omega);refine aD ?_;have aqD:=U.len;have hgn1:o<=m.gn:=by omega
 refine Wl<|Lv (pf D 19) (iZ M 19)<|Lv (.slice G (o) (H)) (aM tC.aI 19)<|Lv (.agg (aA 5 (jw (m.g C)))) (fJ pO.aI 0)<|xY (vs := [(0,.agg (aA 5 (jw (m.g C))))]) (s:=5) (zc:=fun d=>if d<1 then au 0 else if d<3 then aC 0 else if d<4 then au 0 else aC 0) (y:=aZ (fun j=>(fun d=>if d<1 then au 0 else if d<3 then aC 0 else if d<4 then au 0 else aC 0) (j % 5)) (0*5) 5 (jw (m.g C))) (by rfl) rfl rfl Tryz.underlying51 (by kernel_rfl) (by rfl) (by rfl) (by kernel_rfl) (by rw[aR (off:=0*5) (s:=5) (y:=jw (m.g C)) rfl (bD _ _) (by rfl)]; rfl) rfl fun g6 KJ Z zZ s13 z10 => ?_;have⟨Cx,Es,AP,yV,FU,GR,b17⟩:=jM s13.old xC xD tC AO Cw pO b16;have lg6:=iT Z b16.size;have⟨akG,akH⟩:=vH Z xC.lt tC.lt;have akI:(.slice G (o) (H):Value).ownBlock≠some g6:=by rw[Z]; exact AO.jo (A_ _)
 have akJ:=cu Z pO.lt;have tg6:=zZ.lt;refine yu (B:=w.heap.size) (s:=5) (bytes:=40) (k:=o) (m:=1) (v := .slice G (o) (H)) (x:=flat 5 (fun k=>jw (m.g (K.getD k 0)))) (by rfl) rfl rfl rfl Tryz.underlying51 (by kernel_rfl) (by kernel_rfl) rfl rfl yV zZ.aI ZC (by omega) (by omega) (by omega) b17.size fun O X w16 ho2 hg2 Nq hlt2 => ?_;have BH:=yJ hg2 yV;have⟨CB,Et,Eu,AQ⟩:=Kn BH Cx Es AP FU;have akK:g5≠O:=fun e=>Nq.elim (fun e2=>P7 (by rw[e]; exact e2)) (fun e2=>by have:=GR.lt; omega);have Cy:Fx.Own w16 w.heap.size 66 5 (bO O (o+1) X) (o+1) (flat 5 (fun k=>jw (m.g ((K ++ [C]).getD k 0)))):=(ho2.congr (fun j J=>by rw[hgl]at J ⊢; exact Zz j J));have b18:Below w.heap.size w w16:=yt b17 hg2 b17.size (fun q hq=>(yV.ge hq).1);refine Lv (pf D 19) (iZ M 19)<|jh Eu 19 (bO O (o+1) X) fun TR AU Ej z11 => ?_;have CO:aP TR D 20 (kK (WH m E i F (some ⟨O,0,none⟩) (o+1) X)) 53:=AU.congr (Og _ _ _ _);have FI:=gX Ej Eu.ty;have⟨CG,yg,yX,BI⟩:=Kn FI CB Et AQ Cy;have b19:=Ej.below b18 b18.size (by omega);refine Ln<|bR ?_
 skip
 refine gL ⟨unseen (aN S C true) m.gn,(by have P:=Fx.pE hS1 m.gn hi1; omega),(aN S C true),(unseen (aN S C true) m.gn),(K ++ [C]),o+1,(some ⟨O,0,none⟩),X,rfl,rfl,(U.step hi1 hS1),(by rw[E_,<- hgl]; rfl),M,h7,CG,yg,CO,BI,yX,b19⟩ (by decide)
end Go.Proofs.YtahbiajdgealnaaGreatDoor
namespace Go.Proofs.YtahbiajdgealnaaGreatDoor
open Go.RowKit Go
namespace Rt
section
variable {f:(Nat->Int)->(Nat->Int) × Int} {idx:Nat->Nat} {R:Nat->Nat->Int} {r r':Nat->Nat->Int} {n K k:Nat}
theorem D5 : ∀ {n:Nat},(∀ i,i<n->r i=r' i)->jR f r n=jR f r' n
 | 0,_=>rfl
 | n+1,h=>by unfold jR; rw[D5 (n:=n) fun i a=>h i (by omega),h n (by omega)]
theorem Gf : ∀ {K:Nat},(∀ i j,i<K->j<K->idx i=idx j->i=j)->(dn f idx R K).2=jR f (fun i=>R (idx i)) K/\((dn f idx R K).2=0 -> ∀ k,(dn f idx R K).1 k=R k/\(∀ i,i<K->idx i≠k)\/(dn f idx R K).1 k=(f (R k)).1 /\ ∃ i,i<K/\idx i=k)
 | 0,_=>⟨rfl,fun _ k => .inl ⟨rfl,fun _ h=>M_ h (z_ _)⟩⟩
 | K+1,hi=>by
   obtain⟨q,r⟩:=Gf (K:=K) fun i j a b=>hi i j (by omega) (by omega);unfold jR;rw[<- q];by_cases c:(dn f idx R K).2=0
   ·have n:=r c;have p:(dn f idx R K).1 (idx K)=R (idx K):=by
     rcases n (idx K)with h|⟨_,i,d,g⟩
     ·exact h.1
     ·have:=hi i K (by omega) (by omega) g; omega
    rw[d_ c];have e:dn f idx R (K+1)=(if(f ((dn f idx R K).1 (idx K))).2=0 then(aH (dn f idx R K).1 (idx K) (f ((dn f idx R K).1 (idx K))).1,0)else((dn f idx R K).1,(f ((dn f idx R K).1 (idx K))).2)):=(by show(if _ then _ else _)=_; rw[d_ c]);rw[e,p];by_cases l:(f (R (idx K))).2=0
    ·rw[d_ l];refine⟨l.symm,fun _ k => ?_⟩;show aH (dn f idx R K).1 (idx K) _ k=R k/\_\/aH (dn f idx R K).1 (idx K) _ k=(f (R k)).1/\_;unfold aH;by_cases e:k=idx K
     ·subst e; rw[d_ rfl]; exact .inr ⟨rfl,K,by omega,rfl⟩
     ·rw[b_ e]
      rcases n k with ⟨d,g⟩|⟨d,i,g,h5⟩
      ·refine .inl ⟨d,fun i s m => ?_⟩;by_cases o:i=K
       ·subst o; exact e m.symm
       ·exact g i (by omega) m
      ·exact .inr ⟨d,i,by omega,h5⟩
    ·rw[b_ l]; exact⟨rfl,fun h=>M_ h l⟩
   ·rw[b_ c];have e:dn f idx R (K+1)=dn f idx R K:=(by show(if _ then _ else _)=_; rw[b_ c]);rw[e];exact⟨rfl,fun h=>M_ h c⟩
end
structure Dc(T:dN)(L:fI):Prop where
 has : ∀ k,T.has k=true <-> ∃ i,i<L.nn/\L.id i=k
 n:T.n=L.nn
 par : ∀ i,i<L.nn->T.par (L.id i)=L.par i
section
variable {T:dN} {L:fI} {N:Nat} {x:Int}
theorem Dc.find(h:Dc T L)(b:Inv0 L N)(x:Int):T.has x=true<->0<=bG L.t L.tn x:=by
 rw[h.has,iG,b.CP];constructor
 ·rintro ⟨i,a,e⟩; exact⟨i,a,by rw[(b.tid i a).1]; exact e⟩
 rintro ⟨i,a,e⟩; exact⟨i,a,by rw[<- (b.tid i a).1]; exact e⟩
theorem Dc.findF(h:Dc T L)(a:Inv0 L N)(x:Int):T.has x=false<->bG L.t L.tn x<0:=by
 have:=h.find a x
 cases e:T.has x with
 | false=>rw[e]at this; exact⟨fun _=>by rcases ilt (bG L.t L.tn x)with h1|h1; exact h1; exact M_ (this.2 h1) (by decide),fun _=>rfl⟩
 | true=>rw[e]at this; have:=this.1 rfl; exact⟨fun h=>(nomatch h),fun h=>by omega⟩
theorem Inv0.at(c:Inv0 L N){i:Nat}(hi:i<L.nn):L.node (L.id i)=(i:Int):=by
 rw[c.node,<- (c.tid i hi).1];exact vW (fun a b d f e=>c.ahG a b d f e) (by rw[c.CP]; exact hi)
theorem Dc.next(h:Dc T L)(a:Inv0 L N)(hx:T.has x=true):T.par x=L.t (bG L.t L.tn x).toNat 1:=by
 obtain⟨i,b,rfl⟩:=(h.has x).1 hx;have e:=a.at b;rw[a.node]at e;rw[e,h.par i b];exact((a.tid i b).2).symm
theorem Dc.path(h:Dc T L)(f:T.ok)(a:Inv0 L N)(x:Int):(T.path x).length=fG L.t L.tn x /\ ∀ q,q<(T.path x).length->(T.path x).getD q 0=bI L.t L.tn q x:=by
 have g : ∀ q,q<(T.path x).length->T.has ((T.path x).getD q 0)=true/\(q+1<(T.path x).length->(T.path x).getD (q+1) 0=T.par ((T.path x).getD q 0))/\(q+1=(T.path x).length->T.has (T.par ((T.path x).getD q 0))=false):=rZ (f.stop x);have j : ∀ q,q<(T.path x).length->(T.path x).getD q 0=bI L.t L.tn q x:=by
  intro q
  induction q with
  | zero =>
    intro b
    cases hx:T.has x with
    | false=>rw[show T.path x = []from kZ hx]at b; exact M_ b (z_ _)
    | true=>rw[dN.step f hx]; rfl
  | succ q ih =>
    intro b;have l:=ih (by omega);have c:=(g q (by show q<(T.path x).length; omega));have e:=c.2.1 b;show(T.path x).getD (q+1) 0=L.t (bG L.t L.tn (bI L.t L.tn q x)).toNat 1;rw[<- l,<- h.next a c.1]
    exact e
 refine⟨?_,j⟩;obtain⟨D,n,m⟩:=a.dep x;refine vS (D:=D) (fun i k => ?_) ?_ m (by omega)
 ·rw[<- j i k,<- h.find a]; exact(g i k).1
 by_cases d:(T.path x).length=0
 ·rw[d];show bG L.t L.tn x<0;rw[<- h.findF a]
  cases hx:T.has x with
  | false=>rfl
  | true=>rw[dN.step f hx]at d; simp at d
 obtain⟨q,b⟩ : ∃ q,(T.path x).length=q+1:=⟨(T.path x).length-1,by omega⟩;have c:=g q (by show q<(T.path x).length; omega);have e:=c.2.2 (by show q+1=(T.path x).length; omega);rw[b];show bG L.t L.tn (L.t (bG L.t L.tn (bI L.t L.tn q x)).toNat 1)<0;rw[<- j q (by omega),<- h.next a c.1,<- h.findF a]
 exact e
theorem ZI(d:Inv0 L N)(x:Int):bG L.t L.tn (bI L.t L.tn (fG L.t L.tn x) x)<0:=by
 obtain⟨D,e,b⟩:=d.dep x;obtain⟨K,f,a,c⟩:=vX D b;rw[<- vS c a b (by omega)]; exact a
theorem Dc.mem(h:Dc T L)(f:T.ok)(d:Inv0 L N)(x y:Int):y∈T.path x <-> ∃ i,i<fG L.t L.tn x/\bI L.t L.tn i x=y:=by
 obtain⟨c,b⟩:=h.path f d x;rw[<- c];constructor
 ·intro g;obtain⟨i,a,e⟩:=List.getElem_of_mem g;refine⟨i,a,?_⟩;rw[<- b i a,r_,o_ a]; exact e
 rintro ⟨i,a,rfl⟩;rw[<- b i a,r_,o_ a]; exact R_ a
theorem Dc.err(h:Dc T L)(l:T.ok)(a:Inv0 L N)(id pa:Int):T.err id pa=jF L.t L.tn id pa:=by
 unfold dN.err rH jF;by_cases c:id=0
 ·rw[d_ c,d_ c]
 rw[b_ c,b_ c];by_cases d:dR T.x T.n id=true
 ·rw[d_ d,d_ ((h.find a id).1 d)]
 rw[b_ d,b_ (fun e=>d ((h.find a id).2 e))];have j:(¬ pa=0/\dR T.x T.n pa=false)<->(pa≠0/\bG L.t L.tn pa<0):=by
  rw[<- h.findF a]; exact Iff.rfl
 by_cases f : ¬ pa=0/\dR T.x T.n pa=false
 ·rw[d_ f,d_ (j.1 f)]
 rw[b_ f,b_ (fun e=>f (j.2 e))];have k:(32<=T.n\/4<=(jE T.x T.p T.n 4 pa).length)<->(32<=L.tn\/DI L.t L.tn pa):=by
  obtain⟨q,r⟩:=h.path l a pa;have:4<=(T.path pa).length<->DI L.t L.tn pa:=by
   constructor
   ·intro s i u;have b:=(rZ (l.stop pa)) i (by show i<(T.path pa).length; omega);rw[<- r i (by omega),<- h.find a]; exact b.1
   ·intro o
    rcases Nat.lt_or_ge (T.path pa).length 4 with b|b
    ·exfalso;have m:=o _ b;rw[q]at m;have:=ZI a pa;omega
    ·exact b
  show(32<=T.n\/4<=(T.path pa).length)<->_;rw[this,h.n,a.CP]
 by_cases g:32<=T.n\/4<=(jE T.x T.p T.n 4 pa).length
 ·rw[d_ g,d_ (k.1 g)]
 rw[b_ g,b_ (fun e=>g (k.2 e))]
end
end Rt
namespace Rt
section
variable {m:dU} {k:Int} {i:Nat}
theorem dU.D6(b:m.T.ok)(c:m.T.has k=true):m.idx k<m.T.n/\m.T.x (m.idx k)=k:=by
 obtain⟨j,a,e⟩:=gT c;have:m.idx k=j:=mZ b.inj a e;rw[this]; exact⟨a,e⟩
theorem LV(x:Nat->Int)(id:Int) : ∀ n,(∀ i,i<n->x i≠id)->Ac (Fx.aN x n id) (n+1) id=n:=fun n _=>by
 unfold Ac;rw[d_];unfold Fx.aN;rw[d_ rfl]
theorem IB{x y:Nat->Int}{k:Int} : ∀ {n:Nat},(∀ i,i<n->x i=y i)->Ac x n k=Ac y n k
 | 0,_=>rfl
 | n+1,h=>by unfold Ac; rw[h n (by omega),IB (n:=n) fun i a=>h i (by omega)]
theorem LW(x:Nat->Int){id k:Int}(n:Nat)(b:id≠k):Ac (Fx.aN x n id) (n+1) k=Ac x n k:=by
 have a:Fx.aN x n id n=id:=by unfold Fx.aN; rw[d_ rfl]
 show(if Fx.aN x n id n=k then n else Ac (Fx.aN x n id) n k)=_;rw[a,b_ b];exact IB fun i c=>by unfold Fx.aN; rw[b_ (by omega)]
theorem IC{f g:Nat->Int}{o:Int} : ∀ {n:Nat},(∀ i,i<n->f i=g i)->oq f o n=oq g o n
 | 0,_=>rfl
 | n+1,h=>by unfold oq; rw[IC (n:=n) fun i a=>h i (by omega),h n (by omega)]
theorem LX{f:Nat->Int}{o v:Int}{k:Nat} : ∀ n,k<=n->oq (Fx.cO f k v) o (n+1)=oq f o n+if v / 1099511627776=o then 1 else 0
 | 0,h=>by
   obtain rfl:k=0:=(by omega);show 0+(if Fx.cO f 0 v 0 / 1099511627776=o then 1 else 0)=0+_;rw[dK]
 | n+1,h=>by
   by_cases e:k=n+1
   ·subst e;show oq (Fx.cO f (n+1) v) o (n+1)+(if Fx.cO f (n+1) v (n+1) / 1099511627776=o then 1 else 0)=_;rw[dK,IC (g:=f) fun i a=>EO a]
   ·show oq (Fx.cO f k v) o (n+1)+(if Fx.cO f k v (n+1) / 1099511627776=o then 1 else 0)=oq f o n+(if f n / 1099511627776=o then 1 else 0)+_;rw[LX n (by omega),EP (by omega)];show _+(if f n / 1099511627776=o then 1 else 0)=_;omega
theorem P8{f:Nat->Int}{o:Int} : ∀ n,oq f o n<=n
 | 0=>A_ _
 | n+1=>by have:=P8 (f:=f) (o:=o) n; unfold oq; split <;> omega
theorem Df{P:Nat->Bool}{n:Nat}:0<=fU P n <-> ∃ j,j<n/\P j=true:=by
 rcases je P n with ⟨k,c,e,a⟩|⟨e,h⟩
 ·rw[e]; exact⟨fun _=>⟨k,c,a⟩,fun _=>by omega⟩
 rw[e]; exact⟨fun h=>by omega,fun⟨j,b,a⟩=>by rw[h j b]at a; cases a⟩
end
structure gF(m:dU)(L:fI):Prop where
 T:Dc m.T L
 inn:m.inn=L.inn
 left:m.left=L.left
 known:m.known=L.known
 row : ∀ i,i<L.nn->EA m (L.id i)=L.R i
 own : ∀ a,a<6->m.own a=((oq L.id ((a:Int)+1) L.nn:Nat):Int)
 gi : ∀ i j,i<m.gn->j<m.gn->m.g i 0=m.g j 0->m.g i 1=m.g j 1->i=j
 gn:m.gn=L.gn
 g1 : ∀ q,q<L.gn -> ∃ j,j<m.gn/\m.g j=L.g q
 g2 : ∀ j,j<m.gn -> ∃ q,q<L.gn/\L.g q=m.g j
 ask : ∀(a:Nat) (r:Int),a<6->(gZ m ((a:Int)+1) r=true <-> ∃ j,j<L.rn a/\L.rq a j=r)
 ga:RF m
 li : ∀ p q,p<L.gn->q<L.gn->L.g p 0=L.g q 0->L.g p 1=L.g q 1->p=q
section
variable {m:dU} {L:fI} {N:Nat} {v:EvM} {x:Int}
theorem gF.node(h:gF m L)(a:Inv0 L N)(x:Int):m.T.has x=true<->0<=L.node x:=by rw[h.T.find a,a.node]
theorem gF.LY(h:gF m L)(a:Inv0 L N)(x:Int):m.T.has x=false<->L.node x<0:=by rw[h.T.findF a,a.node]
theorem Inv0.ZJ(a:Inv0 L N)(hx:0<=L.node x):(L.node x).toNat<L.nn/\L.id (L.node x).toNat=x:=by
 rw[a.node]at hx ⊢;obtain⟨j,b,e,c⟩:=vQ hx;rw[e];rw[a.CP]at b;exact⟨b,by show L.id j=x; rw[<- (a.tid j b).1]; exact c⟩
theorem gF.rk(h:gF m L)(c:Inv0 L N)(hx:0<=L.node x):EA m x=L.R (L.node x).toNat:=by
 obtain⟨a,b⟩:=c.ZJ hx;rw[<- h.row _ a,b]
theorem gF.CV(h:gF m L)(f:m.T.ok)(a:Inv0 L N)(hx:m.T.has x=true)(r:Nat->Int):gF (CV m x r) { L with R:=aH L.R (L.node x).toNat r }:=by
 have l:=(h.node a x).1 hx;obtain⟨j,c⟩:=a.ZJ l;refine { h with row:=fun i b => ?_,T:=⟨h.T.has,h.T.n,h.T.par⟩ };show Fx.aN m.R (m.idx x) r (m.idx (L.id i))=aH L.R (L.node x).toNat r i;unfold Fx.aN aH;by_cases e:i=(L.node x).toNat
 ·subst e; rw[c,d_ rfl,d_ rfl]
 rw[b_ e,b_]
 ·exact h.row i b
 intro g;have d:=(dU.D6 f ((h.T.has _).2 ⟨i,b,rfl⟩)).2;have k:=(dU.D6 f hx).2;rw[g,k]at d;exact e (a.inj i _ b j (by rw[c]; exact d.symm))
theorem gF.along(h:gF m L)(l:m.T.ok)(g:Inv0 L N)(f:(Nat->Int)->(Nat->Int) × Int)(x:Int) :
 dA m f (m.T.path x)=(dn f (oK L x) L.R (fG L.t L.tn x)).2/\((dn f (oK L x) L.R (fG L.t L.tn x)).2=0 -> ∀ i,i<L.nn->(qO m f (m.T.path x)).R (m.idx (L.id i))=(dn f (oK L x) L.R (fG L.t L.tn x)).1 i):=by
 obtain⟨z,p⟩:=h.T.path l g x;have w:=dN.Ba l x;have o : ∀ i,i<fG L.t L.tn x->0<=L.node (bI L.t L.tn i x):=fun i c=>by rw[g.node]; exact BL c
 have y : ∀ i j,i<fG L.t L.tn x->j<fG L.t L.tn x->oK L x i=oK L x j->i=j:=fun i j c v e=>by
  have a:=g.ZJ (o i c);have b:=g.ZJ (o j v);have e:(L.node (bI L.t L.tn i x)).toNat=(L.node (bI L.t L.tn j x)).toNat:=e;rw[e]at a;have k:=a.2.symm.trans b.2;rw[<- p i (by omega),<- p j (by omega)]at k;exact Da w (by omega) (by omega) k
 obtain⟨A,B⟩:=Gf (f:=f) (idx:=oK L x) (R:=L.R) y;refine⟨?_,fun s i c => ?_⟩
 ·rw[A];unfold dA;rw[z];exact D5 fun i c=>by
   rw[p i (by omega)];exact h.rk g (o i c)
 have u:=(dU.D6 l ((h.T.has _).2 ⟨i,c,rfl⟩)).2;show(if m.T.x (m.idx (L.id i))∈m.T.path x then(f (m.R (m.idx (L.id i)))).1 else m.R (m.idx (L.id i)))=_;rw[u,show m.R (m.idx (L.id i))=L.R i from h.row i c];have r:L.id i∈m.T.path x <-> ∃ q,q<fG L.t L.tn x/\oK L x q=i:=by
  rw[h.T.mem l g];constructor
  ·rintro ⟨q,d,e⟩;exact⟨q,d,(ER g c d).2 e⟩
  ·rintro ⟨q,d,e⟩;exact⟨q,d,(ER g c d).1 e⟩
 rcases B s i with ⟨n,k⟩|⟨n,q,d,k⟩
 ·rw[n,b_];rw[r]; rintro ⟨q,d,e⟩; exact k q d e
 rw[n,d_ (r.2 ⟨q,d,k⟩)]
theorem gF.asked(h:gF m L)(f:bS v=true)(r:Int):gZ m v.o r=true<->0<=L.lH (aO v) r:=by
 obtain⟨a,c,d⟩:=fu (iO f);have:aO v=a:=by unfold aO; omega
 rw[this,d,h.ask a r c];unfold fI.lH;rw[Df];constructor
 ·rintro ⟨j,b,e⟩; exact⟨j,b,f_ e⟩
 rintro ⟨j,b,e⟩; exact⟨j,b,h_ e⟩
theorem gF.grant(h:gF m L)(o r:Int):(iH m o r=true<->0<=L.grant o r)/\(0<=L.grant o r->(L.grant o r).toNat<L.gn/\fA m o r<m.gn/\m.g (fA m o r)=L.g (L.grant o r).toNat/\L.g (L.grant o r).toNat 0=o/\L.g (L.grant o r).toNat 1=r):=by
 have k1:iH m o r=true <-> ∃ j,j<m.gn/\m.g j 0=o/\m.g j 1=r:=lM;have k2:0<=L.grant o r <-> ∃ q,q<L.gn/\L.g q 0=o/\L.g q 1=r:=by
  unfold fI.grant;rw[Df];constructor
  ·rintro ⟨j,a,e⟩; rw[T_]at e; exact⟨j,a,h_ e.1,h_ e.2⟩
  ·rintro ⟨j,a,b,c⟩; exact⟨j,a,by rw[f_ b,f_ c]; rfl⟩
 refine⟨?_,fun l => ?_⟩
 ·rw[k1,k2];constructor
  ·rintro ⟨j,a,b,c⟩;obtain⟨q,d,e⟩:=h.g2 j a;exact⟨q,d,by rw[e]; exact b,by rw[e]; exact c⟩
  rintro ⟨q,d,b,c⟩;obtain⟨j,a,e⟩:=h.g1 q d;exact⟨j,a,by rw[e]; exact b,by rw[e]; exact c⟩
 have : ∃ q,q<L.gn/\L.grant o r=(q:Int)/\L.g q 0=o/\L.g q 1=r:=by
  unfold fI.grant at l ⊢
  rcases je (fun i=>decide (L.g i 0=o)&&decide (L.g i 1=r)) L.gn with ⟨q,d,e,k⟩|⟨e,_⟩
  ·rw[T_]at k; exact⟨q,d,e,h_ k.1,h_ k.2⟩
  ·omega
 obtain⟨q,d,e,b,c⟩:=this;rw[e];obtain⟨j,a,f⟩:=h.g1 q d;have:fA m o r=j:=zO h.gi a (by show m.g j 0=o; rw[f]; exact b) (by show m.g j 1=r; rw[f]; exact c);rw[this];exact⟨d,a,f,b,c⟩
theorem gF.aiw(h:gF m L)(i:m.T.ok)(g:Inv0 L N)(e:bS v=true)(l:v.kind=1):iW m v=kP L v:=by
 obtain⟨a,j,d⟩:=fu (iO e);have k:aO v=a:=by unfold aO; omega
 unfold iW kP;rw[k,h.own a j,d];have b:(5<=((oq L.id ((a:Int)+1) L.nn:Nat):Int)\/140737488355328<v.aU)<->(5<=oq L.id ((a:Int)+1) L.nn\/140737488355328<v.aU):=by omega
 have f:nQ v=ji ((a:Int)+1) v.seq:=by rw[<- d,rP e]; rfl
 by_cases c:5<=oq L.id ((a:Int)+1) L.nn\/140737488355328<v.aU
 ·rw[d_ c,d_ (b.2 c)]
 rw[b_ c,b_ (fun q=>c (b.1 q)),h.T.err i g,f]
theorem gF.make(h:gF m L)(A:m.T.ok)(r:Inv0 L N)(l:bS v=true)(D:v.kind=1)(z:kP L v=0):gF (DY m v) (qL L v):=by
 obtain⟨k,g,H,I,J,K,M,y,P,Q,G⟩:=xH r l D z;have t:=rP l;have O:=oz l;have f:nQ v=ji v.o v.seq:=by rw[t]; rfl
 have w:m.T.has (nQ v)=false:=by
  rw[h.T.findF r,f,vV];exact G.no
 have E : ∀ i,i<m.T.n->m.T.x i≠nQ v:=fun i d e=>by
  have:=dN.Ar d; rw[e,w]at this; cases this
 rw[y];have C : ∀ q,(m.T.put (nQ v) v.node).has q=true<->(m.T.has q=true\/q=nQ v):=fun q=>by
  rw[dN.jH,Bool.or_eq_true,Q_];exact⟨fun h=>h.imp id Eq.symm,fun h=>h.imp id Eq.symm⟩
 have u : ∀ q,q<L.nn->L.id q≠nQ v:=fun q F e=>by
  have:=(h.T.has _).2 ⟨q,F,rfl⟩; rw[e,w]at this; cases this
 refine {
  T:=⟨fun q => ?_,?_,fun i d => ?_⟩
  inn:=h.inn
  left:=h.left
  known:=h.known
  row:=fun i d => ?_
  own:=fun a s => ?_
  gi:=h.gi
  gn:=h.gn
  g1:=h.g1
  g2:=h.g2
  ask:=h.ask
  ga:=h.ga
  li:=h.li }
 ·show(m.T.put (nQ v) v.node).has q=true <-> ∃ i,i<L.nn+1/\Fx.cO L.id k (ji v.o v.seq) i=q;rw[C,h.T.has];constructor
  ·rintro (⟨i,d,e⟩|e)
   ·obtain⟨j,b,_,c⟩:=BK (k:=k) d;exact⟨j,b,by rw[c]; exact e⟩
   exact⟨k,by omega,by rw[dK,e,f]⟩
  rintro ⟨i,d,e⟩
  rcases dY g d with rfl|⟨j,b,c,_,_⟩
  ·rw[dK]at e; exact .inr (by rw[<- e,f])
  rw[c]at e; exact .inl ⟨j,b,e⟩
 ·show m.T.n+1=L.nn+1;rw[h.T.n]
 ·show(m.T.put (nQ v) v.node).par (Fx.cO L.id k (ji v.o v.seq) i)=Fx.cO L.par k v.node i;rw[dN.um]
  rcases dY g d with rfl|⟨j,b,c,_,_⟩
  ·rw[dK,dK,d_ f]
  rw[c,c,b_ (fun e=>u j b e.symm)]; exact h.T.par j b
 ·show Fx.aN m.R m.T.n _ (Ac (Fx.aN m.T.x m.T.n (nQ v)) (m.T.n+1) (Fx.cO L.id k (ji v.o v.seq) i))=Fx.cO L.R k _ i
  rcases dY g d with rfl|⟨j,b,c,_,_⟩
  ·rw[dK,dK,<- f,LV _ _ _ E]; unfold Fx.aN; rw[d_ rfl]
  rw[c,c,LW _ _ (fun e=>u j b e.symm)];have p:=(dU.D6 A ((h.T.has _).2 ⟨j,b,rfl⟩)).1;have p:Ac m.T.x m.T.n (L.id j)<m.T.n:=p;unfold Fx.aN;rw[b_ (by omega)];exact h.row j b
 show aH m.own (aO v) (m.own (aO v)+1) a=((oq (Fx.cO L.id k (ji v.o v.seq)) ((a:Int)+1) (L.nn+1):Nat):Int);rw[LX _ g,t];have B:(1099511627776*v.o+v.seq) / 1099511627776=v.o:=by omega
 rw[B];unfold aH;by_cases e:a=aO v
 ·rw[d_ e,<- e,h.own a s,d_ (by unfold aO at e; omega)]; rfl
 rw[b_ e,h.own a s,b_ (by unfold aO at e; omega)]; rfl
attribute [local irreducible] fG dn dA in
theorem gF.qX(h:gF m L)(d:m.T.ok)(g:Inv0 L N)(i:bS v=true):jY m v=iU L v:=by
 unfold jY iU;by_cases c:gZ m v.o v.req=true
 ·rw[d_ c,d_ ((h.asked i _).1 c)]
 rw[b_ c,b_ (fun e=>c ((h.asked i _).2 e))];obtain⟨j,_⟩:=h.T.path d g v.node;have f:m.T.has v.node=false<->fG L.t L.tn v.node=0:=by
  rw[<- j];constructor
  ·intro b; rw[show m.T.path v.node = []from kZ b]; rfl
  ·intro b
   cases e:m.T.has v.node with
   | false=>rfl
   | true=>rw[dN.step d e]at b; simp at b
 by_cases a:m.T.has v.node=false
 ·rw[d_ a,d_ (f.1 a)]
 rw[b_ a,b_ (fun e=>a (f.2 e))];exact(h.along d g _ _).1
theorem Gg{k1 k2:Nat->Int}{n:Nat}{a b o r:Int}:BS (Fx.aN k1 n a) (Fx.aN k2 n b) (n+1) o r=true<->(BS k1 k2 n o r=true\/(a=o/\b=r)):=by
 rw[lM,lM];unfold Fx.aN;constructor
 ·rintro ⟨j,f,c,d⟩;by_cases e:j=n
  ·subst e; rw[d_ rfl]at c d; exact .inr ⟨c,d⟩
  rw[b_ e]at c d; exact .inl ⟨j,by omega,c,d⟩
 rintro (⟨j,f,c,d⟩|⟨c,d⟩)
 ·exact⟨j,by omega,by rw[b_ (by omega)]; exact c,by rw[b_ (by omega)]; exact d⟩
 exact⟨n,by omega,by rw[d_ rfl]; exact c,by rw[d_ rfl]; exact d⟩
theorem gF.P9(h:gF m L)(w:bS v=true)(d:dU)(f:fI)(i:d.an=m.an+1)(k:d.ao=Fx.aN m.ao m.an v.o)(l:d.ar=Fx.aN m.ar m.an v.req)(n:f.rn=aH L.rn (aO v) (L.rn (aO v)+1))(p:f.rq=aH L.rq (aO v) (aH (L.rq (aO v)) (L.rn (aO v)) v.req)) :
 (∀(a:Nat) (r:Int),a<6->(gZ d ((a:Int)+1) r=true <-> ∃ j,j<f.rn a/\f.rq a j=r))/\(∀ o r,gZ m o r=true->gZ d o r=true)/\gZ d v.o v.req=true:=by
 obtain⟨b,x,t⟩:=fu (iO w);have u:aO v=b:=by unfold aO; omega
 have g : ∀ o r,gZ d o r=true<->(gZ m o r=true\/(v.o=o/\v.req=r)):=fun o r=>by
  unfold gZ; rw[i,k,l]; exact Gg
 refine⟨fun a r q => ?_,fun o r h=>(g o r).2 (.inl h),(g _ _).2 (.inr ⟨rfl,rfl⟩)⟩;rw[g,h.ask a r q,n,p,u];unfold aH;by_cases e:a=b
 ·subst e;rw[d_ rfl,d_ rfl];constructor
  ·rintro (⟨j,s,e⟩|⟨_,e⟩)
   ·exact⟨j,by omega,by show(if j=L.rn a then v.req else L.rq a j)=r; rw[b_ (by omega)]; exact e⟩
   exact⟨L.rn a,by omega,by show(if L.rn a=L.rn a then v.req else _)=r; rw[d_ rfl]; exact e⟩
  rintro ⟨j,s,e⟩;have e:=e;by_cases c:j=L.rn a
  ·rw[d_ c]at e; exact .inr ⟨t,e⟩
  rw[b_ c]at e; exact .inl ⟨j,by omega,e⟩
 rw[b_ e,b_ e];exact⟨fun h=>h.elim id fun h=>by omega,.inl⟩
attribute [local irreducible] fG dn dA in
theorem gF.take(h:gF m L)(F:m.T.ok)(E:Inv0 L N)(D:bS v=true)(t:iU L v=0):gF (kU m v) (mG L v):=by
 unfold iU at t;split at t
 ·cases t
 rename_i c1;split at t
 ·cases t
 have I:=(h.along F E (fun x=>bJ x v.o v.aU) v.node).2 t;have G : ¬ gZ m v.o v.req=true:=fun e=>c1 ((h.asked D _).1 e);obtain⟨k1,k2,J⟩:=h.P9 D (kU m v) (mG L v) rfl rfl rfl rfl rfl;have s : ∀ j,(kU m v).g j=if j=m.gn then qC v else m.g j:=fun j=>rfl;have A:qC v 0=v.o:=rfl;have B:qC v 1=v.req:=rfl;have y : ∀ j,j<m.gn -> ¬ (m.g j 0=v.o/\m.g j 1=v.req):=fun j d e=>G (by have:=h.ga j d; rw[e.1,e.2]at this; exact this);have u:=Fx.zy (fun i=>FM v (L.g i)) L.gn
 refine {
  T:=⟨h.T.has,h.T.n,h.T.par⟩
  inn:=h.inn
  left:=h.left
  known:=h.known
  row:=I
  own:=h.own
  gi:=fun i j r d b a => ?_
  gn:=by show m.gn+1=L.gn+1; rw[h.gn]
  g1:=fun q f => ?_
  g2:=fun j d => ?_
  ask:=k1
  ga:=fun i r => ?_
  li:=fun p q z f b a => ?_ }
 ·have r:i<m.gn+1:=r;have d:j<m.gn+1:=d;rw[s,s]at b a;by_cases c:i=m.gn
  ·by_cases l:j=m.gn
   ·omega
   rw[d_ c,b_ l,A]at b; rw[d_ c,b_ l,B]at a;exact M_ ⟨b.symm,a.symm⟩ (y j (by omega))
  by_cases l:j=m.gn
  ·rw[b_ c,d_ l,A]at b; rw[b_ c,d_ l,B]at a;exact M_ ⟨b,a⟩ (y i (by omega))
  rw[b_ c,b_ l]at b a; exact h.gi i j (by omega) (by omega) b a
 ·have f:q<L.gn+1:=f;show ∃ j,j<m.gn+1/\(kU m v).g j=Fx.cO L.g (Fx.down (fun i=>FM v (L.g i)) L.gn) (qC v) q
  rcases dY u f with e|⟨j,d,a,_,_⟩
  ·rw[e,dK]; exact⟨m.gn,by omega,by rw[s,d_ rfl]⟩
  rw[a];obtain⟨i,r,w⟩:=h.g1 j d;exact⟨i,by omega,by rw[s,b_ (by omega)]; exact w⟩
 ·have d:j<m.gn+1:=d;show ∃ q,q<L.gn+1/\Fx.cO L.g (Fx.down (fun i=>FM v (L.g i)) L.gn) (qC v) q=(kU m v).g j;rw[s];by_cases c:j=m.gn
  ·rw[d_ c]; exact⟨_,by omega,dK⟩
  rw[b_ c];obtain⟨q,f,e⟩:=h.g2 j (by omega);obtain⟨K,H,_,a⟩:=BK (k:=Fx.down (fun i=>FM v (L.g i)) L.gn) f;exact⟨K,H,by rw[a]; exact e⟩
 ·have r:i<m.gn+1:=r;rw[s];by_cases c:i=m.gn
  ·rw[d_ c]; exact J
  rw[b_ c]; exact k2 _ _ (h.ga i (by omega))
 have z:p<L.gn+1:=z;have f:q<L.gn+1:=f;have C : ∀ j,j<L.gn -> ¬ (L.g j 0=v.o/\L.g j 1=v.req):=fun j d e=>by
  obtain⟨i,r,w⟩:=h.g1 j d;rw[<- w]at e;exact y i r e
 have b:Fx.cO L.g (Fx.down (fun i=>FM v (L.g i)) L.gn) (qC v) p 0=Fx.cO L.g (Fx.down (fun i=>FM v (L.g i)) L.gn) (qC v) q 0:=b;have a:Fx.cO L.g (Fx.down (fun i=>FM v (L.g i)) L.gn) (qC v) p 1=Fx.cO L.g (Fx.down (fun i=>FM v (L.g i)) L.gn) (qC v) q 1:=a;generalize Fx.down (fun i=>FM v (L.g i)) L.gn=k at b a u
 rcases dY u z with c|⟨j,d,f1,f2,f3⟩
 ·rcases dY u f with l|⟨j',hj',f1',f2',f3'⟩
  ·omega
  rw[c,dK,f1']at b a; exact M_ ⟨b.symm,a.symm⟩ (C j' hj')
 rcases dY u f with l|⟨j',hj',f1',f2',f3'⟩
 ·rw[l,dK,f1]at b a; exact M_ ⟨b,a⟩ (C j d)
 rw[f1,f1']at b a;have:=h.li j j' d hj' b a;omega
attribute [local irreducible] fG dn dA in
theorem gF.qY(h:gF m L)(l:m.T.ok)(k:Inv0 L N)(f:bS v=true):jy m v=iL L v:=by
 unfold jy iL;by_cases c:gZ m v.o v.req=true
 ·rw[d_ c,d_ ((h.asked f _).1 c)]
 rw[b_ c,b_ (fun e=>c ((h.asked f _).2 e))];obtain⟨d,j⟩:=h.grant v.o v.of;by_cases b:0<=L.grant v.o v.of
 ·obtain⟨p,r,i,s,t⟩:=j b;have n:=d.2 b;have e:(iH m v.o v.of=false\/m.g (fA m v.o v.of) 4≠0)<->(L.grant v.o v.of<0\/L.g (Ap L v) 4≠0):=by
   rw[i,n];show _<->_\/L.g (L.grant v.o v.of).toNat 4≠0;constructor
   ·rintro (h|h)
    ·cases h
    ·exact .inr h
   ·rintro (h|h)
    ·omega
    ·exact .inr h
  by_cases a:L.grant v.o v.of<0\/L.g (Ap L v) 4≠0
  ·rw[d_ a,d_ (e.2 a)]
  rw[b_ a,b_ (fun q=>a (e.1 q)),i];exact(h.along l k _ _).1
 rw[d_ (.inl (by
  cases e:iH m v.o v.of with
  | false=>rfl
  | true=>exact M_ (d.1 e) b)),d_ (.inl (by omega))]
attribute [local irreducible] fG dn dA in
theorem gF.free(h:gF m L)(G:m.T.ok)(F:Inv0 L N)(I:bS v=true)(k:iL L v=0):gF (iF m v) (kQ L v):=by
 unfold iL at k;split at k
 ·cases k
 split at k
 ·cases k
 rename_i c2;have E:0<=L.grant v.o v.of:=by rcases ilt (L.grant v.o v.of)with h1|h1; exact M_ (.inl h1) c2; exact h1
 obtain⟨C,D,t,K,M⟩:=(h.grant v.o v.of).2 E;have H:=(h.along G F (fun x=>bK x v.o (L.g (Ap L v) 3)) (L.g (Ap L v) 2)).2 k;obtain⟨k1,k2,J⟩:=h.P9 I (iF m v) (kQ L v) rfl rfl rfl rfl rfl;have A:Ap L v=(L.grant v.o v.of).toNat:=rfl;have w : ∀ j,(iF m v).g j=if j=fA m v.o v.of then upd (m.g (fA m v.o v.of)) 4 v.req else m.g j:=fun j=>rfl;have u : ∀ q,(kQ L v).g q=if q=Ap L v then aH (L.g (Ap L v)) 4 v.req else L.g q:=fun q=>rfl;have B:upd (m.g (fA m v.o v.of)) 4 v.req=aH (L.g (Ap L v)) 4 v.req:=by rw[t]; rfl
 have f : ∀ j p,(p=0\/p=1)->(iF m v).g j p=m.g j p:=fun j p s=>by
  rw[w];by_cases c:j=fA m v.o v.of
  ·subst c; rw[d_ rfl]; rcases s with rfl|rfl <;> rfl
  ·rw[b_ c]
 have z : ∀ j p,(p=0\/p=1)->(kQ L v).g j p=L.g j p:=fun j p s=>by
  rw[u];by_cases c:j=Ap L v
  ·subst c; rw[d_ rfl]; rcases s with rfl|rfl <;> rfl
  ·rw[b_ c]
 refine {
  T:=⟨h.T.has,h.T.n,h.T.par⟩
  inn:=h.inn
  left:=h.left
  known:=h.known
  row:=fun i r => ?_
  own:=h.own
  gi:=fun i j r a l d=>h.gi i j r a (by rw[f i 0 (.inl rfl),f j 0 (.inl rfl)]at l; exact l) (by rw[f i 1 (.inr rfl),f j 1 (.inr rfl)]at d; exact d)
  gn:=h.gn
  g1:=fun q b => ?_
  g2:=fun j a => ?_
  ask:=k1
  ga:=fun i r=>by rw[f i 0 (.inl rfl),f i 1 (.inr rfl)]; exact k2 _ _ (h.ga i r)
  li:=fun p q s b l d=>h.li p q s b (by rw[z p 0 (.inl rfl),z q 0 (.inl rfl)]at l; exact l) (by rw[z p 1 (.inr rfl),z q 1 (.inr rfl)]at d; exact d) }
 ·have:=H i r;show(qO m (fun x=>bK x v.o (m.g (fA m v.o v.of) 3)) (m.T.path (m.g (fA m v.o v.of) 2))).R (m.idx (L.id i))=_;rw[t]; exact this
 ·have b:=b;rw[u];by_cases c:q=Ap L v
  ·rw[d_ c]; exact⟨fA m v.o v.of,D,by rw[w,d_ rfl,B]⟩
  rw[b_ c];obtain⟨j,a,y⟩:=h.g1 q b;refine⟨j,a,?_⟩;rw[w,b_]
  ·exact y
  intro e;rw[e,t]at y;exact c (h.li q _ b C (congrFun y.symm 0) (congrFun y.symm 1))
 have a:=a;rw[w];by_cases c:j=fA m v.o v.of
 ·rw[d_ c]; exact⟨Ap L v,C,by rw[u,d_ rfl,B]⟩
 rw[b_ c];obtain⟨q,b,e⟩:=h.g2 j a;refine⟨q,b,?_⟩;rw[u,b_]
 ·exact e
 intro d;rw[d]at e;exact c (h.gi j _ a D (by rw[t,<- e,A]) (by rw[t,<- e,A]))
theorem gF.move(h:gF m L)(i:m.T.ok)(a:Inv0 L N)(k:bS v=true)(j:v.kind=5):kR m v=ow L v/\(ow L v=0->gF (DV m v) (AY L v)):=by
 obtain⟨b,l,n⟩:=PL k j;unfold kR ow;by_cases c:L.node v.node<0
 ·rw[d_ c,d_ ((h.LY a _).2 c)];exact⟨rfl,fun h=>by cases h⟩
 have f:0<=L.node v.node:=by omega
 rw[b_ c,b_ (fun e=>c ((h.LY a _).1 e)),h.inn];have g:tF m v=vU L v:=by unfold tF vU; rw[<- h.rk a f]; rfl
 have e:(v.dst<1\/6<v.dst\/L.inn (v.dst-1).toNat=false)<->L.inn (v.dst-1).toNat=false:=⟨fun h=>by rcases h with h|h|h; omega; omega; exact h,fun h => .inr (.inr h)⟩
 by_cases d:L.inn (v.dst-1).toNat=false
 ·rw[d_ d,d_ (e.2 d)];exact⟨rfl,fun h=>by cases h⟩
 rw[b_ d,b_ (fun q=>d (e.1 q)),g];refine⟨rfl,fun _ => ?_⟩;have:=h.CV i a ((h.node a _).2 f) (vU L v).1;unfold DV AY;rw[g]; exact this
theorem gF.raise(h:gF m L)(f:m.T.ok)(a:Inv0 L N):jI m v=xG L v/\(xG L v=0->gF (uT m v) (FX L v)):=by
 unfold jI xG;by_cases c:L.node v.node<0
 ·rw[d_ c,d_ ((h.LY a _).2 c)];exact⟨rfl,fun h=>by cases h⟩
 have b:0<=L.node v.node:=by omega
 have d:m.R (m.idx v.node)=L.R (L.node v.node).toNat:=h.rk a b;rw[b_ c,b_ (fun e=>c ((h.LY a _).1 e)),d];refine⟨rfl,fun _ => ?_⟩;unfold uT FX;rw[d];exact h.CV f a ((h.node a _).2 b) _
theorem gF.does(h:gF m L)(c:m.T.ok)(b:Inv0 L N)(d:bS v=true):fH m v=dS L v/\(dS L v=0->gF (iN m v) (iM L v)):=by
 unfold fH dS iN iM;by_cases k1:v.kind=1
 ·rw[d_ k1,d_ k1,d_ k1,d_ k1]; exact⟨h.aiw c b d k1,fun e=>h.make c b d k1 e⟩
 rw[b_ k1,b_ k1,b_ k1,b_ k1];by_cases k2:v.kind=2
 ·rw[d_ k2,d_ k2,d_ k2,d_ k2]; exact h.raise c b
 rw[b_ k2,b_ k2,b_ k2,b_ k2];by_cases f:v.kind=3
 ·rw[d_ f,d_ f,d_ f,d_ f]; exact⟨h.qX c b d,fun e=>h.take c b d e⟩
 rw[b_ f,b_ f,b_ f,b_ f];by_cases g:v.kind=4
 ·rw[d_ g,d_ g,d_ g,d_ g]; exact⟨h.qY c b d,fun e=>h.free c b d e⟩
 rw[b_ g,b_ g,b_ g,b_ g];by_cases a:v.kind=5
 ·rw[d_ a,d_ a,d_ a,d_ a]; exact h.move c b d a
 rw[b_ a,b_ a,b_ a,b_ a];by_cases i:v.kind=6
 ·rw[d_ i,d_ i,d_ i];exact⟨rfl,fun _ => { h with T:=⟨h.T.has,h.T.n,h.T.par⟩,inn:=by show aH m.inn _ true=aH L.inn _ true; rw[h.inn] }⟩
 rw[b_ i,b_ i,b_ i];exact⟨rfl,fun _ => { h with T:=⟨h.T.has,h.T.n,h.T.par⟩,left:=by show aH m.left _ true=aH L.left _ true; rw[h.left] }⟩
theorem gF.apply(h:gF m L)(f:m.T.ok)(d:Inv0 L N)(v:EvM):dF m v=bQ L v/\gF (iX m v) (dH L v):=by
 have e:dF m v=bQ L v:=by
  unfold dF bQ;rw[h.known,h.inn,h.left]
  cases b:bS v with
  | false=>rfl
  | true =>
    rw[(h.does f d b).1]
 refine⟨e,?_⟩;unfold iX dH;rw[e];by_cases c:bQ L v=0
 ·rw[d_ c,d_ c];have b:=(GU (jV c)).1;have g:dS L v=0:=by
   unfold bQ at c;rw[b_ (by rw[b]; decide)]at c;split at c; · cases c
   split at c; · cases c
   split at c; · cases c
   exact c
  have a:=(h.does f d b).2 g;exact { a with T:=⟨a.T.has,a.T.n,a.T.par⟩,known:=by show aH (iN m v).known _ _=aH (iM L v).known _ _; rw[a.known] }
 rw[b_ c,b_ c]; exact h
theorem gF.sound(h:gF m L)(k:m.T.ok)(c:Inv0 L N):QlK m := {
 own:=fun a l=>by
  have b:=P8 (f:=L.id) (o:=(a:Int)+1) L.nn;have d:=c.nn;rw[h.own a l]; omega
 row:=fun i g p n=>by
  obtain⟨j,hj,e⟩:=(h.T.has _).1 (dN.Ar g);have b:=h.row j hj;rw[e]at b;have d:m.idx (m.T.x i)=i:=mZ k.inj g rfl;unfold EA at b;rw[d]at b;rw[b];exact gH (c.may j hj) p n
 ga:=h.ga
 kn:=by rw[h.known]; exact c.kn }
end
end Rt
end Go.Proofs.YtahbiajdgealnaaGreatDoor
