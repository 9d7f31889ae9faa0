/-
  What the proof of the law rests on, part 6: walks of functions, and plain laws; each says its conditions itself.
-/
import Derived.Deep.Slices
import Derived.Lib.SmallJoins
import Derived.ChangeArms
import Derived.Test.YtahbiajdgealnaaDoorZC5
set_option maxHeartbeats 1600000
set_option linter.unusedVariables false
set_option linter.unusedSimpArgs false
namespace Go.Proofs.YtahbiajdgealnaaDoor
open Go.RowKit
set_option linter.unusedVariables false
namespace Fx
abbrev Qz:=List (Nat × List Nat)
def Hl(ops:List Oper)(a:List Nat)(b:Bool)(i:Nat)(l:Qz):Bool:=l.all fun x=>match a[x.1]? with|some e => !Nat.beq i e&&(if b then wW ops i x.2 e else wW ops e x.2 i)|none=>false
def Na(ops:List Oper)(a:List Nat)(c b:List Qz):Bool:=(List.range ops.length).all fun i=>Hl ops a true i (c.getD i [])&&Hl ops a false i (b.getD i [])
def pG(a:List Nat)(b:Array Bool)(j:Nat):Bool:=match a[j]? with|some e=>b.getD e false|none=>false
def U2(m:Nat->Bool)(j:Nat):Nat->Bool:=fun q=>bif Nat.beq q j then true else m q
section
variable {P:Program} {n:Nat} {Q:Post} {f:Nat->Value} {w:World} {ops:List Oper}
theorem QA{i e:Nat}{p:List Nat}{b:Array Bool}(hr:i∈Region.ready .any ops.toArray b)(j:JG ops.toArray .any b)(d:i≠e)(h:wW ops i p e=true):b.getD e false=true:=by
 obtain⟨m,n,l,g⟩:=fG hr;obtain⟨f,h⟩:=iU h
 cases f with
 | zero=>unfold reach at h; exact L_ (by simpa using h) d
 | succ f =>
   unfold reach at h;rw[Bool.or_eq_true]at h
   rcases h with h|h
   ·exact L_ (by simpa using h) d
   ·rw[l]at h;simp only at h;rw[Array.any_eq_true']at h;obtain⟨c,k,a⟩:=h;rw[R_]at a;refine j.reach _ _ a.2<|g c.on ?_;unfold dF;rw[Array.any_eq_true'];exact⟨c,k,by rw[a.1,Nat.beq_refl]; rfl⟩
theorem W.masks{id:Nat}(o:List Nat)(V Z:List Qz)(y:Gh->Nat->Value)(S:(Nat->Bool)->Gh->World->Prop)(hm:P.follows .mixedOrders=true)(T:lV n ops=true)(hsel:Region.noSelect ops.toArray=true)(U3:Na ops o V Z=true)
 (hes:o.all (fun e=>Nat.blt e ops.length&&(match (opAt ops e).guard with|none=>true|_=>false))=true) (hnd:o.Nodup) (r0:Gh)
 (h0 : ∀ C,Below w.heap.size w C->C.heap.size=w.heap.size->S (fun _=>false) r0 C)
 (I : ∀ i,i<ops.length->o.contains i=false -> ∀ r m w,(∀ x∈V.getD i [],m x.1=true)->(∀ x∈Z.getD i [],m x.1=false)->S m r w->if Region.wanted (opAt ops i) (yf ops.toArray (full ops f (y r)))then Oper.quietUpon P (S m r) w (y r i) ((execOp (ev (full ops f (y r))) (opAt ops i)).run P w)else y r i=undef)
 (H : ∀ j i,o[j]? = some i -> ∀ r m w (a:Act) (K:Act->World->Prop),(∀ x∈V.getD i [],m x.1=true)->(∀ x∈Z.getD i [],m x.1=false)->m j=false->S m r w->(∀ x∈(opAt ops i).op.operands,a.eval x=ev (full ops f (y r)) x)->(∀ p w',S (U2 m j) (qB r j p) w'->K (a.put (opAt ops i).dst (y (qB r j p) i)) w')->(opAt ops i).wp P a w K (lift n Q))
 (hd : ∀ i,i<ops.length -> ∀ j r p,(∀ x∈V.getD i [],x.1≠j)->o[j]? ≠ some i->j<o.length->y (qB r j p) i=y r i)
 (h : ∀ r m w',(∀ j,j<o.length->m j=true)->S m r w'->Q .normal (full ops f (y r)) w'):W P n (.region id ops.toArray true) Q f w:=fun a L=>by
 refine wp_region_any hm ?_;have Y : ∀ i,i<ops.length->Hl ops o true i (V.getD i [])=true/\Hl ops o false i (Z.getD i [])=true:=fun i t=>by
  unfold Na at U3;rw[List.all_eq_true]at U3;have:=U3 i (by simpa using t)
  rwa [R_]at this
 have hpr : ∀ i,i<ops.length -> ∀ x∈V.getD i [],∃ e,o[x.1]? = some e/\i≠e/\wW ops i x.2 e=true:=fun i t x F=>by
  have c:=(Y i t).1;unfold Hl at c;rw[List.all_eq_true]at c;have c:=c x F
  cases H:o[x.1]? with
  | none=>rw[H]at c; cases c
  | some e =>
    rw[H]at c;simp only[if_true,R_]at c;exact⟨e,rfl,fun q=>by subst q; rw[Nat.beq_refl]at c; exact L_ c.1 (by simp),c.2⟩
 have hpo : ∀ i,i<ops.length -> ∀ x∈Z.getD i [],∃ e,o[x.1]? = some e/\wW ops e x.2 i=true:=fun i t x F=>by
  have c:=(Y i t).2;unfold Hl at c;rw[List.all_eq_true]at c;have c:=c x F
  cases H:o[x.1]? with
  | none=>rw[H]at c; cases c
  | some e =>
    rw[H]at c;simp only[R_]at c;exact⟨e,rfl,by simpa using c.2⟩
 have Ry : ∀ k i,o[k]? = some i->i<ops.length/\(opAt ops i).guard=none:=fun k i hk=>by
  rw[List.all_eq_true]at hes;have:=hes i (List.mem_of_getElem? hk);rw[R_]at this;refine⟨by simpa [Nat.blt_eq] using this.1,?_⟩
  cases hg:(opAt ops i).guard with
  | none=>rfl
  | some _=>rw[hg]at this; exact L_ this.2 (by simp)
 have key : ∀(N:Nat) (b:Array Bool) (a:Act) (C:World) (r:Gh),b.size=ops.length->JG ops.toArray .any b->Fr a n (over ops f (y r) b)->S (pG o b) r C ->
  (∀ M:List Nat,M=(List.range ops.length).filter (fun i => !b.getD i false)->M.length=N)->wpAny P .any ops.toArray (lift n Q) N b a C:=by
  intro N
  induction N with
  | zero =>
    intro b a C r U Db L O X;have R : ∀ i,i<ops.length->b.getD i false=true:=fun i t=>by
     have c:=List.eq_nil_of_length_eq_zero (X _ rfl)
     cases I:b.getD i false
     ·have:i∈(List.range ops.length).filter (fun i => !b.getD i false):=(by simp only[List.mem_filter,N_]; exact⟨t,by rw[I]; rfl⟩);rw[c]at this; cases this
     ·rfl
    have hnone:Region.ready .any ops.toArray b = []:=by
     cases I:Region.ready .any ops.toArray b with
     | nil=>rfl
     | cons i l =>
       have E:i∈Region.ready .any ops.toArray b:=(by rw[I]; exact List.mem_cons_self);obtain⟨c,D,_,_⟩:=fG E;rw[R i D]at c; cases c
    refine⟨hnone,full ops f (y r),?_,h r _ C (fun j A => ?_) O⟩
    ·have:over ops f (y r) b=full ops f (y r):=by
      funext s
      unfold over full
      cases Y:writer ops s with
      | none=>rfl
      | some i=>simp only; rw[d_ (R i (mQ Y).2)]
     exact this ▸ L
    ·unfold pG;rw[o_ A];exact R _ (Ry j _ (o_ A)).1
  | succ N ih =>
    intro b a C r U Db L O X;have hcount : ∀ i,i∈Region.ready .any ops.toArray b -> ∀ M:List Nat,M=(List.range ops.length).filter (fun j => !(b.setIfInBounds i true).getD j false)->M.length=N:=by
     intro i E M ZO;obtain⟨c,D,_,_⟩:=fG E;subst ZO;have e:(List.range ops.length).filter (fun j => !(b.setIfInBounds i true).getD j false)=((List.range ops.length).filter (fun i => !b.getD i false)).erase i:=by
      rw[List.Nodup.erase_eq_filter (List.Nodup.sublist List.filter_sublist List.nodup_range),List.filter_filter];apply List.filter_congr;intro j A;by_cases e:i=j
      ·subst e; rw[set_self (by rw[U]; exact D)]; simp
      ·rw[jR e];have:(j != i)=true:=(by simp; exact fun q=>e q.symm);rw[this,Bool.true_and]
     rw[e,List.length_erase_of_mem (by simp only[List.mem_filter,N_]; exact⟨D,by rw[c]; rfl⟩),X _ rfl];rfl
    refine⟨fun hnone => ?_,fun i E => ?_⟩
    ·exfalso;have hlen:=X _ rfl;exact(by
      have : ∃ i,i∈Region.ready .any ops.toArray b:=by
       obtain⟨q,I⟩ : ∃ q,q∈(List.range ops.length).filter (fun i => !b.getD i false):=by
        cases hfe:(List.range ops.length).filter (fun i => !b.getD i false)with
        | nil=>rw[hfe]at hlen; cases hlen
        | cons q l=>exact⟨q,List.mem_cons_self⟩
       have LZ : ∀ m q,q<=m->q<ops.length->b.getD q false=false -> ∃ i,i<ops.length/\b.getD i false=false /\ ∀ j,j<i->b.getD j false=true:=by
        intro m
        induction m with
        | zero=>intro q hm B hq2; exact⟨q,B,hq2,fun j A=>by omega⟩
        | succ m ihm =>
          intro q hm B hq2;by_cases R : ∀ j,j<q->b.getD j false=true
          ·exact⟨q,B,hq2,R⟩
          ·obtain⟨j,A⟩:=Classical.not_forall.1 R;obtain⟨hj1,hj2⟩:=Classical.not_imp.1 A;exact ihm j (by omega) (by omega) (by simpa using hj2)
       simp only[List.mem_filter,N_]at I;obtain⟨i,t,hi1,hi2⟩:=LZ q q (z_ _) I.1 (by simpa using I.2);refine⟨i,mem_ready.2 ⟨getD_in (by rw[U]; exact t) hi1,opAt ops i,?_,fun e H hb=>hi2 e.on ((fu T t).2.2.2 e.on ?_)⟩⟩
       ·unfold opAt; rw[List.getElem?_toArray,r_,o_ t]; rfl
       ·unfold dF; rw[Array.any_eq_true']; exact⟨e,H,by rw[hb,Nat.beq_refl]; rfl⟩
      obtain⟨i,t⟩:=this;rw[hnone]at t; cases t)
    ·obtain⟨c,t,hop,R⟩:=fG E;have hsz':(b.setIfInBounds i true).size=ops.length:=(by simpa using U);have JI:=Db.set E;have hev:=NG (f:=f) T (v:=y r) E;have hae : ∀ x∈(opAt ops i).op.operands,a.eval x=ev (full ops f (y r)) x:=fun x F=>by rw[L.ev]; exact hev x F
     have hex:execOp a.eval (opAt ops i)=execOp (ev (full ops f (y r))) (opAt ops i):=execOp_congr _ (Region.noSelect_spec hsel i _ · · hop) hae;have hwant:Region.wanted (opAt ops i) (yielded ops.toArray a.tmps)=Region.wanted (opAt ops i) (yf ops.toArray (full ops f (y r))):=(by rw[L.yf]; exact Cu T E);have hpre : ∀ x∈V.getD i [],pG o b x.1=true:=fun x F=>by
      obtain⟨e,D,h3,G⟩:=hpr i t x F;unfold pG;rw[D]; exact QA E Db h3 G
     have hpost : ∀ x∈Z.getD i [],pG o b x.1=false:=fun x F=>by
      obtain⟨e,D,G⟩:=hpo i t x F;unfold pG;rw[D]
      cases hle:b.getD e false with
      | false=>exact hle
      | true =>
        obtain⟨mm,G⟩:=iU G;have:=Db.reach _ _ G hle;rw[c]at this; cases this
     unfold wpOp;simp only[hop];rw[hwant];by_cases hne:o.contains i=true
     ·have hmem:i∈o:=(by simpa using hne);obtain⟨j,A⟩:=List.getElem?_of_mem hmem;have hg:=(Ry j i A).2;have hjl:j<o.length:=(List.getElem?_eq_some_iff.1 A).1;rw[d_ (by unfold Region.wanted; rw[hg])];refine .inl<|H j i A r _ C a _ hpre hpost (by unfold pG; rw[A]; exact c) O hae fun p w' hS' => ?_;have hsame:over ops f (y r) b=over ops f (y (qB r j p)) b:=by
       funext s
       unfold over
       cases Y:writer ops s with
       | none=>rfl
       | some q =>
         simp only
         cases hlq:b.getD q false
         ·rfl
         ·simp only[if_true];have hqi:=(mQ Y).2;refine(hd q hqi j r p (fun x F e => ?_) (fun e => ?_) hjl).symm
          ·obtain⟨J,D,h3,G⟩:=hpr q hqi x F;obtain⟨mm,G⟩:=iU G;have h5:=Db.reach _ _ G hlq;rw[e,A]at D;rw[<- B_ D,c]at h5; cases h5
          ·rw[A]at e;rw[<- B_ e,c]at hlq; cases hlq
      refine ih _ _ _ (qB r j p) hsz' JI ?_ ?_ (hcount i E)
      ·have:=(hsame ▸ L).put (d:=(opAt ops i).dst) (by
        cases hd:(opAt ops i).dst with
        | none=>rfl
        | some d=>simp[inn,Nat.blt_eq,((fu T t).1 d hd).2]) (y (qB r j p) i)
       rwa [Ap T U t]at this
      ·have e:pG o (b.setIfInBounds i true)=U2 (pG o b) j:=by
        funext q
        unfold U2
        cases hb:Nat.beq q j with
        | true =>
          have:=A_ hb;subst this;unfold pG;rw[A]; exact set_self (by rw[U]; exact t)
        | false =>
          have hqj:q≠j:=fun z=>by rw[z,Nat.beq_refl]at hb; cases hb
          unfold pG
          cases hqe:o[q]? with
          | none=>rfl
          | some J =>
            have:i≠J:=fun z=>by
             subst z;have h9:=List.getElem?_eq_some_iff.1 hqe;have h10:=List.getElem?_eq_some_iff.1 A;exact hqj ((List.getElem_inj hnd).1 (h9.2.trans h10.2.symm))
            exact jR this
       rw[e]; exact hS'
     ·have hne':o.contains i=false:=(by simpa using hne);have B:=I i t hne' r _ C hpre hpost O;have hfin : ∀ w',S (pG o b) r w'->wpAny P .any ops.toArray (lift n Q) N (b.setIfInBounds i true) (a.put (opAt ops i).dst (y r i)) w':=fun w' hS'=>by
       refine ih _ _ _ r hsz' JI ?_ ?_ (hcount i E)
       ·have:=L.put (d:=(opAt ops i).dst) (by
         cases hd:(opAt ops i).dst with
         | none=>rfl
         | some d=>simp[inn,Nat.blt_eq,((fu T t).1 d hd).2]) (y r i)
        rwa [Ap T U t]at this
       ·have e:pG o (b.setIfInBounds i true)=pG o b:=by
         funext q
         unfold pG
         cases hqe:o[q]? with
         | none=>rfl
         | some J =>
           have:i≠J:=fun z=>by subst z; exact L_ (show o.contains i=true by simpa using List.mem_of_getElem? hqe) hne
           exact jR this
        rw[e]; exact hS'
      by_cases hwt:Region.wanted (opAt ops i) (yf ops.toArray (full ops f (y r)))=true
      ·rw[d_ hwt]at B ⊢;refine .inl ?_;unfold Oper.wp;rw[hex];generalize (execOp (ev (full ops f (y r))) (opAt ops i)).run P C=res at B
       cases res with
       | ok nx w' =>
         cases nx <;> simp only[Oper.quietUpon]at B <;> simp only[Oper.upon]
         case value u=>obtain⟨e1,J⟩:=B; subst e1 J; exact hfin _ O
         case skip=>obtain⟨e1,J⟩:=B; subst e1; rw[<- J]; exact hfin _ O
         case enter g args =>
          obtain⟨e1,hc⟩:=B;subst e1;exact hc.mono fun e w'' ⟨he',hw''⟩=>by subst he'; exact hfin _ hw''
       | halt x w'=>simp only[Oper.quietUpon]at B
      ·rw[b_ hwt]at B ⊢;rw[<- B];exact hfin _ O
 have hrep : ∀ i,(Array.replicate ops.toArray.size false).getD i false=false:=fun i=>by
  rw[Array.getD_eq_getD_getElem?];by_cases t:i<ops.length
  ·simp[t]
  ·simp[t]
 have hstart:over ops f (y r0) (Array.replicate ops.toArray.size false)=f:=by
  funext s
  unfold over
  cases writer ops s with
  | none=>rfl
  | some i=>simp only; rw[hrep]; simp
 have hdn:pG o (Array.replicate ops.toArray.size false)=fun _=>false:=by
  funext j
  unfold pG
  cases o[j]? with
  | none=>rfl
  | some e=>exact hrep e
 have:=key ops.toArray.size (Array.replicate ops.toArray.size false) a { w with drawn:=w.drawn+1 } r0 (by simp) (JG.start _ _ _) (by rw[hstart]; exact L) (by rw[hdn]; exact h0 _ (Below.refl _ _).drew rfl) (fun M X=>by
  subst X;rw[List.filter_eq_self.2 (fun i _=>by rw[hrep]; rfl)];simp)
 simpa using this
theorem dX{r:Gh}{k j:Nat}{p:Nat × Nat}(h:j≠k):qB r k p j=r j:=by
 unfold qB;have:Nat.beq j k=false:=by
  cases hq:Nat.beq j k
  ·rfl
  ·exact L_ (A_ hq) h
 rw[this]; rfl
theorem KZ{o:Oper}{ρ:Operand->Value}{T:TypeId}{m:Nat}{z:Nat->Value}(d:o.op = .alloc T)(e:((P.info? T).bind (·.zero)).map (·.cells)=some (aA m z))(a:World) : ∃ b,(execOp ρ o).run P a = .ok (.value (.pointer (some ⟨a.heap.size,0,none⟩))) b/\aQ b a.heap.size m z T/\Stp a.heap.size a b:=by
 obtain⟨i,f,g⟩:=Option.map_eq_some_iff.1 e;obtain⟨j,c,h⟩:=Option.bind_eq_some_iff.1 f;refine⟨a.alloc (.cells i.cells T),?_,?_,Stp.alloc _ _⟩
 ·unfold execOp;simp[d,Instr.alloc,zeroValue,typeInfo,c,h,newVar,newRow]
 show(a.alloc _).heap[a.heap.size]? = _;rw[alloc_at,d_ rfl,g]
theorem K3{o:Oper}{ρ:Operand->Value}{T T':TypeId}{a v:Operand}{m g:Nat}{x y:Nat->Value}{u:Value}(A:o.op = .store T' a v)(l:(P.info? T').map (·.size)=some m)(n:ρ a = .pointer (some ⟨g,0,none⟩))(p:ρ v=u)(D:u.cells=aA m y)(h1 : ∀ j,j<m->(y j).oneCell'=true){b:World}(t:aQ b g m x T) : ∃ d,(execOp ρ o).run P b = .ok .skip d/\aQ d g m y T/\Stp g b d:=by
 have h:b.heap[g]? = some (.cells (aA m x) T (0,0)):=t;have s:(aA m y).all (·.oneCell')=true:=by
  rw[Array.all_eq_true_iff_forall_mem];intro q B;obtain⟨j,i,z⟩:=Array.getElem_of_mem B;have k:j<m:=by simpa [bW] using i
  have e:=gF y k;rw[Array.getElem?_eq_getElem i,z]at e;rw[B_ e]; exact h1 j k
 have C:(storeVar T' ⟨g,0,none⟩ u).run P b = .ok () (b.setRow g (aA m y)):=by
  have f:=run_storeCells_at (P:=P) g 0 T (aA m y).toList 0 (aA m x) b h (by simp[bW]) (fun q c=>(Array.all_eq_true_iff_forall_mem.1 s) q (by simpa using c));have r:((aA m x).toList.take (0+0)++(aA m y).toList++(aA m x).toList.drop (0+0+(aA m y).toList.length)).toArray=aA m y:=by
   rw[List.drop_eq_nil_of_le (by simp[bW])]; simp
  rw[r]at f
  cases c:P.info? T' with
  | none=>simp[c]at l
  | some ti =>
    have E:ti.size=m:=(by simp[c]at l; omega);simp only[storeVar,sizeOf,typeInfo,Sem.run_bind,run_program,c,D,bW,E,ne_eq,not_true_eq_false,if_false,Result.andThen_ok,Sem.run_pure,f]
 obtain⟨F,G,H⟩:=zD (w:=b) (cs:=aA m y) h;refine⟨_,?_,G,F⟩;unfold execOp;simp only[A,n,p,Instr.storeAt,Instr.sureAddr,Sem.run_bind,Sem.run_pure,Result.andThen_ok,C]
def Cb(c d:Nat)(vs:Array Value)(a b:Nat):Nat->Value:=fun i=>bif Nat.beq i c then .pointer (some ⟨a,0,none⟩)else bif Nat.beq i d then .pointer (some ⟨b,0,none⟩)else vs.getD i undef
def Jl(ops:List Oper)(f:Nat->Value)(c d:Nat)(vs:Array Value)(a b:Nat):Nat->Value:=full ops f (Cb c d vs a b)
structure X4(w:World)(m1 m2:Nat)(z1 y1 z2 y2:Nat->Value)(T1 T2:TypeId)(m:Nat->Bool)(r:Gh)(v:World):Prop where
 b:Below w.heap.size w v
 a:m 0=true->w.heap.size<=(r 0).1/\aQ v (r 0).1 m1 (if m 2=true then y1 else z1) T1
 c:m 1=true->w.heap.size<=(r 1).1/\aQ v (r 1).1 m2 (if m 3=true then y2 else z2) T2
 ne:m 0=true->m 1=true->(r 0).1≠(r 1).1
theorem X4.up{m1 m2:Nat}{z1 y1 z2 y2:Nat->Value}{T1 T2:TypeId}{m:Nat->Bool}{r:Gh}{v e:World}(h:X4 w m1 m2 z1 y1 z2 y2 T1 T2 m r v)(d:Below v.heap.size v e):X4 w m1 m2 z1 y1 z2 y2 T1 T2 m r e :=
 ⟨Jt h.b d,fun q=>⟨(h.a q).1,(h.a q).2.bY (Sb d) (t_ (h.a q).2.lt)⟩,fun q=>⟨(h.c q).1,(h.c q).2.bY (Sb d) (t_ (h.c q).2.lt)⟩,h.ne⟩
def Nb(P:Program)(a:Nat->Value)(ops:Array Oper)(w:World)(b:List Nat)(vs:Array Value):List Oper->Nat->Prop
 | [],_=>True
 | o::l,i=>(b.contains i=true\/(if Region.wanted o (yf ops a)then QB P (ev a) o w (vs.getD i undef)else vs.getD i undef=undef))/\Nb P a ops w b vs l (i+1)
theorem Ho{a:Nat->Value}{c:Array Oper}{b:List Nat}{vs:Array Value} : ∀ {l:List Oper} {k:Nat},Nb P a c w b vs l k -> ∀ i,i<l.length->(b.contains (k+i)=true\/(if Region.wanted (opAt l i) (yf c a)then QB P (ev a) (opAt l i) w (vs.getD (k+i) undef)else vs.getD (k+i) undef=undef))
 | [],_,_,i,hi=>L_ hi (by simp)
 | o::l,k,h,0,_=>h.1
 | o::l,k,h,i+1,hi=>by
   have:=Ho h.2 i (by simpa using hi)
   rwa [show k+1+i=k+(i+1) by omega]at this
theorem Fj{i j:Nat}(h:i≠j):Nat.beq i j=false:=by
 cases hq:Nat.beq i j
 ·rfl
 exact L_ (A_ hq) h
def Cc(l:Qz)(j:Nat):Bool:=l.any fun x=>Nat.beq x.1 j
theorem vY{l:Qz}{j:Nat}(h:Cc l j=true) : ∃ x∈l,x.1=j:=by
 unfold Cc at h;rw[List.any_eq_true]at h;obtain⟨x,a,b⟩:=h;exact⟨x,a,A_ b⟩
theorem K4{id:Nat}{T1 T2 T1' T2':TypeId}{a1 v1 a2 v2:Operand}{m1 m2:Nat}{z1 y1 z2 y2:Nat->Value}{u1 u2:Value}(k l y z:Nat)(N M:List Qz)(vs:Array Value)(hm:P.follows .mixedOrders=true)(hok:lV n ops=true)(hsel:Region.noSelect ops.toArray=true)(U3:Na ops [k,l,y,z] N M=true)
 (hes : [k,l,y,z].all (fun e=>Nat.blt e ops.length&&(match (opAt ops e).guard with|none=>true|_=>false))=true) (hnd:decide [k,l,y,z].Nodup=true)
 (hw1:Cc (N.getD y []) 0=true) (hw2:Cc (N.getD z []) 1=true) (hw3:Cc (M.getD k []) 2=true) (hw4:Cc (M.getD l []) 3=true)
 (o1:(opAt ops k).op = .alloc T1) (o2:(opAt ops l).op = .alloc T2) (n1:((P.info? T1).bind (·.zero)).map (·.cells)=some (aA m1 z1)) (n2:((P.info? T2).bind (·.zero)).map (·.cells)=some (aA m2 z2))
 (U:(opAt ops y).op = .store T1' a1 v1) (V:(opAt ops z).op = .store T2' a2 v2) (X:(opAt ops y).dst=none) (Y:(opAt ops z).dst=none) (e1:(P.info? T1').map (·.size)=some m1) (e2:(P.info? T2').map (·.size)=some m2)
 (ha1 : ∀ o s,ev (Jl ops f k l vs o s) a1 = .pointer (some ⟨o,0,none⟩)) (ha2 : ∀ o s,ev (Jl ops f k l vs o s) a2 = .pointer (some ⟨s,0,none⟩)) (hv1 : ∀ o s,ev (Jl ops f k l vs o s) v1=u1) (hv2 : ∀ o s,ev (Jl ops f k l vs o s) v2=u2)
 (hu1:u1.cells=aA m1 y1) (hu2:u2.cells=aA m2 y2) (h11 : ∀ j,j<m1->(y1 j).oneCell'=true) (h12 : ∀ j,j<m2->(y2 j).oneCell'=true)
 (hq : ∀ o s,Nb P (Jl ops f k l vs o s) ops.toArray w [k,l,y,z] vs ops 0)
 (h : ∀ o s w' Z,Z=Jl ops f k l vs o s->w.heap.size<=o->w.heap.size<=s->o≠s->aQ w' o m1 y1 T1->aQ w' s m2 y2 T2->Below w.heap.size w w'->Q .normal Z w'):W P n (.region id ops.toArray true) Q f w:=by
 have hn:=h_ hnd;simp only[List.nodup_cons,List.mem_cons,List.not_mem_nil,or_false,not_or]at hn;obtain⟨⟨x12,x1s,x1t⟩,⟨x2s,x2t⟩,xst,_⟩:=hn;refine W.masks [k,l,y,z] N M (fun r=>Cb k l vs (r 0).1 (r 1).1) (X4 w m1 m2 z1 y1 z2 y2 T1 T2) hm hok hsel U3 hes (h_ hnd) (fun _=>(0,0)) (fun w1 A _=>⟨A,fun h=>(nomatch h),fun h=>(nomatch h),fun h=>(nomatch h)⟩) ?_ ?_ ?_ ?_
 ·intro i hi T r m v _ _ d
  rcases Ho (hq (r 0).1 (r 1).1) i hi with h2|h2
  ·rw[E_]at h2; rw[h2]at T; cases T
  rw[E_]at h2;have hni':i≠k/\i≠l/\i≠y/\i≠z:=by simpa using T
  have H:Cb k l vs (r 0).1 (r 1).1 i=vs.getD i undef:=by unfold Cb; rw[Fj hni'.1,Fj hni'.2.1]; rfl
  show if Region.wanted (opAt ops i) (yf ops.toArray (Jl ops f k l vs (r 0).1 (r 1).1))then Oper.quietUpon P _ v (Cb k l vs (r 0).1 (r 1).1 i) ((execOp (ev (Jl ops f k l vs (r 0).1 (r 1).1)) (opAt ops i)).run P v)else Cb k l vs (r 0).1 (r 1).1 i=undef;rw[H];by_cases hw:Region.wanted (opAt ops i) (yf ops.toArray (Jl ops f k l vs (r 0).1 (r 1).1))=true
  ·rw[d_ hw]at h2 ⊢
   rcases h2 v d.b with h3|⟨g,args,h3,h4⟩
   ·rw[h3]; exact⟨rfl,rfl⟩
   rw[h3]; exact⟨rfl,h4.mono fun e w2 ⟨he,hb2⟩=>⟨he,d.up hb2⟩⟩
  rw[b_ hw]at h2 ⊢; exact h2
 ·intro j i t r m v a K hpr hpo hmj d B J
  match j,t with
  | 0,t =>
    obtain rfl:k=i:=(by simpa using t);obtain⟨v2,E,A,u⟩:=KZ (ρ:=a.eval) o1 n1 v;unfold Oper.wp;rw[E];obtain⟨x,C,D⟩:=vY hw3;have hm2:m 2=false:=(by rw[<- D]; exact hpo x C);have:=J (v.heap.size,0) v2 ⟨Jt d.b u.old,fun _=>by
     rw[oz];exact⟨d.b.size,by show aQ v2 v.heap.size m1 (if m 2=true then y1 else z1) T1; rw[hm2]; exact A⟩,fun q=>by
     have q:m 1=true:=q;rw[dX (by decide)];exact⟨(d.c q).1,(d.c q).2.bY u (t_ (d.c q).2.lt)⟩,fun _ q=>by
     have q:m 1=true:=q;rw[oz,dX (by decide)];exact Nat.ne_of_gt (d.c q).2.lt⟩
    have H:Cb k l vs (qB r 0 (v.heap.size,0) 0).1 (qB r 0 (v.heap.size,0) 1).1 k = .pointer (some ⟨v.heap.size,0,none⟩):=(by unfold Cb; rw[Nat.beq_refl,oz]; rfl);rw[H]at this;exact this
  | 1,t =>
    obtain rfl:l=i:=(by simpa using t);obtain⟨v2,E,A,u⟩:=KZ (ρ:=a.eval) o2 n2 v;unfold Oper.wp;rw[E];obtain⟨x,C,D⟩:=vY hw4;have hm3:m 3=false:=(by rw[<- D]; exact hpo x C);have:=J (v.heap.size,0) v2 ⟨Jt d.b u.old,fun q=>by
     have q:m 0=true:=q;rw[dX (by decide)];exact⟨(d.a q).1,(d.a q).2.bY u (t_ (d.a q).2.lt)⟩,fun _=>by
     rw[oz];exact⟨d.b.size,by show aQ v2 v.heap.size m2 (if m 3=true then y2 else z2) T2; rw[hm3]; exact A⟩,fun q _=>by
     have q:m 0=true:=q;rw[oz,dX (by decide)];exact t_ (d.a q).2.lt⟩
    have H:Cb k l vs (qB r 1 (v.heap.size,0) 0).1 (qB r 1 (v.heap.size,0) 1).1 l = .pointer (some ⟨v.heap.size,0,none⟩):=(by unfold Cb; rw[Fj (fun e=>x12 e.symm),Nat.beq_refl,oz]; rfl);rw[H]at this;exact this
  | 2,t =>
    obtain rfl:y=i:=(by simpa using t);obtain⟨x,C,D⟩:=vY hw1;have F:m 0=true:=(by rw[<- D]; exact hpr x C);have O:a.eval a1 = .pointer (some ⟨(r 0).1,0,none⟩):=(B a1 (by rw[U]; simp[Op.operands])).trans (ha1 (r 0).1 (r 1).1);have R:a.eval v1=u1:=(B v1 (by rw[U]; simp[Op.operands])).trans (hv1 (r 0).1 (r 1).1);obtain⟨I,E,A,u⟩:=K3 U e1 O R hu1 h11 (d.a F).2;unfold Oper.wp;rw[E];show K (a.put (opAt ops y).dst undef) _;rw[X];have:=J (0,0) I ⟨u.below d.b d.b.size (d.a F).1,fun _=>by
     rw[dX (by decide)];exact⟨(d.a F).1,by show aQ I (r 0).1 m1 (if U2 m 2 2=true then y1 else z1) T1; exact A⟩,fun q=>by
     have q:m 1=true:=q;rw[dX (by decide)];exact⟨(d.c q).1,(d.c q).2.bY u (fun e=>d.ne F q e.symm)⟩,fun _ q=>by
     have q:m 1=true:=q;rw[dX (by decide),dX (by decide)];exact d.ne F q⟩
    rw[X]at this;exact this
  | 3,t =>
    obtain rfl:z=i:=(by simpa using t);obtain⟨x,C,D⟩:=vY hw2;have G:m 1=true:=(by rw[<- D]; exact hpr x C);have O:a.eval a2 = .pointer (some ⟨(r 1).1,0,none⟩):=(B a2 (by rw[V]; simp[Op.operands])).trans (ha2 (r 0).1 (r 1).1);have R:a.eval v2=u2:=(B v2 (by rw[V]; simp[Op.operands])).trans (hv2 (r 0).1 (r 1).1);obtain⟨I,E,A,u⟩:=K3 V e2 O R hu2 h12 (d.c G).2;unfold Oper.wp;rw[E];show K (a.put (opAt ops z).dst undef) _;rw[Y];have:=J (0,0) I ⟨u.below d.b d.b.size (d.c G).1,fun q=>by
     have q:m 0=true:=q;rw[dX (by decide)];exact⟨(d.a q).1,(d.a q).2.bY u (d.ne q G)⟩,fun _=>by
     rw[dX (by decide)];exact⟨(d.c G).1,by show aQ I (r 1).1 m2 (if U2 m 3 3=true then y2 else z2) T2; exact A⟩,fun q _=>by
     have q:m 0=true:=q;rw[dX (by decide),dX (by decide)];exact d.ne q G⟩
    rw[Y]at this;exact this
  | j+4,t=>simp at t
 ·intro i hi j r p C hne hjl;have t:j=0\/j=1\/j=2\/j=3:=by simp at hjl; omega
  show Cb k l vs (qB r j p 0).1 (qB r j p 1).1 i=Cb k l vs (r 0).1 (r 1).1 i;unfold Cb
  rcases t with rfl|rfl|rfl|rfl
  ·have:i≠k:=fun e=>hne (by rw[e]; rfl);rw[Fj this]; simp only[cond_false]; rw[dX (by decide)]
  ·have:i≠l:=fun e=>hne (by rw[e]; rfl);rw[Fj this]; simp only[cond_false]; rw[dX (by decide)]
  ·rw[dX (by decide),dX (by decide)]
  rw[dX (by decide),dX (by decide)]
 intro r m w' L d;have m0:=L 0 (by simp); have m1':=L 1 (by simp); have m2':=L 2 (by simp); have m3:=L 3 (by simp);have B:=d.a m0; have S:=d.c m1';rw[m2']at B; rw[m3]at S;exact h (r 0).1 (r 1).1 w' _ rfl B.1 S.1 (d.ne m0 m1') B.2 S.2 d.b
end
end Fx
end Go.Proofs.YtahbiajdgealnaaDoor
namespace Go.Proofs.YtahbiajdgealnaaDoor
open Go.RowKit Rt
open Fx (fI fq fP bF gX gW dA dY gP jE eZ jF gy jv jG Lv sN Ln Ws Qv Wl Rp Wc Qs Wr Sb Lk Wk rC rV sR Rs Rn Rd Rk Wb Wx Wo FQ Wt rT K4 Qn F3 Bl Af Ar DI Ei rM gK Av mV wI uT wX xX Aq DL Au rv aA aQ bR aN ev bZ Stp dJ aR flat dD Mp fA aU iR iQ bJ down iI jM iT nY bP bL cells_one jl bS wQ unseen jN iK bX dH bI bT cK cO gU iB qo gu)
set_option maxRecDepth 20000
namespace Rt
def mY(v:EvM):Int:=1099511627776*v.o+v.seq
def iP(m:dM)(v:EvM):Int:=if 5<=m.own (aK v)\/140737488355328<v.aT then 6 else m.T.err (mY v) v.node
def CV(m:dM)(v:EvM):dM := { m with T:=m.T.put (mY v) v.node,R:=aN m.R m.T.n (upd (fun _=>0) (aK v) v.aT),own:=aI m.own (aK v) (m.own (aK v)+1) }
theorem U4{T:dK}{pa:Int}{id:Int}{w:World}{b n:Nat}{x:Nat->Int}(h:Mp w b n x (aN (Fb T) T.n (aC pa))):Mp w b n x (Fb (T.put id pa)):=h.uh fun i _=>⟨rfl,by show aN (Fb T) T.n _ i=aC (aN T.p T.n pa i); unfold aN Fb; split <;> rfl⟩
theorem X5{R:Nat->Nat->Int}{j n b:Nat}{r:Nat->Int}{x:Nat->Int}{w:World}(h:Mp w b n x (aN (wP R) j (.agg (aA 54 (rv .i64 r))))):Mp w b n x (wP (aN R j r)):=D8 _ _ _ _ h
end Rt
theorem afV(o q:Int)(w:World)(a:1<=o/\o<=6)(b:1<=q/\q<1099511627776):Calls Tryd.prog 152 #[au o,aC q] w fun e w'=>e = .returned (aC (1099511627776*o+q))/\w'=w:=by
 have h:=amJ o.toNat q.toNat w (by omega) (by omega);rw[show((o.toNat:Nat):Int)=o by omega,show((q.toNat:Nat):Int)=q by omega]at h;exact h
theorem U5(m:dM)(lp B:Nat)(w:World)(h:kQ w B lp m)(v:EvM)(hv:bM v=true)(I:m.T.err (mY v) v.node=0)(a:Nat)(ha:a<6)(hra:aK v=a)(hob:0<=m.own a/\m.own a<=1000)(hid:0<=mY v/\mY v<=18446744073709551615)(H:Nat)(F:Nat)(k:Nat)(G:Nat)(Q:aQ w H 1 (fun _=>(pt lp)) 44)(hi:aQ w F 1 (fun _=>aC (mY v)) 22)(O:aQ w k 14 (bH v) 28)(P:aQ w G 1 (fun _=>au (a:Int)) 3) :
 Calls Tryd.prog 154 #[(pt H),(pt F),(pt k),(pt G)] w fun e w'=>e = .returned (.tuple #[])/\kQ w' B lp (CV m v)/\jM (Bp m lp) w w':=by
 have hC:=h.c;have hT:=h.t;have hP:=h.p;have hR:=h.r;have hG:=h.g;have hA:=h.a;have b:=h.ne;have lC:=h.c.lt;have lT:=h.t.lt;have lP:=h.p.lt;have lR:=h.r.lt;have lG:=h.g.lt;have lA:=h.a.lt;have YV:=Q.lt;have lgi:=hi.lt;have Zl:=O.lt;have lgk:=P.lt;have S : ∀ i,i<m.T.n->m.T.x i≠mY v:=fun i hi e=>by have:=(Eu I).2.1; rw[jy hi e]at this; cases this
 refine Kent Tryd.func154 42 ?_;refine Ws ?_;refine jS [5,0,1,2,3,4,6,7] [4,0,0,4,4,0,4,3] [(7,0,[3,2,1,0]),(7,3,[3]),(7,4,[4]),(7,6,[6])] fun qE J iC => ?_;have s1:Stp w.heap.size w qE:=Sb J;have⟨V,m2,m3,m4,m5,m6,m7,m8,m9,m10⟩:=xk J hC hT hP hR hG hA Q hi O P;have b1:=(uT (Bp m lp) w).then s1 (.inr (uT (Bp m lp) w).size);refine aZ (pf k 9)<|Rs (pt lp) (aM m7.aH 0) ?_;refine aZ (pt lp)<|aZ (pf lp 18)<|Rs (pt m.tp) (aM V.aH 18) ?_;refine Rs (aC (mY v)) (aM m8.aH 0) ?_;refine Rs (aC v.node) (aM m9.aH 9) ?_;refine gG<|dL (Kg (mY v) v.node m2 hid) _ rfl ?_;rintro u ⟨m11,s2⟩;have f:=m2.Cw s2;have m12:=V.dQ f;have m13:=m3.dQ f (Ne.symm b.mp);have m14:=m4.dQ f (Ne.symm b.mr);have m15:=m5.dQ f (Ne.symm b.mg);have m16:=m6.dQ f (Ne.symm b.ma);have m17:=m7.dQ f;have m18:=m8.dQ f;have m19:=m9.dQ f;have m20:=m10.dQ f;have A:=b1.then s2 (.inl (.inr (.inl rfl)));have m21:rR u B m.tp m.mb (m.T.put (mY v) v.node):=by rw[<- dK.D9 I]; exact m11
 refine Ln<|bO<|Ws ?_;refine jS [5,0,1,2,3,4,6,7] [4,0,0,4,4,0,4,3] [(7,0,[0]),(7,3,[3]),(7,4,[4]),(7,6,[6])] fun Dl K nZ => ?_;have s3:Stp u.heap.size u Dl:=Sb K;have⟨m22,m23,m24,mZ,nT,oM,oN,oZ,qc,lU⟩:=xk K m12 m13 m14 m15 m16 m17 m18 m19 m20 m21;have b3:=A.then s3 (.inr A.size);refine aZ (pf k 9)<|Rs (pt lp) (aM oM.aH 0) ?_;refine aZ (pt lp)<|aZ (pf lp 19)<|Rs (.map (some m.pb)) (aM m22.aH 19) ?_;refine Rs (aC (mY v)) (aM oN.aH 0) ?_;refine Rs (aC v.node) (aM oZ.aH 9) ?_;refine gG<|Fx.L.Pp (by rfl) rfl rfl rfl rfl rfl m23 Tryd.underlying87 Tryd.underlying22 S fun y m32 s4 z1 => ?_;have j:=m23.Cw s4;have qw:=m22.dQ j;have og:=m24.dQ j (Ne.symm b.pr);have qG:=mZ.dQ j (Ne.symm b.pg);have pV:=nT.dQ j (Ne.symm b.pa);have uf:=oM.dQ j;have rP:=oN.dQ j;have qM:=oZ.dQ j;have uq:=qc.dQ j;have nU:=lU.dQ j (b.mp);have C:=b3.then s4 (.inl (.inr (.inr (.inl rfl))));have nD:Mp y m.pb ((m.T.put (mY v) v.node).n) ((m.T.put (mY v) v.node).x) (Fb (m.T.put (mY v) v.node)):=U4 m32;refine Ln<|bO<|Ws ?_;refine jS [0,2,3,7,8,1,4,5,6,9,10] [4,4,0,0,0,4,0,0,0,0,3] [(10,0,[0]),(10,1,[1]),(10,5,[5])] fun Q0 M AB => ?_;have s5:Stp y.heap.size y Q0:=Sb M;have⟨q,rY,rQ,pz,rZ,xB,tK,sQ,uw,uU⟩:=xk M qw og qG pV uf rP qM uq nU nD;have b5:=C.then s5 (.inr C.size);refine Rs (pt lp) (aM rZ.aH 0) ?_;refine aZ (pt lp)<|aZ (pf lp 21)<|aZ (pt lp)<|aZ (pf lp 21)<|Rs (au a) (aM sQ.aH 0) ?_;refine Rp (pf lp (a+21)) (fun _=>jm 6 1)<|Rs (au (m.own a)) (aM q.aH (a+21) (Jf (p:=a) (by omega) (by omega))) ?_;refine Rp (au ((m.own a)+1)) (fun _=>fE)<|Rp (pf lp (a+21)) (fun _=>jm 6 1)<|gG<|iX q (a+21) (au ((m.own a)+1)) fun w3 uV s6 z2 => ?_;have uy:aQ w3 lp 29 (vg { m with own:=aI m.own a (m.own a+1) }) 93:=uV.to (XP ha (by omega) _);have gM:=gK s6 q.ty;have⟨wD,sS,sj,sU,xC,ru,uW,oh,tL⟩:=Z7 gM rY rQ pz rZ xB tK sQ uw uU;have o:=b5.then s6 (.inl (.inl rfl));refine Ln<|bO<|ay<|av (.agg (aA 54 (rv .i64 (fun _=>0))))<|qC 54 (rv .i64 (fun _=>0)) fun l w4 E s s7 z3 => ?_;have⟨yY,wE,wR,wK,sV,uX,uz,vI,tN,Ah⟩:=xk s7.old wD sS sj sU xC ru uW oh tL uy;have b7:=o.then s7 (.inr o.size);have U:=jc E o.size;have⟨amX,amY,amZ,ana,anb,anc,ane,anf,ang⟩:=WH E wD.lt sS.lt sj.lt sU.lt xC.lt ru.lt uW.lt tL.lt uy.lt;have uo:=s.lt;refine dZ s 0 fun w5 vJ s8 z4 => ?_;have yt:aQ w5 l 54 (rv .i64 (fun _=>0)) 82:=aR vJ;have kr:=gK s8 s.ty;have⟨yu,wS,wT,sZ,uY,xD,yw,wF,zw,yx⟩:=NP kr yY wE wR wK sV uX uz vI tN Ah;have b8:=b7.then s8 (.inr U);refine aD<|ay<|Lv (au a) (aM yw.aH 0)<|av (pf k 11)<|Lv (au v.aT) (aM xD.aH 11)<|av (pt l)<|Lv (pf l a) (jm 6 1)<|iX yt a (au v.aT) fun z zJ s9 z5 => ?_;have yA:aQ z l 54 (rv .i64 (upd (fun _=>0) a v.aT)) 82:=zJ.to (Fx.xW _ _ _ _);have qZ:=gK s9 yt.ty;have⟨yB,Ai,Ez,Dt,CF,CG,Aj,FT,EF,FU⟩:=NP qZ yu wS wT sZ uY xD yw wF zw yx;have D:=b8.then s9 (.inr U);refine aD ?_;refine jS [0,1,2,3,4,5,6] [4,0,0,4,4,4,3] [(6,0,[0]),(6,3,[3]),(6,4,[4]),(6,5,[5])] fun wt4 N Gy => ?_;have s10:Stp z.heap.size z wt4:=Sb N;have⟨F9,vR,zO,W,X,nL,nM,qh,qH,Y,Z⟩:=Ep N yB Ai Ez Dt CF CG Aj FT EF FU yA;have b10:=D.then s10 (.inr D.size);refine Rs (pt lp) (aM W.aH 0) ?_;refine aZ (pt lp)<|aZ (pf lp 20)<|Rs (.map (some m.rb)) (aM Y.aH 20) ?_;refine Rs (aC (mY v)) (aM X.aH 0) ?_;refine Rs (.agg (aA 54 (rv .i64 (upd (fun _=>0) a v.aT)))) (fJ Z.aH 0) ?_;refine gG<|Fx.L.Pp (by rfl) rfl rfl rfl rfl rfl F9 Tryd.underlying88 Tryd.underlying22 S fun w7 vS s11 z6 => ?_;have d:=F9.Cw s11;have sG:=vR.dQ d (Ne.symm b.rg);have tO:=zO.dQ d (Ne.symm b.ra);have xJ:=W.dQ d;have tQ:=X.dQ d;have za:=nL.dQ d;have zP:=nM.dQ d;have wM:=qh.dQ d (b.mr);have tT:=qH.dQ d (b.pr);have qj:=Y.dQ d;have vT:=Z.dQ d;have b11:=b10.then s11 (.inl (.inr (.inr (.inr (.inl rfl)))));have wN:Mp w7 m.rb ((m.T.put (mY v) v.node).n) ((m.T.put (mY v) v.node).x) (wP (aN m.R m.T.n (upd (fun _=>0) a v.aT))):=X5 vS;refine Ln (Rn (⟨.tuple #[],iI Tryd.results154,?_⟩));unfold CV; rw[hra];exact⟨rfl,{ c:=qj,t:=wM,p:=tT,r:=wN,g:=sG,a:=tO,ne:=⟨b.mp,b.mr,b.mg,b.ma,b.pr,b.pg,b.pa,b.rg,b.ra,b.ga⟩,lB:=h.lB,pB:=h.pB,rB:=h.rB,gB:=h.gB,aB:=h.aB },b11⟩
theorem X6(m:dM)(lp B:Nat)(w:World)(h:kQ w B lp m)(v:EvM)(K:bM v=true)(aa : ∀ a,a<6->0<=m.own a/\m.own a<=1000) :
 Calls Tryd.prog 145 #[(pt lp),.agg (aA 14 (bH v))] w fun e w'=>Q9 w B lp m (CV m v) (iP m v) e w':=by
 have Y:=h.c;have hT:=h.t;have hP:=h.p;have hR:=h.r;have hG:=h.g;have hA:=h.a;have hN:=h.ne;have lC:=h.c.lt;have lT:=h.t.lt;have lP:=h.p.lt;have lR:=h.r.lt;have lG:=h.g.lt;have lA:=h.a.lt;obtain⟨a,I,ho⟩ : ∃ a:Nat,a<6/\v.o=(a:Int)+1:=eG (iG K);have z:aK v=a:=by unfold aK; omega
 have hbd:=nO K;have Z:0<=mY v/\mY v<=18446744073709551615:=by unfold mY; omega
 have hoa:=aa a I;refine Kent Tryd.func145 38 ?_;refine ay<|xg (pt lp) fun l w1 W L s1 z1 => ?_;have⟨m2,S⟩:=eU s1.old Y (Below.refl w.heap.size w);have sO:=gL W;have nC:=cu W Y.lt;have uo:=L.lt;refine pQ fun b w2 X k s2 z2 => ?_;have⟨O,P,G⟩:=jh s2.old m2 L S;have qN:=jc X S.size;have⟨afG,Og⟩:=yT X m2.lt L.lt;have zL:=k.lt;refine av (.nilFunc)<|av (au 0)<|aD<|Ws ?_;refine K4 (T1:=22) (T2:=3) (T1':=22) (T2':=3) (a1 := .tmp 6) (v1 := .tmp 13) (a2 := .tmp 7) (v2 := .tmp 16) (m1:=1) (m2:=1) (z1:=rv .u64 (fun _=>0)) (y1:=fun _=>aC (mY v)) (z2:=rv .i64 (fun _=>0)) (y2:=fun _=>au (a:Int)) (u1:=aC (mY v)) (u2:=au (a:Int)) 8 9 10 11 [[],[],[],[],[],[],[],[],[],[],[(0,[8]),(1,[9])],[(0,[8]),(1,[9]),(2,[10])]] [[(2,[0]),(3,[0])],[(2,[1]),(3,[1])],[(2,[2]),(3,[2])],[(2,[3]),(3,[3])],[(2,[4]),(3,[4])],[(3,[5])],[(3,[6])],[(3,[7])],[(2,[8]),(3,[8])],[(2,[9]),(3,[9])],[(3,[10])],[]] #[(pt b),au v.o,(pf b 1),aC v.seq,aC (mY v),(pt b),au v.o,au (a:Int),undef,undef,undef,undef] (by kernel_rfl) (by kernel_rfl) (by kernel_rfl) (by kernel_rfl) (by kernel_rfl) (by kernel_rfl) (by kernel_rfl) (by kernel_rfl) (by kernel_rfl) (by kernel_rfl) rfl rfl (by kernel_rfl) (by kernel_rfl) rfl rfl rfl rfl (by kernel_rfl) (by kernel_rfl) (fun d f=>(show ev _ (.tmp 6)=(pt d)from by kernel_rfl)) (fun d f=>(show ev _ (.tmp 7)=(pt f)from by kernel_rfl)) (fun d f=>(show ev _ (.tmp 13)=aC (mY v)from by kernel_rfl)) (fun d f=>(show ev _ (.tmp 16)=au (a:Int)from by kernel_rfl)) (cells_one (by rfl)) (cells_one (by rfl)) (fun _ _=>rfl) (fun _ _=>rfl) (fun d f => ?_) ?_
 ·refine⟨?_,?_,?_,?_,?_,?_,?_,?_,?_,?_,?_,?_,trivial⟩
  ·exact .inr pU
  ·exact .inr (rW (au v.o) fun D n=>bF (x:=bH v) rfl (show ev _ (.tmp 9)=(pt b)from by kernel_rfl) (by kernel_rfl) (k.aH.below n (by have:=k.lt; omega)) (i:=0) (by omega) (by omega) rfl)
  ·exact .inr pU
  ·exact .inr (rW (aC v.seq) fun D n=>bF (x:=bH v) rfl (show ev _ (.tmp 11)=(pf b 1)from by kernel_rfl) (by kernel_rfl) (k.aH.below n (by have:=k.lt; omega)) (i:=1) (by omega) (by omega) rfl)
  ·exact .inr (Fx.Il (v:=aC (mY v)) (by kernel_rfl) (by kernel_rfl) (Fx.qbC (fun D n=>rC (args := [au v.o,aC v.seq]) rfl (Fx.args2 (show ev _ (.tmp 10)=au v.o from by kernel_rfl) (show ev _ (.tmp 12)=aC v.seq from by kernel_rfl)) Tryd.func152 rfl rfl) (fun D n=>(afV v.o v.seq _ (by omega) (by omega)).mono fun e v2 h=>⟨h.1,(by rw[h.2]; exact Below.refl _ _)⟩)))
  ·exact .inr pU
  ·exact .inr (rW (au v.o) fun D n=>bF (x:=bH v) rfl (show ev _ (.tmp 14)=(pt b)from by kernel_rfl) (by kernel_rfl) (k.aH.below n (by have:=k.lt; omega)) (i:=0) (by omega) (by omega) rfl)
  ·exact .inr (rW (au a) fun D n=>Fx.YH rfl (show ev _ (.tmp 15)=au v.o from by kernel_rfl) (show ev _ (.const (au 1))=au 1 from by kernel_rfl) Fx.io)
  ·exact .inl rfl
  ·exact .inl rfl
  ·exact .inl rfl
  exact .inl rfl
 rintro d f w3 u s A C ne1 m6 m7 hb1;have aqP:lp≠d:=t_ (n_ (O.lt) A);have aeO:l≠d:=t_ (n_ (P.lt) A);have aqQ:b≠d:=t_ (n_ (k.lt) A);have aqR:lp≠f:=t_ (n_ (O.lt) C);have aqS:l≠f:=t_ (n_ (P.lt) C);have aqT:b≠f:=t_ (n_ (k.lt) C);have⟨m8,m9,m10,b3⟩:=mJ hb1 O P k G;have A:w.heap.size<=d:=m_ G.size A;have IK:=m6.lt;have C:w.heap.size<=f:=m_ G.size C;have Qi:=m7.lt;have Q:u 2=(pt l):=by rw[s]; kernel_rfl
 have R:u 3=(pt b):=by rw[s]; kernel_rfl
 have q3:u 4 = .nilFunc:=by rw[s]; kernel_rfl
 have q4:u 5=au 0:=by rw[s]; kernel_rfl
 have q5:u 6=(pt d):=by rw[s]; kernel_rfl
 have q6:u 7=(pt f):=by rw[s]; kernel_rfl
 clear s;refine sN<|Ws<|Ws ?_;refine jS [0,2,3,1,4,5,6,7,8,9,10,11] [4,4,0,0,0,4,0,0,0,4,0,0] [] fun qE dU iC => ?_;have⟨m11,M,N,ab,ac,E⟩:=rX dU m8 m9 m10 m6 m7 b3;refine Rs (pt lp) (aM M.aH 0 (ha:=Q)) ?_;refine aZ (pt lp)<|aZ (pf lp 21)<|Rs (au a) (aM ac.aH 0 (ha:=q6)) ?_;refine Rp (pf lp (a+21)) (fun _=>jm 6 1)<|Rs (au (m.own a)) (aM m11.aH (a+21) (Jf (p:=a) (by omega) (by omega))) ?_;by_cases U:5<=(m.own a)
 ·refine Rp aG (fun _=>ko U)<|aZ aG<|Rk (by rfl)<|Rk (by rfl)<|Rk (by rfl)<|aZ aG<|bO<|aO<|ay<|av (.nilFunc)<|av (au 6)<|aD<|Wr<|sR<|aJ (.tuple #[.nilFunc,au 6]) ?_;have j:iP m v=6:=by unfold iP; rw[z]; exact d_ (.inl (by omega))
  exact⟨⟨.nilFunc,0,#[],by rw[j],rfl,fun y=>L_ (j.symm.trans y) (by first|decide|omega|assumption)⟩,E⟩
 refine Rp aF (fun _=>jT U)<|aZ aF<|Rp (pf b 11) (fun _=>jB R 11)<|Rs (au v.aT) (aM N.aH 11) ?_;by_cases V:140737488355328<v.aT
 ·refine Rp aG (fun _=>nu V)<|aZ aG<|bO<|aO<|ay<|av (.nilFunc)<|av (au 6)<|aD<|Wr<|sR<|aJ (.tuple #[.nilFunc,au 6]) ?_;have j:iP m v=6:=by unfold iP; rw[z]; exact d_ (.inr (by omega))
  exact⟨⟨.nilFunc,0,#[],by rw[j],rfl,fun y=>L_ (j.symm.trans y) (by first|decide|omega|assumption)⟩,E⟩
 refine Rp aF (fun _=>ny V)<|aZ aF<|bO<|aL<|Wk<|sN<|Ws<|ay<|Lv (pt lp) (aM M.aH 0 (ha:=Q))<|Lv (aC (mY v)) (aM ab.aH 0 (ha:=q5))<|Lv (pf b 9) (jB R 9)<|Lv (aC v.node) (aM N.aH 9)<|dL (acr m lp B _ (h.up E) (mY v) v.node Z) _ rfl ?_;intro w4 q;have⟨ad,ae,af,m20,H⟩:=qD q M N ab ac E;refine av (au (m.T.err (mY v) v.node))<|aD<|ay<|av (au (m.T.err (mY v) v.node)) ?_;by_cases F:(m.T.err (mY v) v.node)=0
 ·refine Lv aF (jH F)<|aD<|aL<|Wk<|sN<|ay<|Lv (.func (.func 154) #[] #[(pt l),(pt d),(pt b),(pt f)]) (Fx.mG (us := []) (vs := [(pt l),(pt d),(pt b),(pt f)]) rfl rfl (Fx.Rh Q q5 R q6))<|av (.func (.func 154) #[] #[(pt l),(pt d),(pt b),(pt f)])<|av (au 0)<|aD<|Wr<|aJ (.tuple #[.func (.func 154) #[] #[(pt l),(pt d),(pt b),(pt f)],au 0]) ?_;have j:iP m v=0:=by unfold iP; rw[z,b_ (by omega)]; exact F
  exact⟨⟨_,154,#[(pt l),(pt d),(pt b),(pt f)],by rw[j],rfl,fun _=>⟨rfl,⟨_,_,Tryd.func154,rfl,rfl⟩,fun w2 q=>(U5 m lp B w2 ((h.up H).up q) v K F a I z (aa a I) Z _ _ _ _ (ad.bY (Sb q) (t_ ad.lt)) (af.bY (Sb q) (t_ af.lt)) (ae.bY (Sb q) (t_ ae.lt)) (m20.bY (Sb q) (t_ m20.lt))).mono fun _ _ J=>⟨J.1,J.2.1,J.2.2.mono fun _ hk => .inl hk⟩⟩⟩,H⟩
 refine Lv aG (mX F)<|aD<|aO<|ay<|av (au (m.T.err (mY v) v.node))<|av (.nilFunc)<|av (au (m.T.err (mY v) v.node))<|aD<|Wr<|sR<|aJ (.tuple #[.nilFunc,au (m.T.err (mY v) v.node)]) ?_;have j:iP m v=m.T.err (mY v) v.node:=by unfold iP; rw[z,b_ (by omega)]
 exact⟨⟨.nilFunc,0,#[],by rw[j],rfl,fun y=>L_ (j.symm.trans y) (by first|decide|omega|assumption)⟩,H⟩
end Go.Proofs.YtahbiajdgealnaaDoor
namespace Go.Proofs.YtahbiajdgealnaaDoor
open Go.RowKit Go
set_option linter.unusedVariables false
namespace Rt
section
variable {x p:Nat->Int} {n d e:Nat} {k v:Int}
theorem Jm : ∀ {d:Nat} {v:Int},jf x p n d v -> ∀ k,k∈ji x p n d v->(ji x p n d k).length<=(ji x p n d v).length
 | 0,v,h,k,hk=>by cases hk
 | d+1,v,h,k,hk=>by
   cases hv:dO x n v with
   | false=>rw[kE hv]at hk; cases hk
   | true =>
     have e:ji x p n (d+1) v=v::ji x p n d (gZ x p n v):=(by show(if _ then _ else _)=_; rw[d_ hv]);have a:jf x p n d (gZ x p n v):=h hv;rw[e]at hk
     rcases List.mem_cons.1 hk with rfl|hk
     ·exact z_ _
     ·have b:=Jm a k hk;have c:jf x p n d k:=by
       refine AA (d:=d) ?_ (m_ b yj);exact Fp a k hk
      have f:=(IC c (Nat.le_succ d)).1;rw[f,e,List.length_cons]; omega
where Fp : ∀ {d:Nat} {v:Int},jf x p n d v -> ∀ k,k∈ji x p n d v->jf x p n d k
 | 0,v,h,k,hk=>by cases hk
 | d+1,v,h,k,hk=>by
   cases hv:dO x n v with
   | false=>rw[kE hv]at hk; cases hk
   | true =>
     have e:ji x p n (d+1) v=v::ji x p n d (gZ x p n v):=(by show(if _ then _ else _)=_; rw[d_ hv]);have hs:jf x p n d (gZ x p n v):=h hv;rw[e]at hk
     rcases List.mem_cons.1 hk with rfl|hk
     ·exact h
     ·exact(IC (Fp hs k hk) (Nat.le_succ d)).2
theorem Hq : ∀ {d:Nat} {v:Int},jf x p n d v->(ji x p n d v).Nodup
 | 0,v,h=>List.nodup_nil
 | d+1,v,h=>by
   cases hv:dO x n v with
   | false=>rw[kE hv]; exact List.nodup_nil
   | true =>
     have e:ji x p n (d+1) v=v::ji x p n d (gZ x p n v):=(by show(if _ then _ else _)=_; rw[d_ hv]);have a:jf x p n d (gZ x p n v):=h hv;rw[e,List.nodup_cons];refine⟨fun c => ?_,Hq a⟩;have f:=Jm a v c;have b:=(IC (Jm.Fp a v c) (Nat.le_succ d)).1;rw[e]at b;rw[<- b,List.length_cons]at f;omega
end
section
variable {T:dK} {l:List Int} {k:Int}
theorem dK.zY(h:T.ok)(k:Int):(T.path k).Nodup:=Hq (h.stop k)
theorem dK.nR(h:T.ok)(e:l=T.path k) : ∀ v,v∈l->T.has v=true:=fun v c=>by
 obtain⟨i,a,b⟩:=List.getElem_of_mem c;have:=dK.M7 h e a;rw[r_,o_ a]at this;rw[<- b]; exact this
theorem Ce(h:l.Nodup){i j:Nat}(hi:i<l.length)(a:j<l.length)(e:l.getD i 0=l.getD j 0):i=j:=by
 rw[r_,r_,o_ hi,o_ a]at e;exact(List.getElem_inj h).1 e
end
def jA(f:(Nat->Int)->(Nat->Int) × Int)(r:Nat->Nat->Int):Nat->Int
 | 0=>0
 | i+1=>if jA f r i=0 then(f (r i)).2 else jA f r i
section
variable {f:(Nat->Int)->(Nat->Int) × Int} {r:Nat->Nat->Int} {i n:Nat}
theorem Cg(h:jA f r i=0)(a:(f (r i)).2=0):jA f r (i+1)=0:=by unfold jA; rw[d_ h,a]
theorem zZ(h:jA f r i=0)(a : ¬ (f (r i)).2=0) : ∀ n,i<n->jA f r n=(f (r i)).2
 | 0,hn=>L_ hn (u_ _)
 | n+1,hn=>by
   unfold jA;by_cases e:i=n
   ·subst e; rw[d_ h]
   ·rw[zZ h a n (by omega),b_ a]
theorem Fq : ∀ {n:Nat},jA f r n=0 -> ∀ i,i<n->(f (r i)).2=0
 | 0,_,i,hi=>L_ hi (u_ _)
 | n+1,h,i,hi=>by
   unfold jA at h;by_cases a:jA f r n=0
   ·rw[d_ a]at h;by_cases e:i=n
    ·rw[e]; exact h
    ·exact Fq a i (by omega)
   ·rw[b_ a]at h; exact L_ h a
end
def FX(m:dM)(k:Int):Nat->Int:=m.R (m.idx k)
def dn(m:dM)(f:(Nat->Int)->(Nat->Int) × Int)(l:List Int):Int:=jA f (fun i=>FX m (l.getD i 0)) l.length
open Classical in
noncomputable def qm(m:dM)(f:(Nat->Int)->(Nat->Int) × Int)(l:List Int):dM := { m with R:=fun i=>if m.T.x i∈l then(f (m.R i)).1 else m.R i }
def CW(l:List Int)(S:Nat->Bool)(v:Int):Nat->Bool
 | 0=>false
 | n+1=>CW l S v n || (S n&&decide (l.getD n 0=v))
theorem qP{l:List Int}{S:Nat->Bool}{v:Int} : ∀ {n:Nat},CW l S v n=true <-> ∃ q,q<n/\S q=true/\l.getD q 0=v
 | 0=>⟨fun h=>(nomatch h),fun⟨q,h,_⟩=>L_ h (u_ _)⟩
 | n+1=>by
   unfold CW;rw[Bool.or_eq_true,qP,R_,O_];constructor
   ·rintro (⟨q,c,a,b⟩|⟨c,a⟩)
    ·exact⟨q,by omega,a,b⟩
    ·exact⟨n,by omega,c,a⟩
   ·rintro ⟨q,c,a,b⟩;by_cases e:q=n
    ·subst e; exact .inr ⟨a,b⟩
    ·exact .inl ⟨q,by omega,a,b⟩
def xP(m:dM)(f:(Nat->Int)->(Nat->Int) × Int)(l:List Int)(S:Nat->Bool):Nat->Nat->Int:=fun i=>if CW l S (m.T.x i) l.length=true then(f (m.R i)).1 else m.R i
theorem Nc(m:dM)(f:(Nat->Int)->(Nat->Int) × Int)(l:List Int):xP m f l (fun _=>false)=m.R:=by
 funext i
 unfold xP;rw[b_];rw[qP];rintro ⟨q,_,h,_⟩; cases h
theorem QC{m:dM}(o:m.T.ok){f:(Nat->Int)->(Nat->Int) × Int}{l:List Int}{S:Nat->Bool}{q j:Nat}(t:q<l.length)(s:j<m.T.n)(g:m.T.x j=l.getD q 0) : ∀ i,i<m.T.n->Fx.aN (xP m f l S) j (f (m.R j)).1 i=xP m f l (Fx.aN S q true) i:=fun i p=>by
 unfold Fx.aN;by_cases e:i=j
 ·subst e;rw[d_ rfl];unfold xP;rw[d_];rw[qP];exact⟨q,t,by show(if q=q then true else S q)=true; rw[d_ rfl],g.symm⟩
 ·rw[b_ e];unfold xP;have:CW l S (m.T.x i) l.length=true<->CW l (fun i=>if i=q then true else S i) (m.T.x i) l.length=true:=by
   rw[qP,qP];constructor
   ·rintro ⟨r,d,a,b⟩;exact⟨r,d,by show(if r=q then true else S r)=true; split <;> first|rfl|exact a,b⟩
   ·rintro ⟨r,d,a,b⟩;by_cases k:r=q
    ·subst k;exact L_ (o.inj i j p s (by rw[g,<- b])) e
    ·exact⟨r,d,by have a:(if r=q then true else S r)=true:=a; rw[b_ k]at a; exact a,b⟩
  by_cases c:CW l S (m.T.x i) l.length=true
  ·rw[d_ c,d_ (this.1 c)]
  ·rw[b_ c,b_ (fun h=>c (this.2 h))]
theorem U6{m:dM}{f:(Nat->Int)->(Nat->Int) × Int}{l:List Int}{S:Nat->Bool}(h : ∀ q,q<l.length->S q=true):xP m f l S=(qm m f l).R:=by
 funext i
 show _=if m.T.x i∈l then(f (m.R i)).1 else m.R i;unfold xP;have:CW l S (m.T.x i) l.length=true<->m.T.x i∈l:=by
  rw[qP];constructor
  ·rintro ⟨q,b,_,d⟩;rw[<- d,r_,o_ b]; exact P_ b
  ·intro g;obtain⟨q,a,e⟩:=List.getElem_of_mem g;exact⟨q,a,h q a,by rw[r_,o_ a]; exact e⟩
 by_cases c:m.T.x i∈l
 ·rw[d_ (this.2 c),d_ c]
 rw[b_ (fun h=>c (this.1 h)),b_ c]
def rF(m:dM)(f:(Nat->Int)->(Nat->Int) × Int)(l:List Int):Nat->Value:=fun q => .agg (Fx.aA 54 (Fx.rv .i64 (f (FX m (l.getD q 0))).1))
theorem Hr{m:dM}{f:(Nat->Int)->(Nat->Int) × Int}{l:List Int}{w:World}{b i:Nat}{r:Nat->Int}(h:Fx.Mp w b (i+1) (Fx.aN (fun q=>l.getD q 0) i (l.getD i 0)) (Fx.aN (rF m f l) i (.agg (Fx.aA 54 (Fx.rv .i64 r)))))(e:r=(f (FX m (l.getD i 0))).1):Fx.Mp w b (i+1) (fun q=>l.getD q 0) (rF m f l):=h.uh fun q a=>by
 unfold Fx.aN;by_cases c:q=i
 ·subst c; rw[d_ rfl,d_ rfl,e]; exact⟨rfl,rfl⟩
 ·rw[b_ c,b_ c]; exact⟨rfl,rfl⟩
end Rt
end Go.Proofs.YtahbiajdgealnaaDoor
namespace Go.Proofs.YtahbiajdgealnaaDoor
open Go.RowKit Rt
open Fx (fI fq fP bF gX gW dA dY gP jE eZ jF gy jv jG Lv sN Ln Ws Qv Wl Rp Wc Qs Wr Sb Lk Wk rC rV sR Rs Rn Rd Rk Wb Wx Wo FQ Wt rT K4 Qn F3 Bl Af Ar DI Ei rM gK Av mV wI uT wX xX Aq DL Au rv aA aQ bR aN ev bZ Stp dJ aR flat dD Mp fA aU iR iQ bJ down iI jM iT nY bP bL cells_one jl bS wQ unseen jN iK bX dH bI bT cK cO gU iB qo gu)
set_option maxRecDepth 20000
set_option linter.unusedVariables false
theorem U7(x:Nat->Int)(v:EvM)(a:Nat)(w:World)(E:1<=v.o/\v.o<=6)(b:aQ w a 14 (bH v) 28) :
 Calls Tryd.prog 158 #[.agg (aA 54 (rv .i64 x)),(pt a)] w fun e w'=>e = .returned (.tuple #[.agg (aA 54 (rv .i64 (bC x v.o v.aT).1)),au (bC x v.o v.aT).2])/\Below w.heap.size w w':=by
 have H:=b.lt;refine Kent Tryd.func158 13 ?_;refine ay<|pQ fun D P i c A S => ?_;have⟨k,g⟩:=eU A.old b (Below.refl w.heap.size w);have F:=gL i;have K:=cu i b.lt;have N:=c.lt;refine qC 54 (rv .i64 (fun _=>0)) fun q Q j l B T => ?_;have⟨d,m,n⟩:=jh B.old k c g;have G:=jc j g.size;have⟨L,M⟩:=yT j k.lt c.lt;have O:=l.lt;refine av (au 0)<|aD<|ay<|Lv (.agg (aA 54 (rv .i64 x))) (fJ m.aH 0)<|av (pt a)<|Lv (au v.o) (aM d.aH 0)<|av (pf a 11)<|Lv (au v.aT) (aM d.aH 11)<|dL (abK (x) v.o v.aT _ (by omega)) _ rfl ?_;intro R r;have⟨t,u,y,h⟩:=mJ r d m l n;refine av (.agg (aA 54 (rv .i64 ((bC (x) v.o v.aT).1))))<|av (au ((bC (x) v.o v.aT).2))<|dZ y 0 fun C z f U => ?_;have s:aQ C q 54 (rv .i64 ((bC (x) v.o v.aT).1)) 82:=aR z;have I:=t.bY f (by omega);have J:=u.bY f (by omega);have p:=f.below h h.size (by omega);refine av (au ((bC (x) v.o v.aT).2)) (aD (Wr (⟨.tuple #[.agg (aA 54 (rv .i64 ((bC (x) v.o v.aT).1))),au ((bC (x) v.o v.aT).2)],gu Tryd.results158 ⟨_,rfl,aU s.aH (by kernel_rfl) (by kernel_rfl)⟩ (by exact rfl),?_⟩)));exact⟨rfl,p⟩
theorem U8(x:Nat->Int)(v:EvM)(g:Nat->Int)(b c:Nat)(w:World)(K:1<=v.o/\v.o<=6)(d:aQ w b 14 (bH v) 28)(f:aQ w c 5 (ng g) 99) :
 Calls Tryd.prog 161 #[.agg (aA 54 (rv .i64 x)),(pt b),(pt c)] w fun e w'=>e = .returned (.tuple #[.agg (aA 54 (rv .i64 (bD x v.o (g 3)).1)),au (bD x v.o (g 3)).2])/\Below w.heap.size w w':=by
 have N:=d.lt;have O:=f.lt;refine Kent Tryd.func161 14 ?_;refine ay<|pQ fun J Z k h G z1 => ?_;have⟨m,n,i⟩:=jh G.old d f (Below.refl w.heap.size w);have L:=gL k;have⟨S,T⟩:=yT k d.lt f.lt;have X:=h.lt;refine qC 54 (rv .i64 (fun _=>0)) fun y w2 l p H z2 => ?_;have⟨q,r,s,t⟩:=mJ H.old m n h i;have M:=jc l i.size;have⟨U,V,W⟩:=Dh l m.lt n.lt h.lt;have Y:=p.lt;refine av (au 0)<|aD<|ay<|Lv (.agg (aA 54 (rv .i64 x))) (fJ s.aH 0)<|av (pt b)<|Lv (au v.o) (aM q.aH 0)<|av (pf c 3)<|Lv (au (g 3)) (aM r.aH 3)<|dL (abL (x) v.o (g 3) _ (by omega)) _ rfl ?_;intro w3 z;have⟨E,F,A,B,j⟩:=qD z q r s p t;refine av (.agg (aA 54 (rv .i64 ((bD (x) v.o (g 3)).1))))<|av (au ((bD (x) v.o (g 3)).2))<|dZ B 0 fun I C a z3 => ?_;have D:aQ I y 54 (rv .i64 ((bD (x) v.o (g 3)).1)) 82:=aR C;have P:=E.bY a (by omega);have Q:=F.bY a (by omega);have R:=A.bY a (by omega);have u:=a.below j j.size (by omega);refine av (au ((bD (x) v.o (g 3)).2)) (aD (Wr (⟨.tuple #[.agg (aA 54 (rv .i64 ((bD (x) v.o (g 3)).1))),au ((bD (x) v.o (g 3)).2)],gu Tryd.results161 ⟨_,rfl,aU D.aH (by kernel_rfl) (by kernel_rfl)⟩ (by exact rfl),?_⟩)));exact⟨rfl,u⟩
theorem K5(m:dM)(lp B:Nat)(w:World)(h:kQ w B lp m)(j:(Nat->Int)->(Nat->Int) × Int)(l:List Int)(o:Nat)(hgM:m.rb≠o/\m.mb≠o/\m.pb≠o/\m.gb≠o/\m.ab≠o)(hlh : ∀ k,k∈l->m.T.has k=true)(H:Mp w o l.length (fun q=>l.getD q 0) (rF m j l))(y:Nat)(z:Nat)(G:aQ w y 1 (fun _ => .map (some o)) 88)(Y:aQ w z 1 (fun _=>(pt lp)) 44) :
 Calls Tryd.prog 170 #[(pt y),(pt z)] w fun e w'=>e = .returned (.tuple #[])/\kQ w' B lp (qm m j l)/\jM (Bp m lp) w w':=by
 have hC:=h.c;have hT:=h.t;have hP:=h.p;have hR:=h.r;have hG:=h.g;have hA:=h.a;have b:=h.ne;have lC:=h.c.lt;have lT:=h.t.lt;have lP:=h.p.lt;have lR:=h.r.lt;have lG:=h.g.lt;have lA:=h.a.lt;have lg8:=G.lt;have YV:=Y.lt;have lF:=H.lt;obtain⟨hg1,hg2,hg3,hg4,hg5⟩:=hgM;refine Kent Tryd.func170 17 ?_;refine ay<|Lv (.map (some o)) (aM G.aH 0)<|Fx.L.range (by rfl) rfl rfl rfl H Tryd.underlying88 fun E w1 mR m1 s1 z1 => ?_;have⟨m2,m3,m4,m5,m6,m7,m8,m9,m10⟩:=Bt s1.old hC hT hP hR hG hA H G Y;have b1:=(uT (Bp m lp) w).then s1 (.inr (uT (Bp m lp) w).size);have sO:w.heap.size<=E:=by rw[mR]; exact(uT (Bp m lp) w).size
 have uo:=m1.lt;refine aD<|Wb ?_;have m11:Mp w1 m.rb m.T.n m.T.x (wP (xP m j l (fun _=>false))):=by rw[Nc]; exact m5
 refine FQ (fun Z f u => ∃ S:Nat->Bool,∃ J:Nat,J=unseen S l.length/\J=Z/\f 0=(pt y)/\f 1=(pt z)/\f 5=(pt E)/\aQ u lp 29 (vg m) 93/\rR u B m.tp m.mb m.T/\Mp u m.pb m.T.n m.T.x (Fb m.T)/\iR u m.gb m.gn (fun i=>m.g i 0) (fun i=>m.g i 1) (zW m.g)/\iR u m.ab m.an m.ao m.ar Fe/\Mp u o l.length (fun q=>l.getD q 0) (rF m j l)/\aQ u y 1 (fun _ => .map (some o)) 88/\aQ u z 1 (fun _=>(pt lp)) 44/\Mp u m.rb m.T.n m.T.x (wP (xP m j l S))/\Fx.It u E o l.length S/\jM (Bp m lp) w u) (unseen (fun _=>false) l.length) ⟨(fun _=>false),(unseen (fun _=>false) l.length),rfl,rfl,(by rfl),(by rfl),(by rfl),m2,m3,m4,m6,m7,m8,m9,m10,m11,m1,b1⟩ ?_;rintro Z f1 w2 ⟨S,J,hkk,hkE,V,W,F,m12,m13,m14,m15,m16,m17,m18,m19,m20,K,P⟩;refine ay<|Fx.L.next (by rfl) rfl rfl F m17 K (fun uD => ?_)<|fun d w3 A hS1 m22 mc1 s2 z2 => ?_
 ·skip
  refine av aF (aD (Ws (aL (Wx (cK (gU (cO (⟨.tuple #[],iI Tryd.results170,?_⟩))))))));have m23:Mp w2 m.rb m.T.n m.T.x (wP (qm m j l).R):=by rw[<- U6 uD]; exact m20
  exact⟨rfl,{ c:=m12,t:=m13,p:=m14,r:=m23,g:=m15,a:=m16,ne:=⟨b.mp,b.mr,b.mg,b.ma,b.pr,b.pg,b.pa,b.rg,b.ra,b.ga⟩,lB:=h.lB,pB:=h.pB,rB:=h.rB,gB:=h.gB,aB:=h.aB },P⟩
 skip
 have v:=K.Cw s2;have m24:=m12.dQ v;have mZ:=m13.dQ v (by omega);have nT:=m14.dQ v (by omega);have oM:=m15.dQ v (by omega);have oN:=m16.dQ v (by omega);have M:=m17.dQ v (K.rb.symm);have qc:=m18.dQ v;have lU:=m19.dQ v;have m32:=m20.dQ v (by omega);have C:=P.then s2 (.inr sO);refine av aG<|aD<|Ws<|aO<|Wk<|sN<|Wb<|ay<|Lv (.tuple #[aC (l.getD d 0),.agg (aA 54 (rv .i64 ((j (FX m (l.getD d 0))).1)))]) (Fx.NR (key:=fun q=>l.getD q 0) (val:=rF m j l) (i:=d) rfl F M mc1 A)<|av (aC (l.getD d 0))<|av (.agg (aA 54 (rv .i64 ((j (FX m (l.getD d 0))).1))))<|qC 54 (rv .i64 (fun _=>0)) fun g2 w4 U N s3 z3 => ?_;have⟨og,qG,pV,uf,rP,qM,uq,nU,nD,nE,rY⟩:=Ep s3.old m24 mZ nT oM oN M qc lU m32 mc1 m22;have b4:=C.then s3 (.inr C.size);have qN:=jc U C.size;have⟨anh,ani,anj,ank,anl,anm,ano,anp⟩:=WG U m24.lt nT.lt oM.lt oN.lt M.lt qc.lt lU.lt m32.lt;have zL:=N.lt;refine av (aC (l.getD d 0))<|dZ N 0 fun O rQ s4 z4 => ?_;have pz:aQ O g2 54 (rv .i64 ((j (FX m (l.getD d 0))).1)) 82:=aR rQ;have gM:=gK s4 N.ty;have⟨rZ,xB,tK,sQ,uw,uU,uV,uy,wD,sS,sj⟩:=YS gM og qG pV uf rP qM uq nU nD nE rY;have Q:=b4.then s4 (.inr qN);refine aD ?_;obtain⟨jz,I,D⟩:=gQ (hlh _ (xw A rfl));have ejx:FX m (l.getD d 0)=m.R jz:=by unfold FX dM.idx; rw[nQ h.t.inv.inj I D]
 refine jS [4,0,1,2,3,5,6] [4,0,0,4,0,4,3] [(6,0,[0]),(6,3,[3]),(6,5,[5])] fun qE X iC => ?_;have s5:Stp O.heap.size O qE:=Sb X;have⟨sU,xC,ru,uW,oh,tL,m64,yY,wE,wR,wK,sV⟩:=NM X rZ xB tK sQ uw uU uV uy wD sS sj pz;have b6:=Q.then s5 (.inr Q.size);refine aZ (aC (l.getD d 0))<|Rs (pt lp) (aM yY.aH 0 (ha:=W)) ?_;refine aZ (pt lp)<|aZ (pf lp 20)<|Rs (.map (some m.rb)) (aM sU.aH 20) ?_;refine Rs (.agg (aA 54 (rv .i64 ((j (FX m (l.getD d 0))).1)))) (fJ sV.aH 0) ?_;refine gG<|Fx.L.Z8 (by rfl) rfl rfl rfl rfl rfl wE Tryd.underlying88 Tryd.underlying22 I D fun w6 uX s6 z5 => ?_;have s:=wE.Cw s6;have uz:=sU.dQ s;have vI:=xC.dQ s (b.mr);have tN:=ru.dQ s (b.pr);have Ah:=uW.dQ s (Ne.symm b.rg);have vJ:=oh.dQ s (Ne.symm b.ra);have yt:=tL.dQ s (by omega);have yu:=m64.dQ s;have wS:=yY.dQ s;have wT:=wR.dQ s (by omega) (by omega);have sZ:=wK.dQ s (by omega) (by omega);have uY:=sV.dQ s;have b7:=b6.then s6 (.inl (.inr (.inr (.inr (.inl rfl)))));have xD:Mp w6 m.rb m.T.n m.T.x (wP (xP m j l (aN S d true))):=by have q9:=D8 _ _ _ _ uX; rw[ejx]at q9; exact q9.uh fun i hi=>⟨rfl,by unfold wP; rw[QC h.t.inv A I D i hi]⟩
 refine Ln (Rn (bT (iB ⟨unseen (aN S d true) l.length,(by have V:=Fx.qX hS1 l.length A; omega),(aN S d true),(unseen (aN S d true) l.length),rfl,rfl,V,W,F,uz,vI,tN,Ah,vJ,yt,yu,wS,xD,sZ,b7⟩ (by decide))))
theorem U9(m:dM)(lp B:Nat)(w:World)(h:kQ w B lp m)(A:Int)(v:EvM)(ho:1<=v.o/\v.o<=6)(D:Nat)(s:aQ w D 14 (bH v) 28) :
 Calls Tryd.prog 157 #[(pt lp),aC A,.func (.func 158) #[] #[(pt D)]] w fun e w'=>Q9 w B lp m (qm m (fun x=>bC x v.o v.aT) (m.T.path A)) (dn m (fun x=>bC x v.o v.aT) (m.T.path A)) e w':=by
 have hC:=h.c;have hT:=h.t;have hP:=h.p;have hR:=h.r;have hG:=h.g;have hA:=h.a;have hN:=h.ne;have lC:=h.c.lt;have lT:=h.t.lt;have lP:=h.p.lt;have lR:=h.r.lt;have lG:=h.g.lt;have lA:=h.a.lt;have Zl:=s.lt;refine Kent Tryd.func157 44 ?_;refine ay<|xg (pt lp) fun y w1 mR X s1 z1 => ?_;have⟨m2,m3,m4,m5,m6,m7,m8,b1⟩:=lK s1.old hC hT hP hR hG hA s (Below.refl w.heap.size w);have sO:=gL mR;have⟨nC,zB,xI,CQ,AP,Kt⟩:=JO mR hC.lt hP.lt hR.lt hG.lt hA.lt s.lt;have uo:=X.lt;refine av (.nilFunc)<|av (au 0)<|aD<|ay<|Fx.L.JQ (by rfl) rfl rfl fun d w2 yZ m9 s2 z2 => ?_;have⟨m10,m11,m12,m13,m14,m15,m16,m17,b2⟩:=Bt s2.old m2 m3 m4 m5 m6 m7 m8 X b1;have qN:=jc yZ b1.size;have⟨Fu,Fg,zX,BZ,zK,Mq,Ta⟩:=Me yZ m2.lt m4.lt m5.lt m6.lt m7.lt m8.lt X.lt;have zL:=m9.lt;refine qC 1 (fun _ => .map none) fun u w3 xE Y s3 z3 => ?_;have⟨m19,m20,m21,m22,m23,m24,mZ,nT,oM,b3⟩:=xk s3.old m10 m11 m12 m13 m14 m15 m16 m17 m9 b2;have Bz:=jc xE b2.size;have⟨acw,Va,acy,Vb,Vd,M5,acz,M6⟩:=WG xE m10.lt m12.lt m13.lt m14.lt m15.lt m16.lt m17.lt m9.lt;have IK:=Y.lt;refine iX Y 0 (.map (some d)) fun N oN s4 z4 => ?_;have oZ:aQ N u 1 (fun _ => .map (some d)) 88:=dH oN;have gM:=gK s4 Y.ty;have⟨qc,lU,m32,qw,og,qG,pV,uf,rP⟩:=Z7 gM m19 m20 m21 m22 m23 m24 mZ nT oM;have b4:=s4.below b3 b3.size (by omega);refine aD<|Ws<|ay<|Lv (pt lp) (aM uf.aH 0)<|av (pt lp)<|av (pf lp 18)<|Lv (pt m.tp) (aM qc.aH 18)<|av (aC A)<|lS (IJ A lU) ?_;rintro e9 w5 ⟨pa1,C,s,qM,hb1⟩;refine⟨_,s,?_⟩;clear s;have⟨uq,nU,nD,nE,rY,rQ,pz,rZ,xB,tK,b5⟩:=Ep hb1 qc lU m32 qw og qG pV uf rP oZ b4;obtain⟨l,G⟩ : ∃ q,q=dK.path m.T A:=⟨_,rfl⟩;rw[<- G]at qM ⊢;have hl4:l.length<=4:=by rw[G]; exact dK.yI
 refine av (au l.length)<|av (au 0)<|aD<|Wb ?_;have sQ:Mp w5 d 0 (fun q=>l.getD q 0) (rF m (fun x=>bC x v.o v.aT) l):=xB.uh fun i hi=>L_ hi (u_ _);refine Wo (fun f j => ∃ i:Nat,i<=l.length/\jA (fun x=>bC x v.o v.aT) (fun i=>FX m (l.getD i 0)) i=0/\f 2 = .func (.func 158) #[] #[(pt D)]/\f 3=(pt y)/\f 8=(pt u)/\f 19 = .slice pa1 (l.length) (C)/\f 20=au (l.length:Int)/\f 21=au (i:Int)/\aQ j lp 29 (vg m) 93/\rR j B m.tp m.mb m.T/\Mp j m.pb m.T.n m.T.x (Fb m.T)/\Mp j m.rb m.T.n m.T.x (wP m.R)/\iR j m.gb m.gn (fun i=>m.g i 0) (fun i=>m.g i 1) (zW m.g)/\iR j m.ab m.an m.ao m.ar Fe/\aQ j D 14 (bH v) 28/\aQ j y 1 (fun _=>(pt lp)) 44/\aQ j u 1 (fun _ => .map (some d)) 88/\Fx.Own j N.heap.size 22 1 (.slice pa1 (l.length) (C)) l.length (yV l)/\Mp j d i (fun q=>l.getD q 0) (rF m (fun x=>bC x v.o v.aT) l)/\Below w.heap.size w j) (fun f _=>((l.length:Int)-intOf (f 21)).toNat) ⟨0,(by omega),rfl,(by rfl),(by rfl),(by rfl),(by rfl),Fx.ic,Fx.ic,uq,nU,nD,nE,rY,rQ,pz,rZ,tK,qM,sQ,b5⟩ ?_;rintro f1 w6 ⟨i,hi,J,h1,S,U,h4,V,F,uw,uU,uV,uy,wD,sS,sj,M,Z,ru,aa,O⟩;refine ay ?_;by_cases c22:(i:Int)<(l.length:Int)
 ·refine Lv aG (iL c22 (hx:=F) (hy:=V))<|aD<|Ws<|aO<|Wk<|sN<|Ws<|Wb<|ay ?_;obtain⟨GN,Q⟩:=ru.addr (by omega);have oh:Fx.Own w6 N.heap.size 22 1 (bK GN l.length C) l.length (yV l):=ru.fH (K_ (fun q=>Value.slice q l.length C) Q);refine Lv (pf GN i) (dh 1 (hx:=(h4.trans (K_ (fun q=>Value.slice q (l.length) (C)) Q))) (hi:=F))<|Lv (aC (l.getD i 0)) (aM oh.aH i)<|av (aC (l.getD i 0))<|aD<|Ws ?_;obtain⟨b,hjz,ejz⟩:=gQ (dK.nR h.t.inv G _ (xw (show i<l.length by omega) rfl));have I:FX m (l.getD i 0)=m.R b:=by unfold FX dM.idx; rw[nQ h.t.inv.inj hjz ejz]
  refine Wl<|aY h1<|Lv (pt lp) (aM M.aH 0 (ha:=S))<|av (pt lp)<|av (pf lp 20)<|Lv (.map (some m.rb)) (aM uw.aH 20)<|av (aC (l.getD i 0))<|Lv (.agg (aA 54 (rv .i64 (m.R b)))) (Fx.Ay (z := .agg (aA 54 (rv .i64 (fun _=>0)))) rfl rfl rfl uy Tryd.underlying88 Tryd.underlying22 (by kernel_rfl) hjz ejz rfl)<|Bl (by rfl) (Fx.Ej (args := [.agg (aA 54 (rv .i64 (m.R b)))]) rfl rfl rfl (all := #[.agg (aA 54 (rv .i64 (m.R b))),(pt D)]) rfl Tryd.func158 rfl rfl) rfl<|(U7 (m.R b) v D _ ho sj).mono ?_;rintro e w7 ⟨s,E⟩;refine⟨.tuple #[.agg (aA 54 (rv .i64 ((bC (m.R b) v.o v.aT).1))),au ((bC (m.R b) v.o v.aT).2)],by rw[s],?_⟩;clear s;have⟨tL,m64,yY,wE,wR,wK,sV,uX,uz,vI,tN,b7⟩:=NM E uw uU uV uy wD sS sj M Z aa oh O;refine av (.tuple #[.agg (aA 54 (rv .i64 ((bC (m.R b) v.o v.aT).1))),au ((bC (m.R b) v.o v.aT).2)])<|av (.agg (aA 54 (rv .i64 ((bC (m.R b) v.o v.aT).1))))<|av (au ((bC (m.R b) v.o v.aT).2))<|qC 54 (rv .i64 (fun _=>0)) fun g4 w8 JZ ac s7 z5 => ?_;have⟨vJ,yt,yu,wS,wT,sZ,uY,xD,yw,wF,zw,b8⟩:=NM s7.old tL m64 yY wE wR wK sV uX uz vI tN b7;have Q7:=jc JZ b7.size;have⟨abV,abW,abX,abY,anq,anr,acA,ant,acB,acC⟩:=YT JZ tL.lt yY.lt wE.lt wR.lt wK.lt sV.lt uX.lt uz.lt vI.lt tN.lt;have Qi:=ac.lt;refine dZ ac 0 fun w9 yx s8 z6 => ?_;have zJ:aQ w9 g4 54 (rv .i64 ((bC (m.R b) v.o v.aT).1)) 82:=aR yx;have kr:=gK s8 ac.ty;have⟨yA,yB,Ai,Ez,Dt,CF,CG,Aj,FT,EF,FU⟩:=YS kr vJ yt yu wS wT sZ uY xD yw wF zw;have P:=s8.below b8 b8.size (by omega);refine av (au ((bC (m.R b) v.o v.aT).2))<|aD<|Ws<|ay<|av (au ((bC (m.R b) v.o v.aT).2)) ?_;by_cases H:((bC (m.R b) v.o v.aT).2)=0
  ·refine Lv aF (jH H)<|aD<|aL<|Wk<|sN ?_;have hnd:l.Nodup:=(by rw[G]; exact dK.zY h.t.inv A);have hny : ∀ q,q<i->(fun q=>l.getD q 0) q≠l.getD i 0:=fun q hq e=>by have:=Ce hnd (show q<l.length by omega) (show i<l.length by omega) e; omega
   refine Wl<|Lv (.map (some d)) (aM FT.aH 0 (ha:=U))<|av (aC (l.getD i 0))<|Lv (.agg (aA 54 (rv .i64 ((bC (m.R b) v.o v.aT).1)))) (fJ zJ.aH 0)<|Fx.L.Pp (by rfl) rfl rfl rfl rfl rfl EF Tryd.underlying88 Tryd.underlying22 hny fun rO F9 s9 z7 => ?_;have k:=EF.Cw s9;have vR:=yA.dQ k;have zO:=yB.dQ k (by omega);have uK:=Ai.dQ k (by omega);have sD:=Ez.dQ k (by omega);have nL:=Dt.dQ k (by omega);have nM:=CF.dQ k (by omega);have qh:=CG.dQ k;have qH:=Aj.dQ k;have qI:=FT.dQ k;have sF:=FU.dQ k;have vS:=zJ.dQ k;have b10:=s9.below P P.size (by omega);have sG:Mp rO d (i+1) (fun q=>l.getD q 0) (rF m (fun x=>bC x v.o v.aT) l):=Hr F9 (by rw[I]);refine Ln<|bT<|sN<|Wl<|Lv (au ((i:Int)+1)) (fE (hx:=F))<|av (au ((i:Int)+1))<|Ln ?_;have tO:Fx.Own rO N.heap.size 22 1 (.slice pa1 (l.length) (C)) l.length (yV l):=sF.fH (K_ (fun q=>Value.slice q l.length C) Q.symm);refine iB ⟨i+1,(by omega),(Cg J (by rw[I]; exact H)),h1,S,U,h4,(V.trans Fx.ic),Fx.ic,vR,zO,uK,sD,nL,nM,qh,qH,qI,tO,sG,b10⟩ ?_;show((l.length:Int)-intOf (au ((i:Int)+1))).toNat<_;simp only[F,intOf]; omega
  refine Lv aG (mX H)<|aD<|aO<|ay<|av (au ((bC (m.R b) v.o v.aT).2))<|av (.nilFunc)<|av (au ((bC (m.R b) v.o v.aT).2))<|aD<|Wr<|sR<|bI<|sR<|qo<|bI<|sR<|aJ (.tuple #[.nilFunc,au ((bC (m.R b) v.o v.aT).2)]) ?_;have K:dn m (fun x=>bC x v.o v.aT) l=(bC (m.R b) v.o v.aT).2:=by unfold dn; rw[zZ J (by rw[I]; exact H) _ (by omega),I]
  exact⟨⟨.nilFunc,0,#[],by rw[K],rfl,fun e0=>L_ (K.symm.trans e0) (by first|decide|omega|assumption)⟩,P⟩
 refine Lv aF (iM c22 (hx:=F) (hy:=V))<|aD<|Ws<|aL<|Wx<|cK<|gU<|cO<|sN<|ay<|Lv (.func (.func 170) #[] #[(pt u),(pt y)]) (Fx.mG (us := []) (vs := [(pt u),(pt y)]) rfl rfl (Fx.args2 U S))<|av (.func (.func 170) #[] #[(pt u),(pt y)])<|av (au 0)<|aD<|Wr<|aJ (.tuple #[.func (.func 170) #[] #[(pt u),(pt y)],au 0]) ?_;have hil:i=l.length:=by omega
 rw[hil]at aa J;have hgm:m.rb≠d/\m.mb≠d/\m.pb≠d/\m.gb≠d/\m.ab≠d:=⟨by omega,by omega,by omega,by omega,by omega⟩;have K:dn m (fun x=>bC x v.o v.aT) l=0:=J;exact⟨⟨_,170,#[(pt u),(pt y)],by rw[K],rfl,fun _=>⟨rfl,⟨_,_,Tryd.func170,rfl,rfl⟩,fun w2 E=>(K5 m lp B w2 ((h.up O).up E) (fun x=>bC x v.o v.aT) l d hgm (dK.nR h.t.inv G) (aa.up E) _ _ (Z.bY (Sb E) (t_ Z.lt)) (M.bY (Sb E) (t_ M.lt))).mono fun _ _ W=>⟨W.1,W.2.1,W.2.2.mono fun _ hk => .inl hk⟩⟩⟩,O⟩
theorem Ve(m:dM)(lp B:Nat)(w:World)(h:kQ w B lp m)(A:Int)(v:EvM)(g:Nat->Int)(ho:1<=v.o/\v.o<=6)(D E:Nat)(s:aQ w D 14 (bH v) 28)(Y:aQ w E 5 (ng g) 99) :
 Calls Tryd.prog 157 #[(pt lp),aC A,.func (.func 161) #[] #[(pt D),(pt E)]] w fun e w'=>Q9 w B lp m (qm m (fun x=>bD x v.o (g 3)) (m.T.path A)) (dn m (fun x=>bD x v.o (g 3)) (m.T.path A)) e w':=by
 have hC:=h.c;have hT:=h.t;have hP:=h.p;have hR:=h.r;have hG:=h.g;have hA:=h.a;have hN:=h.ne;have lC:=h.c.lt;have lT:=h.t.lt;have lP:=h.p.lt;have lR:=h.r.lt;have lG:=h.g.lt;have lA:=h.a.lt;have Zl:=s.lt;have lgg:=Y.lt;refine Kent Tryd.func157 44 ?_;refine ay<|xg (pt lp) fun y w1 mR Z s1 z1 => ?_;have⟨m2,m3,m4,m5,m6,m7,m8,m9,b1⟩:=Bt s1.old hC hT hP hR hG hA s Y (Below.refl w.heap.size w);have sO:=gL mR;have⟨nC,zB,xI,CQ,AP,Kt,aeW⟩:=Me mR hC.lt hP.lt hR.lt hG.lt hA.lt s.lt Y.lt;have uo:=Z.lt;refine av (.nilFunc)<|av (au 0)<|aD<|ay<|Fx.L.JQ (by rfl) rfl rfl fun d w2 yZ aa s2 z2 => ?_;have⟨m11,m12,m13,m14,m15,m16,m17,m18,m19,b2⟩:=xk s2.old m2 m3 m4 m5 m6 m7 m8 m9 Z b1;have qN:=jc yZ b1.size;have⟨BX,zX,BZ,zK,Mq,Ta,acs,anu⟩:=WG yZ m2.lt m4.lt m5.lt m6.lt m7.lt m8.lt m9.lt Z.lt;have zL:=aa.lt;refine qC 1 (fun _ => .map none) fun u w3 xE ac s3 z3 => ?_;have⟨m21,m22,m23,m24,mZ,nT,oM,oN,oZ,qc,b3⟩:=Ep s3.old m11 m12 m13 m14 m15 m16 m17 m18 m19 aa b2;have Bz:=jc xE b2.size;have⟨Va,Vb,Vd,M5,acz,M6,UL,UM,UN⟩:=WH xE m11.lt m13.lt m14.lt m15.lt m16.lt m17.lt m18.lt m19.lt aa.lt;have IK:=ac.lt;refine iX ac 0 (.map (some d)) fun O lU s4 z4 => ?_;have m32:aQ O u 1 (fun _ => .map (some d)) 88:=dH lU;have gM:=gK s4 ac.ty;have⟨qw,og,qG,pV,uf,rP,qM,uq,nU,nD⟩:=NP gM m21 m22 m23 m24 mZ nT oM oN oZ qc;have b4:=s4.below b3 b3.size (by omega);refine aD<|Ws<|ay<|Lv (pt lp) (aM nU.aH 0)<|av (pt lp)<|av (pf lp 18)<|Lv (pt m.tp) (aM qw.aH 18)<|av (aC A)<|lS (IJ A og) ?_;rintro e9 w5 ⟨ag,C,s,nE,hb1⟩;refine⟨_,s,?_⟩;clear s;have⟨rY,rQ,pz,rZ,xB,tK,sQ,uw,uU,uV,uy,b5⟩:=NM hb1 qw og qG pV uf rP qM uq nU nD m32 b4;obtain⟨l,H⟩ : ∃ q,q=dK.path m.T A:=⟨_,rfl⟩;rw[<- H]at nE ⊢;have hl4:l.length<=4:=by rw[H]; exact dK.yI
 refine av (au l.length)<|av (au 0)<|aD<|Wb ?_;have wD:Mp w5 d 0 (fun q=>l.getD q 0) (rF m (fun x=>bD x v.o (g 3)) l):=uV.uh fun i hi=>L_ hi (u_ _);refine Wo (fun f j => ∃ i:Nat,i<=l.length/\jA (fun x=>bD x v.o (g 3)) (fun i=>FX m (l.getD i 0)) i=0/\f 2 = .func (.func 161) #[] #[(pt D),(pt E)]/\f 3=(pt y)/\f 8=(pt u)/\f 19 = .slice ag (l.length) (C)/\f 20=au (l.length:Int)/\f 21=au (i:Int)/\aQ j lp 29 (vg m) 93/\rR j B m.tp m.mb m.T/\Mp j m.pb m.T.n m.T.x (Fb m.T)/\Mp j m.rb m.T.n m.T.x (wP m.R)/\iR j m.gb m.gn (fun i=>m.g i 0) (fun i=>m.g i 1) (zW m.g)/\iR j m.ab m.an m.ao m.ar Fe/\aQ j D 14 (bH v) 28/\aQ j E 5 (ng g) 99/\aQ j y 1 (fun _=>(pt lp)) 44/\aQ j u 1 (fun _ => .map (some d)) 88/\Fx.Own j O.heap.size 22 1 (.slice ag (l.length) (C)) l.length (yV l)/\Mp j d i (fun q=>l.getD q 0) (rF m (fun x=>bD x v.o (g 3)) l)/\Below w.heap.size w j) (fun f _=>((l.length:Int)-intOf (f 21)).toNat) ⟨0,(by omega),rfl,(by rfl),(by rfl),(by rfl),(by rfl),Fx.ic,Fx.ic,rY,rQ,pz,rZ,xB,tK,sQ,uw,uU,uy,nE,wD,b5⟩ ?_;rintro f1 w6 ⟨i,hi,K,h1,U,V,h4,W,G,sS,sj,sU,xC,ru,uW,oh,tL,N,ad,wE,ae,P⟩;refine ay ?_;by_cases c22:(i:Int)<(l.length:Int)
 ·refine Lv aG (iL c22 (hx:=G) (hy:=W))<|aD<|Ws<|aO<|Wk<|sN<|Ws<|Wb<|ay ?_;obtain⟨GN,S⟩:=wE.addr (by omega);have wK:Fx.Own w6 O.heap.size 22 1 (bK GN l.length C) l.length (yV l):=wE.fH (K_ (fun q=>Value.slice q l.length C) S);refine Lv (pf GN i) (dh 1 (hx:=(h4.trans (K_ (fun q=>Value.slice q (l.length) (C)) S))) (hi:=G))<|Lv (aC (l.getD i 0)) (aM wK.aH i)<|av (aC (l.getD i 0))<|aD<|Ws ?_;obtain⟨b,hjz,ejz⟩:=gQ (dK.nR h.t.inv H _ (xw (show i<l.length by omega) rfl));have J:FX m (l.getD i 0)=m.R b:=by unfold FX dM.idx; rw[nQ h.t.inv.inj hjz ejz]
  refine Wl<|aY h1<|Lv (pt lp) (aM N.aH 0 (ha:=U))<|av (pt lp)<|av (pf lp 20)<|Lv (.map (some m.rb)) (aM sS.aH 20)<|av (aC (l.getD i 0))<|Lv (.agg (aA 54 (rv .i64 (m.R b)))) (Fx.Ay (z := .agg (aA 54 (rv .i64 (fun _=>0)))) rfl rfl rfl xC Tryd.underlying88 Tryd.underlying22 (by kernel_rfl) hjz ejz rfl)<|Bl (by rfl) (Fx.Ej (args := [.agg (aA 54 (rv .i64 (m.R b)))]) rfl rfl rfl (all := #[.agg (aA 54 (rv .i64 (m.R b))),(pt D),(pt E)]) rfl Tryd.func161 rfl rfl) rfl<|(U8 (m.R b) v g D E _ ho oh tL).mono ?_;rintro e w7 ⟨s,F⟩;refine⟨.tuple #[.agg (aA 54 (rv .i64 ((bD (m.R b) v.o (g 3)).1))),au ((bD (m.R b) v.o (g 3)).2)],by rw[s],?_⟩;clear s;have⟨sV,uX,uz,vI,tN,Ah,vJ,yt,yu,wS,wT,sZ,b7⟩:=YR F sS sj sU xC ru uW oh tL N ad ae wK P;refine av (.tuple #[.agg (aA 54 (rv .i64 ((bD (m.R b) v.o (g 3)).1))),au ((bD (m.R b) v.o (g 3)).2)])<|av (.agg (aA 54 (rv .i64 ((bD (m.R b) v.o (g 3)).1))))<|av (au ((bD (m.R b) v.o (g 3)).2))<|qC 54 (rv .i64 (fun _=>0)) fun g4 w8 JZ af s7 z5 => ?_;have⟨xD,yw,wF,zw,yx,zJ,yA,yB,Ai,Ez,Dt,CF,b8⟩:=YR s7.old sV uX uz vI tN Ah vJ yt yu wS wT sZ b7;have Q7:=jc JZ b7.size;have⟨acA,acB,acC,anv,anw,anx,anz,anA,anB,anC,anD⟩:=aed JZ sV.lt uz.lt vI.lt tN.lt Ah.lt vJ.lt yt.lt yu.lt wS.lt wT.lt sZ.lt;have Qi:=af.lt;refine dZ af 0 fun w9 CG s8 z6 => ?_;have Aj:aQ w9 g4 54 (rv .i64 ((bD (m.R b) v.o (g 3)).1)) 82:=aR CG;have kr:=gK s8 af.ty;have⟨FT,EF,FU,F9,vR,zO,uK,sD,nL,nM,qh,qH⟩:=aec kr xD yw wF zw yx zJ yA yB Ai Ez Dt CF;have Q:=s8.below b8 b8.size (by omega);refine av (au ((bD (m.R b) v.o (g 3)).2))<|aD<|Ws<|ay<|av (au ((bD (m.R b) v.o (g 3)).2)) ?_;by_cases I:((bD (m.R b) v.o (g 3)).2)=0
  ·refine Lv aF (jH I)<|aD<|aL<|Wk<|sN ?_;have hnd:l.Nodup:=(by rw[H]; exact dK.zY h.t.inv A);have hny : ∀ q,q<i->(fun q=>l.getD q 0) q≠l.getD i 0:=fun q hq e=>by have:=Ce hnd (show q<l.length by omega) (show i<l.length by omega) e; omega
   refine Wl<|Lv (.map (some d)) (aM nM.aH 0 (ha:=V))<|av (aC (l.getD i 0))<|Lv (.agg (aA 54 (rv .i64 ((bD (m.R b) v.o (g 3)).1)))) (fJ Aj.aH 0)<|Fx.L.Pp (by rfl) rfl rfl rfl rfl rfl qh Tryd.underlying88 Tryd.underlying22 hny fun rO qI s9 z7 => ?_;have k:=qh.Cw s9;have sF:=FT.dQ k;have vS:=EF.dQ k (by omega);have sG:=FU.dQ k (by omega);have tO:=F9.dQ k (by omega);have xJ:=vR.dQ k (by omega);have tQ:=zO.dQ k (by omega);have za:=uK.dQ k;have zP:=sD.dQ k;have wM:=nL.dQ k;have tT:=nM.dQ k;have qj:=qH.dQ k;have vT:=Aj.dQ k;have b10:=s9.below Q Q.size (by omega);have wN:Mp rO d (i+1) (fun q=>l.getD q 0) (rF m (fun x=>bD x v.o (g 3)) l):=Hr qI (by rw[J]);refine Ln<|bT<|sN<|Wl<|Lv (au ((i:Int)+1)) (fE (hx:=G))<|av (au ((i:Int)+1))<|Ln ?_;have vU:Fx.Own rO O.heap.size 22 1 (.slice ag (l.length) (C)) l.length (yV l):=qj.fH (K_ (fun q=>Value.slice q l.length C) S.symm);refine iB ⟨i+1,(by omega),(Cg K (by rw[J]; exact I)),h1,U,V,h4,(W.trans Fx.ic),Fx.ic,sF,vS,sG,tO,xJ,tQ,za,zP,wM,tT,vU,wN,b10⟩ ?_;show((l.length:Int)-intOf (au ((i:Int)+1))).toNat<_;simp only[G,intOf]; omega
  refine Lv aG (mX I)<|aD<|aO<|ay<|av (au ((bD (m.R b) v.o (g 3)).2))<|av (.nilFunc)<|av (au ((bD (m.R b) v.o (g 3)).2))<|aD<|Wr<|sR<|bI<|sR<|qo<|bI<|sR<|aJ (.tuple #[.nilFunc,au ((bD (m.R b) v.o (g 3)).2)]) ?_;have M:dn m (fun x=>bD x v.o (g 3)) l=(bD (m.R b) v.o (g 3)).2:=by unfold dn; rw[zZ K (by rw[J]; exact I) _ (by omega),J]
  exact⟨⟨.nilFunc,0,#[],by rw[M],rfl,fun e0=>L_ (M.symm.trans e0) (by first|decide|omega|assumption)⟩,Q⟩
 refine Lv aF (iM c22 (hx:=G) (hy:=W))<|aD<|Ws<|aL<|Wx<|cK<|gU<|cO<|sN<|ay<|Lv (.func (.func 170) #[] #[(pt u),(pt y)]) (Fx.mG (us := []) (vs := [(pt u),(pt y)]) rfl rfl (Fx.args2 V U))<|av (.func (.func 170) #[] #[(pt u),(pt y)])<|av (au 0)<|aD<|Wr<|aJ (.tuple #[.func (.func 170) #[] #[(pt u),(pt y)],au 0]) ?_;have hil:i=l.length:=by omega
 rw[hil]at ae K;have hgm:m.rb≠d/\m.mb≠d/\m.pb≠d/\m.gb≠d/\m.ab≠d:=⟨by omega,by omega,by omega,by omega,by omega⟩;have M:dn m (fun x=>bD x v.o (g 3)) l=0:=K;exact⟨⟨_,170,#[(pt u),(pt y)],by rw[M],rfl,fun _=>⟨rfl,⟨_,_,Tryd.func170,rfl,rfl⟩,fun w2 F=>(K5 m lp B w2 ((h.up P).up F) (fun x=>bD x v.o (g 3)) l d hgm (dK.nR h.t.inv H) (ae.up F) _ _ (ad.bY (Sb F) (t_ ad.lt)) (N.bY (Sb F) (t_ N.lt))).mono fun _ _ X=>⟨X.1,X.2.1,X.2.2.mono fun _ hk => .inl hk⟩⟩⟩,P⟩
section
set_option maxRecDepth 20000
set_option linter.unusedVariables false
namespace Rt
def Bf(k1 k2:Nat->Int):Nat->Int->Int->Bool
 | 0,_,_=>false
 | n+1,a,b=>(decide (k1 n=a)&&decide (k2 n=b)) || Bf k1 k2 n a b
def vZ(k1 k2:Nat->Int):Nat->Int->Int->Nat
 | 0,_,_=>0
 | n+1,a,b=>if k1 n=a/\k2 n=b then n else vZ k1 k2 n a b
section
variable {k1 k2:Nat->Int} {a b:Int}
theorem kV : ∀ {n:Nat},Bf k1 k2 n a b=true <-> ∃ j,j<n/\k1 j=a/\k2 j=b
 | 0=>⟨fun h=>(nomatch h),fun⟨j,h,_⟩=>L_ h (u_ _)⟩
 | n+1=>by
   unfold Bf;rw[Bool.or_eq_true,R_,O_,O_,kV];constructor
   ·rintro (⟨f,c⟩|⟨j,f,c,d⟩)
    ·exact⟨n,by omega,f,c⟩
    ·exact⟨j,by omega,c,d⟩
   ·rintro ⟨j,f,c,d⟩;by_cases e:j=n
    ·subst e; exact .inl ⟨c,d⟩
    ·exact .inr ⟨j,by omega,c,d⟩
theorem rG{n j:Nat}(e:j<n)(c:k1 j=a)(d:k2 j=b):Bf k1 k2 n a b=true:=kV.2 ⟨j,e,c,d⟩
theorem oQ{n:Nat}(h : ∀ i,i<n -> ¬ (k1 i=a/\k2 i=b)):Bf k1 k2 n a b=false:=by
 cases e:Bf k1 k2 n a b with
 | false=>rfl
 | true=>obtain⟨j,f,c,d⟩:=kV.1 e; exact L_ ⟨c,d⟩ (h j f)
theorem yJ{j:Nat} : ∀ {n:Nat},(∀ p q,p<n->q<n->k1 p=k1 q->k2 p=k2 q->p=q)->j<n->k1 j=a->k2 j=b->vZ k1 k2 n a b=j
 | 0,_,h,_,_=>L_ h (u_ _)
 | n+1,hi,hj,e1,e2=>by
   unfold vZ;by_cases c:k1 n=a/\k2 n=b
   ·rw[d_ c]; exact hi n j (by omega) hj (c.1.trans e1.symm) (c.2.trans e2.symm)
   ·rw[b_ c];refine yJ (fun p q d f=>hi p q (by omega) (by omega)) ?_ e1 e2;by_cases e:j=n
    ·subst e; exact L_ ⟨e1,e2⟩ c
    ·omega
end
theorem Ea{v:EvM}(h:bM v=true)(a:fV v):Fx.Di v.o v.req/\Fx.Di v.o v.of:=by
 have d:=nO h;have b:=a.req;have c:=a.of;unfold jU at b c;exact⟨⟨by omega,by omega⟩,⟨by omega,by omega⟩⟩
theorem X7{w:World}{b k n:Nat}{g:Nat->Nat->Int}{o r:Int}{y:Nat->Value}(h:iR w b k (aN (fun i=>g i 0) n o) (aN (fun i=>g i 1) n r) (aN (zW g) n (.agg (aA 5 y))))(x:Nat->Int)(a:x 0=o)(d:x 1=r)(e : ∀ j,j<5->y j=ng x j) :
 iR w b k (fun i=>aN g n x i 0) (fun i=>aN g n x i 1) (zW (aN g n x)):=h.uh fun i _=>by
 unfold aN zW;by_cases c:i=n
 ·subst c;refine⟨?_,?_,?_⟩
  ·show(if i=i then o else g i 0)=(if i=i then x else g i) 0;rw[d_ rfl,d_ rfl,a]
  ·show(if i=i then r else g i 1)=(if i=i then x else g i) 1;rw[d_ rfl,d_ rfl,d]
  ·show(if i=i then Value.agg (aA 5 y)else _)=Value.agg (aA 5 (ng (if i=i then x else g i)));rw[d_ rfl,d_ rfl,Fx.dW e]
 ·refine⟨?_,?_,?_⟩
  ·show(if i=n then o else g i 0)=(if i=n then x else g i) 0;rw[b_ c,b_ c]
  ·show(if i=n then r else g i 1)=(if i=n then x else g i) 1;rw[b_ c,b_ c]
  ·show(if i=n then Value.agg (aA 5 y)else Value.agg (aA 5 (ng (g i))))=Value.agg (aA 5 (ng (if i=n then x else g i)));rw[b_ c,b_ c]
theorem X8{w:World}{b n j:Nat}{g:Nat->Nat->Int}{x:Nat->Int}(h:iR w b n (fun i=>g i 0) (fun i=>g i 1) (aN (zW g) j (.agg (aA 5 (ng x)))))(a:x 0=g j 0)(d:x 1=g j 1) :
 iR w b n (fun i=>aN g j x i 0) (fun i=>aN g j x i 1) (zW (aN g j x)):=h.uh fun i _=>by
 unfold aN zW;show g i 0=(if i=j then x else g i) 0/\g i 1=(if i=j then x else g i) 1/\_=Value.agg (aA 5 (ng (if i=j then x else g i)));by_cases c:i=j
 ·subst c; rw[d_ rfl,d_ rfl]; exact⟨a.symm,d.symm,rfl⟩
 ·rw[b_ c,b_ c]; exact⟨rfl,rfl,rfl⟩
theorem OM{w:World}{b k n:Nat}{o r:Nat->Int}{x y:Int}(h:iR w b k (aN o n x) (aN r n y) (aN Fe n (.bool true))):iR w b k (aN o n x) (aN r n y) Fe:=h.uh fun i _=>⟨rfl,rfl,by unfold aN Fe; split <;> rfl⟩
theorem afY(x:Nat->Int)(r:Int):dD (ng x) 4 (aC r)=ng (upd x 4 r):=by
 funext p
 unfold dD;by_cases c:p=4
 ·subst c; rw[d_ rfl]; rfl
 rw[b_ c]; unfold ng upd;by_cases a:p=0
 ·rw[d_ a,d_ a]; rfl
 rw[b_ a,b_ a];by_cases b:p=3
 ·rw[d_ b,d_ b]; rfl
 rw[b_ b,b_ b,b_ c]
def FY(a b:Int):Nat->Value:=fun p=>if p=0 then au a else aC b
def Vf(m:dM)(a:Nat->Nat->Int)(v:EvM):dM := { m with R:=a,an:=m.an+1,ao:=aN m.ao m.an v.o,ar:=aN m.ar m.an v.req,gn:=m.gn+1,g:=aN m.g m.gn (pW v) }
def OO(m:dM)(a:Nat->Nat->Int)(v:EvM)(j:Nat):dM := { m with R:=a,an:=m.an+1,ao:=aN m.ao m.an v.o,ar:=aN m.ar m.an v.req,g:=aN m.g j (upd (m.g j) 4 v.req) }
structure Bw(w0 w:World):Prop where
 b:Below w0.heap.size w0 w
theorem Bw.up{a w w':World}(h:Bw a w)(c:Below w.heap.size w w'):Bw a w':=⟨Jt h.b c⟩
instance {a w w':World}:Rt.Tr w w' (Bw a w) (Bw a w'):=⟨fun b h=>h.up b⟩
end Rt
theorem acD{y:Nat->Value}{a b:Int}(c:y 0=au a)(h1:y 1=aC b){w:World}{g:Nat}(h:aQ w g 2 y 102):aQ w g 2 (FY a b) 102:=h.congr fun j d=>by
 rcases(show j=0\/j=1 by omega)with rfl|rfl
 ·exact c
 ·exact h1
structure LtT(gl gq ge b:Nat):Prop where
 gl:gl<b
 gq:gq<b
 ge:ge<b
structure LtF(gl gq ge gg go b:Nat):Prop where
 gl:gl<b
 gq:gq<b
 ge:ge<b
 gg:gg<b
 go:go<b
theorem Vg(m:dM)(lp B:Nat)(w:World)(h:kQ w B lp m)(v:EvM)(hv:bM v=true)(hwf:fV v)(H:Nat->Nat->Int)(C I F:Nat)(acE:I<=C)(cap:Array Value)(S:Uw w B lp m { m with R:=H } C (.func (.func F) #[] cap) F cap)(Q:Nat)(J:Nat)(K:Nat)(z:Nat)(X:aQ w Q 1 (fun _ => .func (.func F) #[] cap) 94)(Z:aQ w J 1 (fun _=>(pt lp)) 44)(hq:aQ w K 2 (FY v.o v.req) 102)(D:aQ w z 14 (bH v) 28)(M:LtT J K z C)(hnz : ∀ i,i<m.an -> ¬ (m.ao i=v.o/\m.ar i=v.req))(hny : ∀ i,i<m.gn -> ¬ ((fun i=>m.g i 0) i=v.o/\(fun i=>m.g i 1) i=v.req)) :
 Calls Tryd.prog 160 #[(pt Q),(pt J),(pt K),(pt z)] w fun e w'=>e = .returned (.tuple #[])/\kQ w' B lp (Vf m H v)/\jM (MR m lp I) w w':=by
 have hC:=h.c;have hT:=h.t;have hP:=h.p;have hR:=h.r;have hG:=h.g;have hA:=h.a;have d:=h.ne;have lC:=h.c.lt;have lT:=h.t.lt;have lP:=h.p.lt;have lR:=h.r.lt;have lG:=h.g.lt;have lA:=h.a.lt;have lgd:=X.lt;have YV:=Z.lt;have lgq:=hq.lt;have Zl:=D.lt;have Y:=Ea hv hwf;refine Kent Tryd.func160 25 ?_;refine ay<|Lv (.func (.func F) #[] cap) (aM X.aH 0)<|Bl (by rfl) (Fx.OA (args := []) rfl rfl rfl (by simp) S.f) rfl<|(S.s _ (Below.refl _ _)).mono ?_;rintro e9 u ⟨D,A,G⟩;refine⟨_,D,?_⟩;clear D;have U:=G.mono (S':=MR m lp I) fun k hk=>hk.imp id (m_ acE);have m1:aQ u lp 29 (vg m) 93:=A.c;have lm1:=m1.lt;have m2:rR u B m.tp m.mb m.T:=A.t;have lm2:=m2.lt;have m3:Mp u m.pb m.T.n m.T.x (Fb m.T):=A.p;have lm3:=m3.lt;have m4:Mp u m.rb m.T.n m.T.x (wP (H)):=A.r;have lm4:=m4.lt;have m5:iR u m.gb m.gn (fun i=>m.g i 0) (fun i=>m.g i 1) (zW m.g):=A.g;have lm5:=m5.lt;have m6:iR u m.ab m.an m.ao m.ar Fe:=A.a;have lm6:=m6.lt;have m7:=h.Jg Z (by decide) G M.gl;have lm7:=m7.lt;have m8:=h.Jg hq (by decide) G M.gq;have lm8:=m8.lt;have m9:=h.Jg D (by decide) G M.ge;have lm9:=m9.lt;refine aD<|Ws ?_;refine jS [0,1,2,3,4,5] [4,0,0,4,4,3] [(5,0,[0]),(5,3,[3]),(5,4,[4])] fun qE V iC => ?_;have s1:Stp u.heap.size u qE:=Sb V;have⟨m10,m11,m12,m13,m14,m15,m16,m17,m18⟩:=Bt V m1 m2 m3 m4 m5 m6 m7 m8 m9;have C:=U.then s1 (.inr U.size);refine Rs (pt lp) (aM m16.aH 0) ?_;refine aZ (pt lp)<|aZ (pf lp 28)<|Rs (.map (some m.ab)) (aM m10.aH 28) ?_;refine Rs (.agg (aA 2 (FY v.o v.req))) (fJ m17.aH 0) ?_;refine gG<|Fx.L.RO (by rfl) rfl rfl rfl ((show ev _ _ = .agg (aA 2 (FY v.o v.req))from rfl).trans (Fx.zq (y:=FY v.o v.req) (a:=v.o) (b:=v.req) rfl rfl)) Y.1 rfl m15 Tryd.underlying90 Gc hnz fun N m19 s2 z1 => ?_;have l:=m15.Cw s2;have m20:=m10.dQ l;have m21:=m11.dQ l (d.ma);have m22:=m12.dQ l (d.pa);have m23:=m13.dQ l (d.ra);have m24:=m14.dQ l (d.ga);have mZ:=m16.dQ l;have nT:=m17.dQ l;have oM:=m18.dQ l;have P:=C.then s2 (.inl (.inl (.inr (.inr (.inr (.inr (.inr rfl)))))));have oN:iR N m.ab (m.an+1) (aN m.ao m.an v.o) (aN m.ar m.an v.req) Fe:=OM m19;refine Ln<|bO ?_;refine jS [5,7,9,11,0,1,2,3,4,6,8,10,12,13,14] [4,0,0,4,4,0,4,0,4,0,4,0,4,0,3] [(14,0,[0]),(14,3,[3]),(14,4,[4]),(14,6,[6]),(14,8,[8]),(14,10,[10]),(14,12,[12])] fun Dl W nZ => ?_;have s3:Stp N.heap.size N Dl:=Sb W;have⟨oZ,qc,lU,m32,qw,og,qG,E,uf⟩:=Bt W m20 m21 m22 m23 m24 mZ nT oM oN;have b3:=P.then s3 (.inr P.size);refine aZ (pt z)<|aZ (pf z 12)<|aZ (pf z 9)<|aZ (pf z 11)<|Rs (pt lp) (aM og.aH 0) ?_;refine aZ (pt lp)<|aZ (pf lp 27)<|Rs (.map (some m.gb)) (aM oZ.aH 27) ?_;refine Rs (.agg (aA 2 (FY v.o v.req))) (fJ qG.aH 0) ?_;refine Rs (au v.o) (aM E.aH 0) ?_;refine Rs (aC v.req) (aM E.aH 12) ?_;refine Rs (aC v.node) (aM E.aH 9) ?_;refine Rs (au v.aT) (aM E.aH 11) ?_;refine aZ (.agg (aA 5 (bR (bR (bR (bR (fun O=>if O<1 then au 0 else if O<3 then aC 0 else if O<4 then au 0 else aC 0) 0 1 (fun _=>au v.o)) 1 1 (fun _=>aC v.req)) 2 1 (fun _=>aC v.node)) 3 1 (fun _=>au v.aT))))<|gG<|Fx.L.RO (by rfl) rfl rfl rfl ((show ev _ _ = .agg (aA 2 (FY v.o v.req))from rfl).trans (Fx.zq (y:=FY v.o v.req) (a:=v.o) (b:=v.req) rfl rfl)) Y.1 rfl qw Tryd.underlying89 Gc hny fun w3 rP s4 z2 => ?_;have q:=qw.Cw s4;have qM:=oZ.dQ q;have uq:=qc.dQ q (d.mg);have nU:=lU.dQ q (d.pg);have nD:=m32.dQ q (d.rg);have nE:=og.dQ q;have rY:=qG.dQ q;have rQ:=E.dQ q;have pz:=uf.dQ q (Ne.symm d.ga);have b4:=b3.then s4 (.inl (.inl (.inr (.inr (.inr (.inr (.inl rfl)))))));have rZ:iR w3 m.gb (m.gn+1) (fun i=>aN m.g m.gn (pW v) i 0) (fun i=>aN m.g m.gn (pW v) i 1) (zW (aN m.g m.gn (pW v))):=X7 rP (pW v) rfl rfl (by intro j hj; rcases(show j=0\/j=1\/j=2\/j=3\/j=4 by omega)with rfl|rfl|rfl|rfl|rfl <;> rfl)
 refine Ln (Rn (⟨.tuple #[],iI Tryd.results160,?_⟩));unfold Vf;exact⟨rfl,{ c:=qM,t:=uq,p:=nU,r:=nD,g:=rZ,a:=pz,ne:=⟨d.mp,d.mr,d.mg,d.ma,d.pr,d.pg,d.pa,d.rg,d.ra,d.ga⟩,lB:=h.lB,pB:=h.pB,rB:=h.rB,gB:=h.gB,aB:=h.aB },b4⟩
theorem Vh(m:dM)(lp B:Nat)(w:World)(h:kQ w B lp m)(v:EvM)(hv:bM v=true)(hwf:fV v)(J:Nat->Nat->Int)(D G H:Nat)(acE:G<=D)(cap:Array Value)(Q:Uw w B lp m { m with R:=J } D (.func (.func H) #[] cap) H cap)(j:Nat)(P:Nat)(K:Nat)(M:Nat)(I:Nat)(z:Nat)(go:Nat)(W:aQ w P 1 (fun _ => .func (.func H) #[] cap) 94)(hl:aQ w K 1 (fun _=>(pt lp)) 44)(hq:aQ w M 2 (FY v.o v.req) 102)(E:aQ w I 14 (bH v) 28)(X:aQ w z 5 (ng (m.g j)) 99)(hof:aQ w go 2 (FY v.o v.of) 102)(hgg:G<=z)(F:LtF K M I z go D)(hnz : ∀ i,i<m.an -> ¬ (m.ao i=v.o/\m.ar i=v.req))(Y:j<m.gn)(ejy:(fun i=>m.g i 0) j=v.o)(fjy:(fun i=>m.g i 1) j=v.of) :
 Calls Tryd.prog 163 #[(pt P),(pt K),(pt M),(pt I),(pt z),(pt go)] w fun e w'=>e = .returned (.tuple #[])/\kQ w' B lp (OO m J v j)/\jM (MR m lp G) w w':=by
 have hC:=h.c;have hT:=h.t;have hP:=h.p;have hR:=h.r;have hG:=h.g;have hA:=h.a;have d:=h.ne;have lC:=h.c.lt;have lT:=h.t.lt;have lP:=h.p.lt;have lR:=h.r.lt;have lG:=h.g.lt;have lA:=h.a.lt;have lgd:=W.lt;have YV:=hl.lt;have lgq:=hq.lt;have Zl:=E.lt;have lgg:=X.lt;have lgo:=hof.lt;have Z:=Ea hv hwf;have auZ:=Y;refine Kent Tryd.func163 22 ?_;refine ay<|Lv (.func (.func H) #[] cap) (aM W.aH 0)<|Bl (by rfl) (Fx.OA (args := []) rfl rfl rfl (by simp) Q.f) rfl<|(Q.s _ (Below.refl _ _)).mono ?_;rintro e9 u ⟨E,C,A⟩;refine⟨_,E,?_⟩;clear E;have S:=A.mono (S':=MR m lp G) fun k hk=>hk.imp id (m_ acE);have m1:aQ u lp 29 (vg m) 93:=C.c;have lm1:=m1.lt;have m2:rR u B m.tp m.mb m.T:=C.t;have lm2:=m2.lt;have m3:Mp u m.pb m.T.n m.T.x (Fb m.T):=C.p;have lm3:=m3.lt;have m4:Mp u m.rb m.T.n m.T.x (wP (J)):=C.r;have lm4:=m4.lt;have m5:iR u m.gb m.gn (fun i=>m.g i 0) (fun i=>m.g i 1) (zW m.g):=C.g;have lm5:=m5.lt;have m6:iR u m.ab m.an m.ao m.ar Fe:=C.a;have lm6:=m6.lt;have m7:=h.Jg hl (by decide) A F.gl;have lm7:=m7.lt;have m8:=h.Jg hq (by decide) A F.gq;have lm8:=m8.lt;have m9:=h.Jg E (by decide) A F.ge;have lm9:=m9.lt;have m10:=h.Jg X (by decide) A F.gg;have ava:=m10.lt;have m11:=h.Jg hof (by decide) A F.go;have avb:=m11.lt;refine aD<|Ws ?_;refine jS [0,1,2,3,4,5] [4,0,0,4,4,3] [(5,0,[0]),(5,3,[3]),(5,4,[4])] fun qE U iC => ?_;have s1:Stp u.heap.size u qE:=Sb U;have⟨m12,m13,m14,m15,m16,m17,m18,m19,m20,m21,m22⟩:=Ep U m1 m2 m3 m4 m5 m6 m7 m8 m9 m10 m11;have D:=S.then s1 (.inr S.size);refine Rs (pt lp) (aM m18.aH 0) ?_;refine aZ (pt lp)<|aZ (pf lp 28)<|Rs (.map (some m.ab)) (aM m12.aH 28) ?_;refine Rs (.agg (aA 2 (FY v.o v.req))) (fJ m19.aH 0) ?_;refine gG<|Fx.L.RO (by rfl) rfl rfl rfl ((show ev _ _ = .agg (aA 2 (FY v.o v.req))from rfl).trans (Fx.zq (y:=FY v.o v.req) (a:=v.o) (b:=v.req) rfl rfl)) Z.1 rfl m17 Tryd.underlying90 Gc hnz fun w2 m23 s2 z1 => ?_;have l:=m17.Cw s2;have m24:=m12.dQ l;have mZ:=m13.dQ l (d.ma);have nT:=m14.dQ l (d.pa);have oM:=m15.dQ l (d.ra);have oN:=m16.dQ l (d.ga);have oZ:=m18.dQ l;have qc:=m19.dQ l;have lU:=m20.dQ l;have m32:=m21.dQ l;have qw:=m22.dQ l;have b2:=D.then s2 (.inl (.inl (.inr (.inr (.inr (.inr (.inr rfl)))))));have og:iR w2 m.ab (m.an+1) (aN m.ao m.an v.o) (aN m.ar m.an v.req) Fe:=OM m23;refine Ln<|bO<|ay<|av (pf I 12)<|Lv (aC v.req) (aM lU.aH 12)<|av (pf z 4)<|iX m32 4 (aC v.req) fun N qG s3 z2 => ?_;have pV:aQ N z 5 (ng (upd (m.g j) 4 v.req)) 99:=qG.to (afY _ _);have gM:=gK s3 m32.ty;have⟨uf,rP,qM,uq,nU,nD,nE,rY,rQ,pz⟩:=NP gM m24 mZ nT oM oN oZ qc lU qw og;have O:=b2.then s3 (.inl (.inr hgg));refine aD ?_;refine jS [0,1,2,3,4,5,6] [4,0,0,4,4,4,3] [(6,0,[0]),(6,3,[3]),(6,4,[4]),(6,5,[5])] fun Dl V nZ => ?_;have s4:Stp N.heap.size N Dl:=Sb V;have⟨rZ,xB,tK,sQ,uw,uU,uV,uy,wD,sS,sj⟩:=Ep V uf rP qM uq nU nD nE rY rQ pz pV;have b4:=O.then s4 (.inr O.size);refine Rs (pt lp) (aM uU.aH 0) ?_;refine aZ (pt lp)<|aZ (pf lp 27)<|Rs (.map (some m.gb)) (aM rZ.aH 27) ?_;refine Rs (.agg (aA 2 (FY v.o v.of))) (fJ wD.aH 0) ?_;refine Rs (.agg (aA 5 (ng (upd (m.g j) 4 v.req)))) (fJ sj.aH 0) ?_;refine gG<|Fx.L.aee (by rfl) rfl rfl rfl ((show ev _ _ = .agg (aA 2 (FY v.o v.of))from rfl).trans (Fx.zq (y:=FY v.o v.of) (a:=v.o) (b:=v.of) rfl rfl)) Z.2 rfl uw Tryd.underlying89 Gc Y ejy fjy fun w4 sU s5 z3 => ?_;have q:=uw.Cw s5;have xC:=rZ.dQ q;have ru:=xB.dQ q (d.mg);have uW:=tK.dQ q (d.pg);have oh:=sQ.dQ q (d.rg);have tL:=uU.dQ q;have m64:=uV.dQ q;have yY:=uy.dQ q;have wE:=wD.dQ q;have wR:=sS.dQ q (Ne.symm d.ga);have wK:=sj.dQ q;have b5:=b4.then s5 (.inl (.inl (.inr (.inr (.inr (.inr (.inl rfl)))))));have sV:iR w4 m.gb m.gn (fun i=>aN m.g j (upd (m.g j) 4 v.req) i 0) (fun i=>aN m.g j (upd (m.g j) 4 v.req) i 1) (zW (aN m.g j (upd (m.g j) 4 v.req))):=X8 sU rfl rfl;refine Ln (Rn (⟨.tuple #[],iI Tryd.results163,?_⟩));unfold OO;exact⟨rfl,{ c:=xC,t:=ru,p:=uW,r:=oh,g:=sV,a:=wR,ne:=⟨d.mp,d.mr,d.mg,d.ma,d.pr,d.pg,d.pa,d.rg,d.ra,d.ga⟩,lB:=h.lB,pB:=h.pB,rB:=h.rB,gB:=h.gB,aB:=h.aB },b5⟩
end
set_option maxRecDepth 20000
set_option linter.unusedVariables false
namespace Rt
def gN(m:dM)(o r:Int):Bool:=Bf m.ao m.ar m.an o r
def iA(m:dM)(o r:Int):Bool:=Bf (fun i=>m.g i 0) (fun i=>m.g i 1) m.gn o r
def eX(m:dM)(o r:Int):Nat:=vZ (fun i=>m.g i 0) (fun i=>m.g i 1) m.gn o r
noncomputable def Vi(m:dM)(v:EvM):dM:=qm m (fun x=>bC x v.o v.aT) (m.T.path v.node)
def jL(m:dM)(v:EvM):Int:=if gN m v.o v.req=true then 14 else if m.T.has v.node=false then 9 else dn m (fun x=>bC x v.o v.aT) (m.T.path v.node)
noncomputable def jY(m:dM)(v:EvM):dM:=Vf m (Vi m v).R v
noncomputable def Vj(m:dM)(v:EvM):dM:=qm m (fun x=>bD x v.o (m.g (eX m v.o v.of) 3)) (m.T.path (m.g (eX m v.o v.of) 2))
def jd(m:dM)(v:EvM):Int:=if gN m v.o v.req=true then 14 else if iA m v.o v.of=false\/m.g (eX m v.o v.of) 4≠0 then 12 else dn m (fun x=>bD x v.o (m.g (eX m v.o v.of) 3)) (m.T.path (m.g (eX m v.o v.of) 2))
noncomputable def iq(m:dM)(v:EvM):dM:=OO m (Vj m v).R v (eX m v.o v.of)
def QD(m:dM):Prop := ∀ i,i<m.gn->gN m (m.g i 0) (m.g i 1)=true
end Rt
theorem Fx.afZ{f:Nat->Value}{x1 x2 e g h i:Operand}{v1 v2 a b c d:Value}(h1:ev f x1=v1)(j:ev f x2=v2)(k:ev f e=a)(l:ev f g=b)(m:ev f h=c)(n:ev f i=d) : [x1,x2,e,g,h,i].map (ev f) = [v1,v2,a,b,c,d]:=by rw[List.map_cons,h1,Fx.adX j k l m n]
theorem Uw.up{w w':World}{B lp a b:Nat}{m d:dM}{c:Value}{cap:Array Value}(h:Uw w B lp m d a c b cap)(e:Below w.heap.size w w'):Uw w' B lp m d a c b cap := { h with s:=fun g f=>h.s g (Jt e f) }
instance {w w':World} {B lp a c:Nat} {m e:dM} {d:Value} {cap:Array Value}:Rt.Tr w w' (Uw w B lp m e a d c cap) (Uw w' B lp m e a d c cap):=⟨fun b h=>h.up b⟩
theorem X9(m:dM)(lp B:Nat)(w:World)(h:kQ w B lp m)(v:EvM)(L:bM v=true)(hwf:fV v)(hga:QD m) :
 Calls Tryd.prog 147 #[(pt lp),.agg (aA 14 (bH v))] w fun e w'=>Q9 w B lp m (jY m v) (jL m v) e w':=by
 have hC:=h.c;have hT:=h.t;have hP:=h.p;have hR:=h.r;have hG:=h.g;have hA:=h.a;have hN:=h.ne;have lC:=h.c.lt;have lT:=h.t.lt;have lP:=h.p.lt;have lR:=h.r.lt;have lG:=h.g.lt;have lA:=h.a.lt;obtain⟨a,ha,ho⟩ : ∃ a:Nat,a<6/\v.o=(a:Int)+1:=eG (iG L);have hra:aK v=a:=by unfold aK; omega
 have hko:=Ea L hwf;have hvo:1<=v.o/\v.o<=6:=by omega
 refine Kent Tryd.func147 40 ?_;refine ay<|xg (pt lp) fun A w1 mR M s1 z1 => ?_;have⟨m2,m3,m4,m5,m6,m7,U⟩:=jw s1.old hC hT hP hR hG hA (Below.refl w.heap.size w);have sO:=gL mR;have⟨nC,zB,xI,CQ,AP⟩:=Aw mR hC.lt hP.lt hR.lt hG.lt hA.lt;have uo:=M.lt;refine pQ fun d w2 yZ C s2 z2 => ?_;have⟨m9,m10,m11,m12,m13,m14,m15,V⟩:=lK s2.old m2 m3 m4 m5 m6 m7 M U;have qN:=jc yZ U.size;have⟨KU,BX,Fg,zX,BZ,zK⟩:=JO yZ m2.lt m4.lt m5.lt m6.lt m7.lt M.lt;have zL:=C.lt;refine av (.nilFunc)<|av (au 0)<|aD<|ay<|av (pt d)<|Lv (au v.o) (aM C.aH 0)<|av (pf d 12)<|Lv (aC v.req) (aM C.aH 12)<|av (.agg (aA 2 (bR (bR (fun n=>if n<1 then au 0 else aC 0) 0 1 (fun _=>au v.o)) 1 1 (fun _=>aC v.req))))<|qC 2 (fun n=>if n<1 then au 0 else aC 0) fun k w3 xE N s3 z3 => ?_;have⟨m17,m18,m19,m20,m21,m22,m23,m24,W⟩:=Bt s3.old m9 m10 m11 m12 m13 m14 m15 C V;have Bz:=jc xE V.size;have⟨acF,acw,anF,Va,acy,Vb,Vd⟩:=Me xE m9.lt m11.lt m12.lt m13.lt m14.lt m15.lt C.lt;have IK:=N.lt;refine dZ N 0 (h1:=(bS (bS (fun jq _=>by show((fun n=>if n<1 then au 0 else aC 0:Nat->Value) jq).oneCell'=true; simp only[]; repeat (first|rfl|split)) (fun _ _=>rfl)) (fun _ _=>rfl))) fun w4 mZ s4 z4 => ?_
 have nT:aQ w4 k 2 (bR (bR (fun n=>if n<1 then au 0 else aC 0) 0 1 (fun _=>au v.o)) 1 1 (fun _=>aC v.req)) 102:=aR mZ;have oM:aQ w4 k 2 (FY v.o v.req) 102:=acD (Fx.Ao (by omega) (Fx.pX (j:=0) (by omega) (by omega) rfl)) (Fx.pX (j:=0) (by omega) (by omega) rfl) nT;have gM:=gK s4 N.ty;have⟨oN,oZ,qc,lU,m32,qw,og,qG⟩:=aje gM m17 m18 m19 m20 m21 m22 m23 m24;have b4:=s4.below W W.size (by omega);refine aD<|Ws<|Ws ?_;refine jS [0,1,2,3,4,5] [4,0,0,4,4,4] [] fun qE dU iC => ?_;have⟨pV,uf,rP,qM,uq,O,nD,nE,rY,X⟩:=xk dU oN oZ qc lU m32 qw og qG oM b4;refine Rs (pt lp) (aM nD.aH 0) ?_;refine aZ (pt lp)<|aZ (pf lp 28)<|Rs (.map (some m.ab)) (aM pV.aH 28) ?_;refine Rs (.agg (aA 2 (FY v.o v.req))) (fJ rY.aH 0) ?_
 rcases Fx.xq m.ao m.ar m.an v.o v.req with ⟨U1,CS,CU,K6⟩|jg
 ·refine Rs aG (Fx.JW (z := .bool false) rfl rfl ((show ev _ _ = .agg (aA 2 (FY v.o v.req))from rfl).trans (Fx.zq (y:=FY v.o v.req) (a:=v.o) (b:=v.req) rfl rfl)) hko.1 O Tryd.underlying90 Gc (by rfl) CS CU K6 rfl) ?_;refine bO<|aO<|ay<|av (.nilFunc)<|av (au 14)<|aD<|Wr<|sR<|aJ (.tuple #[.nilFunc,au 14]) ?_;have f:jL m v=14:=by unfold jL; exact d_ (rG CS CU K6)
  exact⟨⟨.nilFunc,0,#[],by rw[f],rfl,fun u=>L_ (f.symm.trans u) (by first|decide|omega|assumption)⟩,X⟩
 refine Rs aF (Fx.JV (z := .bool false) rfl rfl ((show ev _ _ = .agg (aA 2 (FY v.o v.req))from rfl).trans (Fx.zq (y:=FY v.o v.req) (a:=v.o) (b:=v.req) rfl rfl)) hko.1 O Tryd.underlying90 Gc (by rfl) jg) ?_;refine bO<|aL<|Wk<|sN<|Ws<|Ws ?_;refine jS [4,0,1,2,3,5,6,7] [4,0,0,4,0,4,3,0] [(6,0,[3,2,1,0]),(6,3,[3]),(6,5,[5]),(7,6,[6])] fun Dl gH nZ => ?_;have⟨rQ,pz,rZ,xB,tK,sQ,P,F,uV,H⟩:=xk gH pV uf rP qM uq O nD nE rY X;refine aZ (pf d 9)<|Rs (pt lp) (aM P.aH 0) ?_;refine aZ (pt lp)<|aZ (pf lp 18)<|Rs (pt m.tp) (aM rQ.aH 18) ?_;refine Rs (aC v.node) (aM F.aH 9) ?_;refine gG ?_;by_cases q:(dK.has m.T v.node)=true
 ·refine oC (Zb v.node pz) aG (by rw[q])<|Ln<|aZ aF<|bO<|aL<|Wk<|sN<|ay<|Lv (pt lp) (aM P.aH 0)<|av (pf d 9)<|Lv (aC v.node) (aM F.aH 9)<|Lv (.func (.func 158) #[] #[(pt d)]) (Fx.mG (us := []) (vs := [(pt d)]) rfl rfl rfl)<|lS (U9 m lp B _ (h.up H) v.node v hvo d F) ?_;rintro e9 G ⟨⟨E,fi1,Py,he,ho1,hD1⟩,hb1⟩;refine⟨_,he,?_⟩;clear he;have⟨uy,sS,sj,sU,xC,ru,uW,oh,Y⟩:=Bt hb1 rQ rZ xB tK sQ P F uV H;have aa:Bw G G:=⟨Below.refl _ _⟩;refine av (.tuple #[E,au (dn m (fun x=>bC x v.o v.aT) (m.T.path (v.node)))])<|av (E)<|av (au (dn m (fun x=>bC x v.o v.aT) (m.T.path (v.node))))<|qC 1 (fun _ => .nilFunc) fun l w6 J Q s8 z5 => ?_;have⟨uX,uz,vI,tN,Z⟩:=qD s8.old ru uW oh aa Y;have Q7:=jc J Y.size;have⟨anG,abP,abQ,abR,abS,abT,anH,abU⟩:=WG J uy.lt sS.lt sj.lt sU.lt xC.lt ru.lt uW.lt oh.lt;have Qi:=Q.lt;have kg4:G.heap.size<=l:=by rw[J]; exact aa.b.size
  refine iX Q 0 E (h1:=ho1) fun w7 Ah S z6 => ?_;have vJ:aQ w7 l 1 (fun _=>E) 94:=dH Ah;have kr:=gK S Q.ty;have⟨xD,yw,wF⟩:=Df kr uX uz vI;have zw:=(⟨S.below tN.b tN.b.size kg4⟩:Bw G _);have I:=S.below Z Z.size (by omega);refine av (au (dn m (fun x=>bC x v.o v.aT) (m.T.path (v.node))))<|aD<|Ws<|ay<|av (au (dn m (fun x=>bC x v.o v.aT) (m.T.path (v.node)))) ?_;by_cases D:(dn m (fun x=>bC x v.o v.aT) (m.T.path (v.node)))=0
  ·refine Lv aF (jH D)<|aD<|aL<|Wk<|sN<|ay<|Lv (.func (.func 160) #[] #[(pt l),(pt A),(pt k),(pt d)]) (Fx.mG (us := []) (vs := [(pt l),(pt A),(pt k),(pt d)]) rfl rfl rfl)<|av (.func (.func 160) #[] #[(pt l),(pt A),(pt k),(pt d)])<|av (au 0)<|aD<|Wr<|aJ (.tuple #[.func (.func 160) #[] #[(pt l),(pt A),(pt k),(pt d)],au 0]) ?_;have hD0:=hD1 D;have hfe:=hD0.e;subst hfe;have b01:w.heap.size<=Dl.heap.size:=(by omega);have f:jL m v=0:=(by unfold jL; rw[b_ (show ¬ gN m v.o v.req=true by unfold gN; rw[oQ jg]; decide)]; rw[b_ (by rw[q]; decide)]; exact D);exact⟨⟨_,160,#[(pt l),(pt A),(pt k),(pt d)],by rw[f],rfl,fun _=>⟨rfl,⟨_,_,Tryd.func160,rfl,rfl⟩,fun w2 s=>(Vg m lp B w2 ((h.up I).up s) v L hwf (Vi m v).R Dl.heap.size w.heap.size _ (by omega) _ (hD0.up (Jt zw.b s)) _ _ _ _ (vJ.bY (Sb s) (t_ vJ.lt)) (xD.bY (Sb s) (t_ xD.lt)) (wF.bY (Sb s) (t_ wF.lt)) (yw.bY (Sb s) (t_ yw.lt)) ⟨by omega,by omega,by omega⟩ jg (fun i hi e=>by have q9:=hga i hi; obtain⟨j9,hj9,e9,f9⟩:=kV.1 q9; exact jg j9 hj9 ⟨e9.trans e.1,f9.trans e.2⟩)).mono fun _ _ K=>⟨K.1,K.2.1,K.2.2.mono fun _ hk=>hk⟩⟩⟩,I⟩
  refine Lv aG (mX D)<|aD<|aO<|ay<|av (au (dn m (fun x=>bC x v.o v.aT) (m.T.path (v.node))))<|av (.nilFunc)<|av (au (dn m (fun x=>bC x v.o v.aT) (m.T.path (v.node))))<|aD<|Wr<|sR<|aJ (.tuple #[.nilFunc,au (dn m (fun x=>bC x v.o v.aT) (m.T.path (v.node)))]) ?_;have f:jL m v=dn m (fun x=>bC x v.o v.aT) (m.T.path (v.node)):=by unfold jL; rw[b_ (show ¬ gN m v.o v.req=true by unfold gN; rw[oQ jg]; decide)]; rw[b_ (by rw[q]; decide)]
  exact⟨⟨.nilFunc,0,#[],by rw[f],rfl,fun u=>L_ (f.symm.trans u) (by first|decide|omega|assumption)⟩,I⟩
 rw[S_]at q;refine oC (Zb v.node pz) aF (by rw[q])<|Ln<|aZ aG<|bO<|aO<|ay<|av (.nilFunc)<|av (au 9)<|aD<|Wr<|sR<|aJ (.tuple #[.nilFunc,au 9]) ?_;have f:jL m v=9:=by unfold jL; rw[b_ (show ¬ gN m v.o v.req=true by unfold gN; rw[oQ jg]; decide)]; exact d_ q
 exact⟨⟨.nilFunc,0,#[],by rw[f],rfl,fun u=>L_ (f.symm.trans u) (by first|decide|omega|assumption)⟩,H⟩
theorem Ya(m:dM)(lp B:Nat)(w:World)(h:kQ w B lp m)(v:EvM)(hv:bM v=true)(hwf:fV v) :
 Calls Tryd.prog 148 #[(pt lp),.agg (aA 14 (bH v))] w fun e w'=>Q9 w B lp m (iq m v) (jd m v) e w':=by
 have hC:=h.c;have hT:=h.t;have hP:=h.p;have hR:=h.r;have hG:=h.g;have hA:=h.a;have hN:=h.ne;have lC:=h.c.lt;have lT:=h.t.lt;have lP:=h.p.lt;have lR:=h.r.lt;have lG:=h.g.lt;have lA:=h.a.lt;obtain⟨a,ha,ho⟩ : ∃ a:Nat,a<6/\v.o=(a:Int)+1:=eG (iG hv);have hra:aK v=a:=by unfold aK; omega
 have aa:=Ea hv hwf;have hvo:1<=v.o/\v.o<=6:=by omega
 refine Kent Tryd.func148 56 ?_;refine ay<|xg (pt lp) fun J w1 mR m1 s1 z1 => ?_;have⟨m2,m4,m5,m6,m7,b1⟩:=rX s1.old hC hP hR hG hA (Below.refl w.heap.size w);have sO:=gL mR;have⟨nC,zB,xI,CQ,AP⟩:=Aw mR hC.lt hP.lt hR.lt hG.lt hA.lt;have uo:=m1.lt;refine pQ fun n w2 yZ D s2 z2 => ?_;have⟨m9,m11,m12,m13,m14,m15,b2⟩:=jw s2.old m2 m4 m5 m6 m7 m1 b1;have qN:=jc yZ b1.size;have⟨KU,BX,Fg,zX,BZ,zK⟩:=JO yZ m2.lt m4.lt m5.lt m6.lt m7.lt m1.lt;have zL:=D.lt;refine av (.nilFunc)<|av (au 0)<|aD<|Ws ?_;refine K4 (T1:=102) (T2:=102) (T1':=102) (T2':=102) (a1 := .tmp 6) (v1 := .tmp 16) (a2 := .tmp 7) (v2 := .tmp 21) (m1:=2) (m2:=2) (z1:=fun d=>if d<1 then au 0 else aC 0) (y1:=bR (bR (fun d=>if d<1 then au 0 else aC 0) 0 1 (fun _=>au v.o)) 1 1 (fun _=>aC v.req)) (z2:=fun d=>if d<1 then au 0 else aC 0) (y2:=bR (bR (fun d=>if d<1 then au 0 else aC 0) 0 1 (fun _=>au v.o)) 1 1 (fun _=>aC v.of)) (u1 := .agg (aA 2 (bR (bR (fun d=>if d<1 then au 0 else aC 0) 0 1 (fun _=>au v.o)) 1 1 (fun _=>aC v.req)))) (u2 := .agg (aA 2 (bR (bR (fun d=>if d<1 then au 0 else aC 0) 0 1 (fun _=>au v.o)) 1 1 (fun _=>aC v.of)))) 10 11 12 13 [[],[],[],[],[],[],[],[],[],[],[],[],[(0,[10]),(1,[11])],[(0,[10]),(1,[11]),(2,[12])]] [[(2,[0]),(3,[0])],[(2,[1]),(3,[1])],[(2,[2]),(3,[2])],[(2,[3]),(3,[3])],[(2,[4]),(3,[4])],[(3,[5])],[(3,[6])],[(3,[7])],[(3,[8])],[(3,[9])],[(2,[10]),(3,[10])],[(2,[11]),(3,[11])],[(3,[12])],[]] #[(pt n),au v.o,(pf n 12),aC v.req,.agg (aA 2 (bR (bR (fun d=>if d<1 then au 0 else aC 0) 0 1 (fun _=>au v.o)) 1 1 (fun _=>aC v.req))),(pt n),au v.o,(pf n 13),aC v.of,.agg (aA 2 (bR (bR (fun d=>if d<1 then au 0 else aC 0) 0 1 (fun _=>au v.o)) 1 1 (fun _=>aC v.of))),undef,undef,undef,undef] (by kernel_rfl) (by kernel_rfl) (by kernel_rfl) (by kernel_rfl) (by kernel_rfl) (by kernel_rfl) (by kernel_rfl) (by kernel_rfl) (by kernel_rfl) (by kernel_rfl) rfl rfl (by kernel_rfl) (by kernel_rfl) rfl rfl rfl rfl (by kernel_rfl) (by kernel_rfl) (fun k l=>(show ev _ (.tmp 6)=(pt k)from by kernel_rfl)) (fun k l=>(show ev _ (.tmp 7)=(pt l)from by kernel_rfl)) (fun k l=>(show ev _ (.tmp 16) = .agg (aA 2 (bR (bR (fun d=>if d<1 then au 0 else aC 0) 0 1 (fun _=>au v.o)) 1 1 (fun _=>aC v.req)))from by kernel_rfl)) (fun k l=>(show ev _ (.tmp 21) = .agg (aA 2 (bR (bR (fun d=>if d<1 then au 0 else aC 0) 0 1 (fun _=>au v.o)) 1 1 (fun _=>aC v.of)))from by kernel_rfl)) (bL _ _) (bL _ _) (bS (bS (fun jq _=>by show((fun d=>if d<1 then au 0 else aC 0:Nat->Value) jq).oneCell'=true; simp only[]; repeat (first|rfl|split)) (fun _ _=>rfl)) (fun _ _=>rfl)) (bS (bS (fun jq _=>by show((fun d=>if d<1 then au 0 else aC 0:Nat->Value) jq).oneCell'=true; simp only[]; repeat (first|rfl|split)) (fun _ _=>rfl)) (fun _ _=>rfl)) (fun k l => ?_) ?_
 ·refine⟨?_,?_,?_,?_,?_,?_,?_,?_,?_,?_,?_,?_,?_,?_,trivial⟩
  ·exact .inr pU
  ·exact .inr (rW (au v.o) fun F u=>bF (x:=bH v) rfl (show ev _ (.tmp 12)=(pt n)from by kernel_rfl) (by kernel_rfl) (D.aH.below u (by have:=D.lt; omega)) (i:=0) (by omega) (by omega) rfl)
  ·exact .inr pU
  ·exact .inr (rW (aC v.req) fun F u=>bF (x:=bH v) rfl (show ev _ (.tmp 14)=(pf n 12)from by kernel_rfl) (by kernel_rfl) (D.aH.below u (by have:=D.lt; omega)) (i:=12) (by omega) (by omega) rfl)
  ·exact .inr (rW (.agg (aA 2 (bR (bR (fun d=>if d<1 then au 0 else aC 0) 0 1 (fun _=>au v.o)) 1 1 (fun _=>aC v.req)))) fun F u=>gy (vs := [(0,au v.o),(1,aC v.req)]) (places := #[(0,1),(1,1)]) (m:=2) (x:=fun d=>if d<1 then au 0 else aC 0) rfl (Fx.L8 (show ev _ (.tmp 13)=au v.o from by kernel_rfl) (show ev _ (.tmp 15)=aC v.req from by kernel_rfl)) Tryd.underlying102 (by kernel_rfl) (by kernel_rfl) (by rw[bJ (off:=0) (s:=1) (y:=fun _=>au v.o) (by kernel_rfl) (cells_one (by rfl)) (by rfl)]; rw[bJ (off:=1) (s:=1) (y:=fun _=>aC v.req) (by kernel_rfl) (cells_one (by rfl)) (by rfl)]; rfl))
  ·exact .inr pU
  ·exact .inr (rW (au v.o) fun F u=>bF (x:=bH v) rfl (show ev _ (.tmp 17)=(pt n)from by kernel_rfl) (by kernel_rfl) (D.aH.below u (by have:=D.lt; omega)) (i:=0) (by omega) (by omega) rfl)
  ·exact .inr pU
  ·exact .inr (rW (aC v.of) fun F u=>bF (x:=bH v) rfl (show ev _ (.tmp 19)=(pf n 13)from by kernel_rfl) (by kernel_rfl) (D.aH.below u (by have:=D.lt; omega)) (i:=13) (by omega) (by omega) rfl)
  ·exact .inr (rW (.agg (aA 2 (bR (bR (fun d=>if d<1 then au 0 else aC 0) 0 1 (fun _=>au v.o)) 1 1 (fun _=>aC v.of)))) fun F u=>gy (vs := [(0,au v.o),(1,aC v.of)]) (places := #[(0,1),(1,1)]) (m:=2) (x:=fun d=>if d<1 then au 0 else aC 0) rfl (Fx.L8 (show ev _ (.tmp 18)=au v.o from by kernel_rfl) (show ev _ (.tmp 20)=aC v.of from by kernel_rfl)) Tryd.underlying102 (by kernel_rfl) (by kernel_rfl) (by rw[bJ (off:=0) (s:=1) (y:=fun _=>au v.o) (by kernel_rfl) (cells_one (by rfl)) (by rfl)]; rw[bJ (off:=1) (s:=1) (y:=fun _=>aC v.of) (by kernel_rfl) (cells_one (by rfl)) (by rfl)]; rfl))
  ·exact .inl rfl
  ·exact .inl rfl
  ·exact .inl rfl
  exact .inl rfl
 rintro k l w3 Q O G H ne1 m16 m17 hb1;have UE:lp≠k:=t_ (n_ (m9.lt) G);have Vk:m.pb≠k:=t_ (n_ (m11.lt) G);have Vl:m.rb≠k:=t_ (n_ (m12.lt) G);have acG:m.gb≠k:=t_ (n_ (m13.lt) G);have Vm:m.ab≠k:=t_ (n_ (m14.lt) G);have acH:J≠k:=t_ (n_ (m15.lt) G);have UD:n≠k:=t_ (n_ (D.lt) G);have aqW:lp≠l:=t_ (n_ (m9.lt) H);have anI:m.pb≠l:=t_ (n_ (m11.lt) H);have anJ:m.rb≠l:=t_ (n_ (m12.lt) H);have anK:m.gb≠l:=t_ (n_ (m13.lt) H);have acI:m.ab≠l:=t_ (n_ (m14.lt) H);have acJ:J≠l:=t_ (n_ (m15.lt) H);have aqX:n≠l:=t_ (n_ (D.lt) H);have⟨m18,m20,m21,m22,m23,m24,mZ,b3⟩:=lK hb1 m9 m11 m12 m13 m14 m15 D b2;have G:w.heap.size<=k:=m_ b2.size G;have IK:=m16.lt;have H:w.heap.size<=l:=m_ b2.size H;have Qi:=m17.lt;have q1:Q 2=(pt J):=by rw[O]; kernel_rfl
 have q2:Q 3=(pt n):=by rw[O]; kernel_rfl
 have q3:Q 4 = .nilFunc:=by rw[O]; kernel_rfl
 have q4:Q 5=au 0:=by rw[O]; kernel_rfl
 have q5:Q 6=(pt k):=by rw[O]; kernel_rfl
 have q6:Q 7=(pt l):=by rw[O]; kernel_rfl
 clear O;refine sN<|Ws<|Ws ?_;refine jS [0,1,2,3,4,5] [4,0,0,4,4,4] [] fun qE dU iC => ?_;have⟨nT,oN,oZ,qc,lU,m32,qw,og,qG,b4⟩:=xk dU m18 m20 m21 m22 m23 m24 mZ m16 m17 b3;refine Rs (pt lp) (aM m32.aH 0 (ha:=q1)) ?_;refine aZ (pt lp)<|aZ (pf lp 28)<|Rs (.map (some m.ab)) (aM nT.aH 28) ?_;refine Rs (.agg (aA 2 (bR (bR (fun d=>if d<1 then au 0 else aC 0) 0 1 (fun _=>au v.o)) 1 1 (fun _=>aC v.req)))) (fJ og.aH 0 (ha:=q5)) ?_
 rcases Fx.xq m.ao m.ar m.an v.o v.req with ⟨U1,CS,CU,K6⟩|jg
 ·refine Rs aG (Fx.JW (z := .bool false) rfl rfl ((show ev _ _ = .agg (aA 2 (bR (bR (fun d=>if d<1 then au 0 else aC 0) 0 1 (fun _=>au v.o)) 1 1 (fun _=>aC v.req)))from rfl).trans (Fx.zq (y:=bR (bR (fun d=>if d<1 then au 0 else aC 0) 0 1 (fun _=>au v.o)) 1 1 (fun _=>aC v.req)) (a:=v.o) (b:=v.req) (Fx.Ao (by omega) (Fx.pX (j:=0) (by omega) (by omega) rfl)) (Fx.pX (j:=0) (by omega) (by omega) rfl))) aa.1 lU Tryd.underlying90 Gc (by rfl) CS CU K6 rfl) ?_;refine bO<|aO<|ay<|av (.nilFunc)<|av (au 14)<|aD<|Wr<|sR<|aJ (.tuple #[.nilFunc,au 14]) ?_;have A:jd m v=14:=by unfold jd; exact d_ (rG CS CU K6)
  exact⟨⟨.nilFunc,0,#[],by rw[A],rfl,fun K=>L_ (A.symm.trans K) (by first|decide|omega|assumption)⟩,b4⟩
 refine Rs aF (Fx.JV (z := .bool false) rfl rfl ((show ev _ _ = .agg (aA 2 (bR (bR (fun d=>if d<1 then au 0 else aC 0) 0 1 (fun _=>au v.o)) 1 1 (fun _=>aC v.req)))from rfl).trans (Fx.zq (y:=bR (bR (fun d=>if d<1 then au 0 else aC 0) 0 1 (fun _=>au v.o)) 1 1 (fun _=>aC v.req)) (a:=v.o) (b:=v.req) (Fx.Ao (by omega) (Fx.pX (j:=0) (by omega) (by omega) rfl)) (Fx.pX (j:=0) (by omega) (by omega) rfl))) aa.1 lU Tryd.underlying90 Gc (by rfl) jg) ?_;refine bO<|aL<|Wk<|sN<|Ws ?_;refine jS [0,1,2,3,4,5,6,7,8,9,10,11] [1,0,0,1,1,1,0,0,0,2,3,0] [(10,0,[0]),(10,3,[3]),(10,4,[4]),(10,5,[5]),(10,9,[9]),(11,9,[9]),(11,10,[10])] fun Dl gH nZ => ?_;have⟨S,rP,qM,U,nU,V,nE,rY,W,X⟩:=xk gH nT oN oZ qc lU m32 qw og qG b4;refine Rd (v:=(pt lp)) (by rfl) (by rfl) (wI _) (fun F u=>bF (x:=fun _=>(pt lp)) rfl q1 (by kernel_rfl) (V.aH.below u (by have:=V.lt; omega)) (i:=0) (by omega) (by omega) rfl) ?_;refine aZ (pt lp)<|aZ (pf lp 27)<|Rd (v := .map (some m.gb)) (by rfl) (by rfl) (wI _) (fun F u=>bF (x:=vg m) rfl rfl (by kernel_rfl) (S.aH.below u (by have:=S.lt; omega)) (i:=27) (by omega) (by omega) rfl) ?_;refine Rd (v := .agg (aA 2 (bR (bR (fun d=>if d<1 then au 0 else aC 0) 0 1 (fun _=>au v.o)) 1 1 (fun _=>aC v.of)))) (by rfl) (by rfl) (wI _) (fun F u=>eZ (x:=bR (bR (fun d=>if d<1 then au 0 else aC 0) 0 1 (fun _=>au v.o)) 1 1 (fun _=>aC v.of)) (y:=bR (bR (fun d=>if d<1 then au 0 else aC 0) 0 1 (fun _=>au v.o)) 1 1 (fun _=>aC v.of)) rfl q6 (by kernel_rfl) (by kernel_rfl) (W.aH.below u (by have:=W.lt; omega)) (i:=0) (by omega) (by omega) (fun j _=>by rw[E_])) ?_
 rcases Fx.xq (fun i=>m.g i 0) (fun i=>m.g i 1) m.gn v.o v.of with ⟨f,P,L,M⟩|Zq
 ·refine Rd (v := .tuple #[.agg (aA 5 (ng (m.g f))),.bool true]) (by rfl) (by rfl) (wI _) (fun F u=>Fx.Pv (z := .agg (aA 5 (fun d=>if d<1 then au 0 else if d<3 then aC 0 else if d<4 then au 0 else aC 0))) rfl rfl ((show ev _ _ = .agg (aA 2 (bR (bR (fun d=>if d<1 then au 0 else aC 0) 0 1 (fun _=>au v.o)) 1 1 (fun _=>aC v.of)))from rfl).trans (Fx.zq (y:=bR (bR (fun d=>if d<1 then au 0 else aC 0) 0 1 (fun _=>au v.o)) 1 1 (fun _=>aC v.of)) (a:=v.o) (b:=v.of) (Fx.Ao (by omega) (Fx.pX (j:=0) (by omega) (by omega) rfl)) (Fx.pX (j:=0) (by omega) (by omega) rfl))) aa.2 (U.up u) Tryd.underlying89 Gc (by kernel_rfl) P L M rfl) ?_;refine aZ (.tuple #[.agg (aA 5 (ng (m.g f))),.bool true])<|aZ (.agg (aA 5 (ng (m.g f))))<|aZ aG<|Dc<|qC 5 (fun d=>if d<1 then au 0 else if d<3 then aC 0 else if d<4 then au 0 else aC 0) fun C w4 eg5 pz s6 z3 => ?_;have⟨rZ,tK,sQ,uw,uU,uV,uy,wD,sS,b6⟩:=xk s6.old S rP qM U nU V nE rY W X;have lg5:=jc eg5 X.size;have⟨anL,anM,anN,anO,anP,anQ,anR,anS,anT⟩:=WH eg5 S.lt rP.lt qM.lt U.lt nU.lt V.lt nE.lt rY.lt W.lt;have tg5:=pz.lt;refine Ln ⟨s6.old,?_⟩;refine gG<|dZ pz 0 (h1:=(fun j hj=>by rcases j with _|_|_|_|_|_|_|_|_|_|_|_|_|_|j <;> first|rfl|omega)) fun w5 sj s7 z4 => ?_
  have sU:aQ w5 C 5 (ng (m.g f)) 99:=aR sj;have ac:aQ w5 C 5 (ng (m.g f)) 99:=sU;have gM:=gK s7 pz.ty;have⟨ru,oh,tL,m64,yY,wE,wR,wK,sV⟩:=Z7 gM rZ tK sQ uw uU uV uy wD sS;have b7:=s7.below b6 b6.size (by omega);refine Ln<|aZ aG<|bO<|Ws<|ay<|av aG<|av aF<|av aF<|av (pf C 4)<|Lv (aC ((m.g f) 4)) (aM ac.aH 4) ?_;by_cases Sg:((m.g f) 4)=0
  ·refine Lv aF (jH Sg)<|av aF<|aD<|aL<|Wk<|sN<|ay<|Lv (pt lp) (aM wE.aH 0 (ha:=q1))<|av (pf C 2)<|Lv (aC ((m.g f) 2)) (aM ac.aH 2)<|Lv (.func (.func 161) #[] #[(pt n),(pt C)]) (Fx.mG (us := []) (vs := [(pt n),(pt C)]) rfl rfl (Fx.args2 q2 rfl))<|lS (Ve m lp B _ (h.up b7) ((m.g f) 2) v (m.g f) hvo n C wR ac) ?_;rintro e9 w6 ⟨⟨Z,fi1,Py,he,ho1,hD1⟩,E⟩;refine⟨_,he,?_⟩;clear he;have⟨uX,vI,tN,Ah,vJ,yt,yu,wS,wT,sZ,b8⟩:=Ep E ru oh tL m64 yY wE wR wK sV ac b7;have bw1:Bw w6 w6:=⟨Below.refl _ _⟩;refine av (.tuple #[Z,au (dn m (fun x=>bD x v.o (m.g f 3)) (m.T.path ((m.g f) 2)))])<|av (Z)<|av (au (dn m (fun x=>bD x v.o (m.g f 3)) (m.T.path ((m.g f) 2))))<|qC 1 (fun _ => .nilFunc) fun N w7 eg6 uY s9 z5 => ?_;have⟨yA,yB,Ai,Ez,Dt,CF,b9⟩:=jw s9.old yt yu wS wT sZ bw1 b8;have lg6:=jc eg6 b8.size;have⟨anU,anV,anW,anX,anY,anZ,aoa,aob,aoc,aod⟩:=YT eg6 uX.lt vI.lt tN.lt Ah.lt vJ.lt yt.lt yu.lt wS.lt wT.lt sZ.lt;have tg6:=uY.lt;have kg6:w6.heap.size<=N:=(by rw[eg6]; exact bw1.b.size);refine iX uY 0 Z (h1:=ho1) fun w8 CG s10 z6 => ?_;have Aj:aQ w8 N 1 (fun _=>Z) 94:=dH CG;have kr:=gK s10 uY.ty;have⟨uK,sD,nL,nM,qh⟩:=qb kr yA yB Ai Ez Dt;have qH:=(⟨s10.below CF.b CF.b.size kg6⟩:Bw w6 _);have b10:=s10.below b9 b9.size (by omega);refine av (au (dn m (fun x=>bD x v.o (m.g f 3)) (m.T.path ((m.g f) 2))))<|aD<|Ws<|ay<|av (au (dn m (fun x=>bD x v.o (m.g f 3)) (m.T.path ((m.g f) 2)))) ?_;by_cases Y:(dn m (fun x=>bD x v.o (m.g f 3)) (m.T.path ((m.g f) 2)))=0
   ·refine Lv aF (jH Y)<|aD<|aL<|Wk<|sN<|ay<|Lv (.func (.func 163) #[] #[(pt N),(pt J),(pt k),(pt n),(pt C),(pt l)]) (Fx.mG (us := []) (vs := [(pt N),(pt J),(pt k),(pt n),(pt C),(pt l)]) rfl rfl (Fx.afZ rfl q1 q5 q2 rfl q6))<|av (.func (.func 163) #[] #[(pt N),(pt J),(pt k),(pt n),(pt C),(pt l)])<|av (au 0)<|aD<|Wr<|aJ (.tuple #[.func (.func 163) #[] #[(pt N),(pt J),(pt k),(pt n),(pt C),(pt l)],au 0]) ?_;have I:eX m v.o v.of=f:=yJ h.g.inj P L M;have hD0:=hD1 Y;have hfe:=hD0.e;subst hfe;have em:iq m v=OO m (qm m (fun x=>bD x v.o (m.g f 3)) (m.T.path (m.g f 2))).R v f:=(by unfold iq Vj; rw[I]);rw[em];have A:jd m v=0:=by unfold jd; rw[b_ (show ¬ gN m v.o v.req=true by unfold gN; rw[oQ jg]; decide)]; rw[b_ (show ¬ (iA m v.o v.of=false\/m.g (eX m v.o v.of) 4≠0) by rw[I,show iA m v.o v.of=true from rG P L M]; rintro (q|q) <;> first|(exact L_ q (by decide))|omega),I]; exact Y
    exact⟨⟨_,163,#[(pt N),(pt J),(pt k),(pt n),(pt C),(pt l)],by rw[A],rfl,fun _=>⟨rfl,⟨_,_,Tryd.func163,rfl,rfl⟩,fun w2 E=>(Vh m lp B w2 ((h.up b10).up E) v hv hwf _ w5.heap.size w.heap.size _ (by omega) _ (hD0.up (Jt qH.b E)) f _ _ _ _ _ _ (Aj.bY (Sb E) (t_ Aj.lt)) (uK.bY (Sb E) (t_ uK.lt)) (nL.bY (Sb E) (t_ nL.lt)) (sD.bY (Sb E) (t_ sD.lt)) (qh.bY (Sb E) (t_ qh.lt)) (nM.bY (Sb E) (t_ nM.lt)) lg5 ⟨by omega,by omega,by omega,by omega,by omega⟩ jg P L M).mono fun _ _ hc=>⟨hc.1,hc.2.1,hc.2.2.mono fun _ hk=>hk⟩⟩⟩,b10⟩
   refine Lv aG (mX Y)<|aD<|aO<|ay<|av (au (dn m (fun x=>bD x v.o (m.g f 3)) (m.T.path ((m.g f) 2))))<|av (.nilFunc)<|av (au (dn m (fun x=>bD x v.o (m.g f 3)) (m.T.path ((m.g f) 2))))<|aD<|Wr<|sR<|aJ (.tuple #[.nilFunc,au (dn m (fun x=>bD x v.o (m.g f 3)) (m.T.path ((m.g f) 2)))]) ?_;have I:eX m v.o v.of=f:=yJ h.g.inj P L M;have A:jd m v=dn m (fun x=>bD x v.o (m.g f 3)) (m.T.path ((m.g f) 2)):=by unfold jd; rw[b_ (show ¬ gN m v.o v.req=true by unfold gN; rw[oQ jg]; decide)]; rw[b_ (show ¬ (iA m v.o v.of=false\/m.g (eX m v.o v.of) 4≠0) by rw[I,show iA m v.o v.of=true from rG P L M]; rintro (q|q) <;> first|(exact L_ q (by decide))|omega),I]
   exact⟨⟨.nilFunc,0,#[],by rw[A],rfl,fun K=>L_ (A.symm.trans K) (by first|decide|omega|assumption)⟩,b10⟩
  refine Lv aG (mX Sg)<|av aG<|aD<|aO<|ay<|av (.nilFunc)<|av (au 12)<|aD<|Wr<|sR<|aJ (.tuple #[.nilFunc,au 12]) ?_;have I:eX m v.o v.of=f:=yJ h.g.inj P L M;have A:jd m v=12:=by unfold jd; rw[b_ (show ¬ gN m v.o v.req=true by unfold gN; rw[oQ jg]; decide)]; exact d_ (.inr (by rw[I]; omega))
  exact⟨⟨.nilFunc,0,#[],by rw[A],rfl,fun K=>L_ (A.symm.trans K) (by first|decide|omega|assumption)⟩,b7⟩
 refine Rd (v := .tuple #[.agg (aA 5 (fun d=>if d<1 then au 0 else if d<3 then aC 0 else if d<4 then au 0 else aC 0)),.bool false]) (by rfl) (by rfl) (wI _) (fun F u=>Fx.Pt (z := .agg (aA 5 (fun d=>if d<1 then au 0 else if d<3 then aC 0 else if d<4 then au 0 else aC 0))) rfl rfl ((show ev _ _ = .agg (aA 2 (bR (bR (fun d=>if d<1 then au 0 else aC 0) 0 1 (fun _=>au v.o)) 1 1 (fun _=>aC v.of)))from rfl).trans (Fx.zq (y:=bR (bR (fun d=>if d<1 then au 0 else aC 0) 0 1 (fun _=>au v.o)) 1 1 (fun _=>aC v.of)) (a:=v.o) (b:=v.of) (Fx.Ao (by omega) (Fx.pX (j:=0) (by omega) (by omega) rfl)) (Fx.pX (j:=0) (by omega) (by omega) rfl))) aa.2 (U.up u) Tryd.underlying89 Gc (by kernel_rfl) Zq) ?_;refine aZ (.tuple #[.agg (aA 5 (fun d=>if d<1 then au 0 else if d<3 then aC 0 else if d<4 then au 0 else aC 0)),.bool false])<|aZ (.agg (aA 5 (fun d=>if d<1 then au 0 else if d<3 then aC 0 else if d<4 then au 0 else aC 0)))<|aZ aF<|Dc<|qC 5 (fun d=>if d<1 then au 0 else if d<3 then aC 0 else if d<4 then au 0 else aC 0) fun g7 w9 eg7 qI s11 z7 => ?_;have b11:=bE s11.old X;have lg7:=jc eg7 X.size;have⟨aii,aij,aik,ail,ain,aio,aip,aiq,air⟩:=WH eg7 S.lt rP.lt qM.lt U.lt nU.lt V.lt nE.lt rY.lt W.lt;have tg7:=qI.lt;refine Ln ⟨s11.old,?_⟩;refine gG<|dZ qI 0 (h1:=(fun j hj=>by rcases j with _|_|_|_|_|_|_|_|_|_|_|_|_|_|j <;> first|rfl|omega)) fun rO qj s12 z8 => ?_
 have vT:aQ rO g7 5 (fun d=>if d<1 then au 0 else if d<3 then aC 0 else if d<4 then au 0 else aC 0) 99:=aR qj;have b12:=s12.below b11 b11.size (by omega);refine Ln<|aZ aF<|bO<|Ws<|ay<|av aF<|av aG<|av aG<|dB<|dB<|dB<|av aG<|aD<|aO<|ay<|av (.nilFunc)<|av (au 12)<|aD<|Wr<|sR<|aJ (.tuple #[.nilFunc,au 12]) ?_;have A:jd m v=12:=by unfold jd; rw[b_ (show ¬ gN m v.o v.req=true by unfold gN; rw[oQ jg]; decide)]; exact d_ (.inl (oQ Zq))
 exact⟨⟨.nilFunc,0,#[],by rw[A],rfl,fun K=>L_ (A.symm.trans K) (by first|decide|omega|assumption)⟩,b12⟩
set_option maxRecDepth 20000
set_option linter.unusedVariables false
namespace Rt
noncomputable def gV(m:dM)(v:EvM):dM:=if v.kind=1 then CV m v else if v.kind=2 then tY m v else if v.kind=3 then jY m v else if v.kind=4 then iq m v else if v.kind=5 then CP m v else if v.kind=6 then Hf m v else BU m v
def fC(m:dM)(v:EvM):Int:=if v.kind=1 then iP m v else if v.kind=2 then jr m v else if v.kind=3 then jL m v else if v.kind=4 then jd m v else if v.kind=5 then jX m v else if v.kind=6 then 0 else 0
def bV(m:dM)(v:EvM):Int:=if bM v=false then 1 else if lX m.known v=true then 14 else if dw m.known v=false then 13 else if m.inn (aK v)=false\/m.left (aK v)=true then 10 else fC m v
structure QlK(m:dM):Prop where
 own : ∀ a,a<6->0<=m.own a/\m.own a<=1000
 row : ∀ i,i<m.T.n -> ∀ p,p<54->0<=m.R i p/\m.R i p<=1125899906842624
 ga:QD m
 kn:AO m.known
def kfn(k:Nat):Nat:=if k=1 then 145 else if k=2 then 146 else if k=3 then 147 else if k=4 then 148 else if k=5 then 149 else if k=6 then 150 else 151
def Ch:Nat->Value:=fun p=>if p=0 then .nilFunc else .func (.func (kfn p)) #[] #[]
theorem Yb{p:Nat}(h:1<=p):Ch p = .func (.func (kfn p)) #[] #[]:=b_ (by omega)
end Rt
theorem agd {k : Nat} (h1 : 1 ≤ k) (b : k ≤ 7) : ∃ a c, Tryd.prog.funcs[kfn k]? = some a ∧ (a.name == "runtime.NumGoroutine") = false ∧ a.body = some c := by
 rcases(show k=1\/k=2\/k=3\/k=4\/k=5\/k=6\/k=7 by omega)with rfl|rfl|rfl|rfl|rfl|rfl|rfl
 ·exact⟨_,_,Tryd.func145,rfl,rfl⟩
 ·exact⟨_,_,Tryd.func146,rfl,rfl⟩
 ·exact⟨_,_,Tryd.func147,rfl,rfl⟩
 ·exact⟨_,_,Tryd.func148,rfl,rfl⟩
 ·exact⟨_,_,Tryd.func149,rfl,rfl⟩
 ·exact⟨_,_,Tryd.func150,rfl,rfl⟩
 exact⟨_,_,Tryd.func151,rfl,rfl⟩
theorem Uw.low{w:World}{B lp b c d:Nat}{m f:dM}{e:Value}{cap:Array Value}(h:Uw w B lp m f b e d cap)(g:c<=b):Uw w B lp m f c e d cap := { h with s:=fun l i=>(h.s l i).mono fun _ _ a=>⟨a.1,a.2.1,a.2.2.mono fun k j=>j.imp id (m_ g)⟩ }
theorem Yc(m:dM)(lp B:Nat)(w:World)(h:kQ w B lp m)(v:EvM)(c:bM v=true)(e:fV v)(d:QlK m)(k:Nat)(j:v.kind=(k:Int))(i:1<=k/\k<=7) :
 Calls Tryd.prog (kfn k) #[(pt lp),.agg (aA 14 (bH v))] w (Q9 w B lp m (gV m v) (fC m v)):=by
 rcases(show k=1\/k=2\/k=3\/k=4\/k=5\/k=6\/k=7 by omega)with rfl|rfl|rfl|rfl|rfl|rfl|rfl
 ·have a:v.kind=1:=by omega
  rw[show gV m v=CV m v by unfold gV; rw[d_ (by omega)],show fC m v=iP m v by unfold fC; rw[d_ (by omega)]];exact X6 m lp B w h v c d.own
 ·have a:v.kind=2:=by omega
  rw[show gV m v=tY m v by unfold gV; rw[b_ (by omega),d_ (by omega)],show fC m v=jr m v by unfold fC; rw[b_ (by omega),d_ (by omega)]];exact UK m lp B w h v c a d.row
 ·have a:v.kind=3:=by omega
  rw[show gV m v=jY m v by unfold gV; rw[b_ (by omega),b_ (by omega),d_ (by omega)],show fC m v=jL m v by unfold fC; rw[b_ (by omega),b_ (by omega),d_ (by omega)]];exact X9 m lp B w h v c e d.ga
 ·have a:v.kind=4:=by omega
  rw[show gV m v=iq m v by unfold gV; rw[b_ (by omega),b_ (by omega),b_ (by omega),d_ (by omega)],show fC m v=jd m v by unfold fC; rw[b_ (by omega),b_ (by omega),b_ (by omega),d_ (by omega)]];exact Ya m lp B w h v c e
 ·have a:v.kind=5:=by omega
  rw[show gV m v=CP m v by unfold gV; rw[b_ (by omega),b_ (by omega),b_ (by omega),b_ (by omega),d_ (by omega)],show fC m v=jX m v by unfold fC; rw[b_ (by omega),b_ (by omega),b_ (by omega),b_ (by omega),d_ (by omega)]];exact XR m lp B w h v c a
 ·have a:v.kind=6:=by omega
  rw[show gV m v=Hf m v by unfold gV; rw[b_ (by omega),b_ (by omega),b_ (by omega),b_ (by omega),b_ (by omega),d_ (by omega)],show fC m v=0 by unfold fC; rw[b_ (by omega),b_ (by omega),b_ (by omega),b_ (by omega),b_ (by omega),d_ (by omega)]];obtain⟨b,f,g⟩:=GU c a;exact XT m lp B w h v c b f g
 have a:v.kind=7:=by omega
 rw[show gV m v=BU m v by unfold gV; rw[b_ (by omega),b_ (by omega),b_ (by omega),b_ (by omega),b_ (by omega),b_ (by omega)],show fC m v=0 by unfold fC; rw[b_ (by omega),b_ (by omega),b_ (by omega),b_ (by omega),b_ (by omega),b_ (by omega)]];exact UO m lp B w h v c
theorem OP(m:dM)(lp B:Nat)(w:World)(h:kQ w B lp m)(v:EvM)(l:fV v)(Q:QlK m)(hB:1<=B)(M:iQ w 0 0 8 Ch) :
 Calls Tryd.prog 29 #[(pt lp),.agg (aA 14 (bH v))] w fun e w'=>Q9 w B lp m (gV m v) (bV m v) e w':=by
 have L:=h.c;have hT:=h.t;have hP:=h.p;have hR:=h.r;have hG:=h.g;have hA:=h.a;have hN:=h.ne;have lC:=h.c.lt;have lT:=h.t.lt;have lP:=h.p.lt;have lR:=h.r.lt;have lG:=h.g.lt;have lA:=h.a.lt;obtain⟨q,P⟩ : ∃ q:Nat,v.kind=(q:Int):=⟨v.kind.toNat,by have:=l.kind; omega⟩;have N:Kr m.known:=fun i hi=>by have:=Q.kn i hi; exact⟨by omega,by omega⟩
 refine Kent Tryd.func29 55 ?_;refine ay<|pQ fun x w1 z E s1 z1 => ?_;have⟨m2,m8,G⟩:=jh s1.old L M (Below.refl w.heap.size w);have sO:=gL z;have⟨nC,zB,xI,CQ,AP⟩:=Aw z L.lt hP.lt hR.lt hG.lt hA.lt;have Kt:0≠x:=by rw[z]; exact t_ (M.lt (by omega))
 have uo:=E.lt;refine av (.nilFunc)<|av (au 0)<|aD<|Ws<|Wb<|ay<|av (pt lp)<|Lv aF (Fx.mh rfl rfl rfl (by kernel_rfl))<|av aF<|aD<|aL<|ay<|Lv (.agg (aA 14 (bH v))) (fJ E.aH 0) ?_;by_cases f:(bM v)=true
 ·have C:bM v=true:=f;obtain⟨a,ha,ho⟩ : ∃ a:Nat,a<6/\v.o=(a:Int)+1:=eG (iG C);have D:aK v=a:=by unfold aK; omega
  have hkr:=iV C;refine dL (G9 v _ l) aG (by rw[f]) ?_;intro w2 hb1;have⟨m9,m15,m16,b2⟩:=mJ hb1 m2 m8 E G;refine av aF<|av aF<|aD<|aL<|Ws ?_;refine jS [0,1,2,3,4,5,6] [0,0,0,4,4,3,0] [(5,3,[3]),(5,4,[4]),(6,5,[5])] fun qE dU iC => ?_;have⟨R,m23,S,H⟩:=mJ dU m9 m15 m16 b2;refine aZ (pt lp)<|aZ (pt lp)<|aZ (pf lp 12)<|Rs (.agg (aA 6 (rv .u64 m.known))) (fJ R.aH 12 (fun j hj=>uQ (p:=j) (by omega) (by omega))) ?_;refine Rs (.agg (aA 14 (bH v))) (fJ S.aH 0) ?_;refine gG ?_;by_cases k:(lX m.known v)=true
  ·refine dL (UG m.known v _ l) aG (by rw[k]) ?_;intro w3 hb2;have b4:=bE hb2 H;refine Ln<|aZ aG<|bO<|aO<|ay<|av (.nilFunc)<|av (au 14)<|aD<|Wr<|bI<|sR<|aJ (.tuple #[.nilFunc,au 14]) ?_;have b:bV m v=14:=(by unfold bV; rw[b_ (by rw[f]; decide)]; exact d_ k);exact⟨⟨.nilFunc,0,#[],by rw[b],rfl,fun d=>L_ (b.symm.trans d) (by first|decide|omega|assumption)⟩,b4⟩
  rw[S_]at k;refine dL (UG m.known v _ l) aF (by rw[k]) ?_;intro w4 hb3;have⟨qw,qM,uq,b5⟩:=mJ hb3 R m23 S H;refine Ln<|aZ aF<|bO<|aL<|Ws ?_;refine jS [0,1,2,3,4,5,6,7] [0,0,0,4,4,3,0,0] [(5,3,[3]),(5,4,[4]),(6,5,[5]),(7,5,[5])] fun Dl gH nZ => ?_;have⟨T,rZ,U,I⟩:=mJ gH qw qM uq b5;refine aZ (pt lp)<|aZ (pt lp)<|aZ (pf lp 12)<|Rs (.agg (aA 6 (rv .u64 m.known))) (fJ T.aH 12 (fun j hj=>uQ (p:=j) (by omega) (by omega))) ?_;refine Rs (.agg (aA 14 (bH v))) (fJ U.aH 0) ?_;refine gG ?_;by_cases n:(dw m.known v)=true
  ·refine dL (OD m.known v _ l N) aG (by rw[n]) ?_;intro w5 hb4;have⟨tK,wD,sS,b7⟩:=mJ hb4 T rZ U I;refine Ln<|aZ aF<|aZ aF<|bO<|aL<|Ws<|Ws ?_;refine jS [0,1,4,5,2,3,6,7,8,9] [0,0,4,0,0,0,0,4,0,0] [] fun Q0 lJ AB => ?_;have⟨F,tL,V,J⟩:=mJ lJ tK wD sS b7;refine aZ (pt lp)<|aZ (pt x)<|aZ (pt lp)<|aZ (pt lp)<|Rs (au v.o) (aM V.aH 0) ?_;refine Rp (au a) (fun _=>fQ)<|Rp (pf lp a) (fun _=>jm 6 1) ?_;by_cases s:(m.inn a)=true
   ·refine Rs aG (aM F.aH a ((E9 (by omega)).trans (K_ Value.bool s))) ?_;refine aZ aF<|aZ aF<|bO<|aL ?_;refine jS [0,1,4,5,2,3,6,7,8] [0,0,4,0,0,0,0,4,0] [] fun wt4 qp Gy => ?_;have⟨W,uz,X,K⟩:=mJ qp F tL V J;refine aZ (pt lp)<|aZ (pt x)<|aZ (pt lp)<|aZ (pf lp 6)<|Rs (au v.o) (aM X.aH 0) ?_;refine Rp (au a) (fun _=>fQ)<|Rp (pf lp (a+6)) (fun _=>jm 6 1) ?_;by_cases u:(m.left a)=true
    ·refine Rs aG (aM W.aH (a+6) ((Fa (p:=a) (by omega) (by omega)).trans (K_ Value.bool u))) ?_;refine aZ aG<|bO<|aO<|ay<|av (.nilFunc)<|av (au 10)<|aD<|Wr<|bI<|sR<|aJ (.tuple #[.nilFunc,au 10]) ?_;have b:bV m v=10:=(by unfold bV; rw[b_ (by rw[f]; decide)]; rw[b_ (by rw[k]; decide)]; rw[b_ (by rw[n]; decide)]; exact d_ (.inr (by rw[D]; exact u)));exact⟨⟨.nilFunc,0,#[],by rw[b],rfl,fun d=>L_ (b.symm.trans d) (by first|decide|omega|assumption)⟩,K⟩
    rw[S_]at u;refine Rs aF (aM W.aH (a+6) ((Fa (p:=a) (by omega) (by omega)).trans (K_ Value.bool u))) ?_;refine aZ aF<|bO<|aL<|Wk<|bT<|sN<|Ws ?_;refine jS [0,4,1,2,3,5,6,7,8,9,10] [0,4,0,4,0,4,3,0,0,0,0] [(6,1,[3,2,1]),(6,3,[3]),(6,5,[5]),(7,6,[6]),(8,6,[6]),(9,6,[6]),(10,6,[6])] fun wt5 zu Sk => ?_;have⟨wT,Y,y⟩:=jh zu uz X K;refine aZ (pf x 8)<|aZ (pt lp)<|Rs (.int .u8 (q:Int)) (aM Y.aH 8 (K_ (Value.int IntKind.u8) P)) ?_;refine Rp (pf 0 q) (fun _=>jm 8 1)<|Rs (.func (.func (kfn q)) #[] #[]) (aM wT q (Yb (by omega))) ?_;refine Rs (.agg (aA 14 (bH v))) (fJ Y.aH 0) ?_;refine gG<|Bl (by rfl) (Fx.OA (args := [(pt lp),.agg (aA 14 (bH v))]) rfl rfl rfl (by rfl) (agd (by omega) (by omega))) rfl<|(Yc m lp B _ (h.up y) v C l Q q P (by omega)).mono ?_;rintro e9 w6 ⟨⟨A,fi1,Py,O,ho1,hD1⟩,hb5⟩;refine⟨_,O,?_⟩;clear O;have Z:=bE hb5 y;refine Ln<|aZ (A)<|aZ (au (fC m v))<|aZ (A)<|aZ (au (fC m v))<|bO<|Wr<|aJ (.tuple #[A,au (fC m v)]) ?_;have b:bV m v=fC m v:=(by unfold bV; rw[b_ (by rw[f]; decide)]; rw[b_ (by rw[k]; decide)]; rw[b_ (by rw[n]; decide)]; exact b_ (by rw[D,s,u]; decide));exact⟨⟨_,_,_,by rw[b],ho1,fun d=>(hD1 (b.symm.trans d)).low y.size⟩,Z⟩
   rw[S_]at s;refine Rs aF (aM F.aH a ((E9 (by omega)).trans (K_ Value.bool s))) ?_;refine aZ aG<|aZ aG<|bO<|aO<|Wk<|sN<|aO<|ay<|av (.nilFunc)<|av (au 10)<|aD<|Wr<|bI<|sR<|aJ (.tuple #[.nilFunc,au 10]) ?_;have b:bV m v=10:=(by unfold bV; rw[b_ (by rw[f]; decide)]; rw[b_ (by rw[k]; decide)]; rw[b_ (by rw[n]; decide)]; exact d_ (.inl (by rw[D]; exact s)));exact⟨⟨.nilFunc,0,#[],by rw[b],rfl,fun d=>L_ (b.symm.trans d) (by first|decide|omega|assumption)⟩,J⟩
  rw[S_]at n;refine dL (OD m.known v _ l N) aF (by rw[n]) ?_;intro w7 hb6;have aa:=bE hb6 I;refine Ln<|aZ aG<|aZ aG<|bO<|aO<|ay<|av (.nilFunc)<|av (au 13)<|aD<|Wr<|bI<|sR<|aJ (.tuple #[.nilFunc,au 13]) ?_;have b:bV m v=13:=by unfold bV; rw[b_ (by rw[f]; decide)]; rw[b_ (by rw[k]; decide)]; exact d_ n
  exact⟨⟨.nilFunc,0,#[],by rw[b],rfl,fun d=>L_ (b.symm.trans d) (by first|decide|omega|assumption)⟩,aa⟩
 rw[S_]at f;refine dL (G9 v _ l) aF (by rw[f]) ?_;intro w8 hb7;have ab:=bE hb7 G;refine av aG<|av aG<|aD<|aO<|ay<|av (.nilFunc)<|av (au 1)<|aD<|Wr<|bI<|sR<|aJ (.tuple #[.nilFunc,au 1]) ?_;have b:bV m v=1:=by unfold bV; exact d_ f
 exact⟨⟨.nilFunc,0,#[],by rw[b],rfl,fun d=>L_ (b.symm.trans d) (by first|decide|omega|assumption)⟩,ab⟩
set_option maxRecDepth 20000
set_option linter.unusedVariables false
namespace Rt
noncomputable def gJ(m:dM)(v:EvM):dM:=if bV m v=0 then { gV m v with known:=aI (gV m v).known (aK v) ((gV m v).known (aK v)+1) } else m
theorem K7(m:dM)(v:EvM):(gV m v).known=m.known:=by
 unfold gV
 repeat (first|rfl|split)
def Fv:Nat->Int:=fun _=>0
def bf(m:dM)(k:Int):Nat->Int:=if m.T.has k=true then FX m k else Fv
end Rt
theorem kQ.known{w w':World}{B lp:Nat}{m:dM}{K:Nat->Int}(h:kQ w B lp m)(e:Stp lp w w')(d:aQ w' lp 29 (vg { m with known:=K }) 93):kQ w' B lp { m with known:=K }:=by
 have b:=gK e h.c.ty;exact { c:=d,t:=h.t.kg b (by decide),p:=h.p.kg b trivial,r:=h.r.kg b trivial,g:=h.g.kg b trivial,a:=h.a.kg b trivial,ne:=⟨h.ne.mp,h.ne.mr,h.ne.mg,h.ne.ma,h.ne.pr,h.ne.pg,h.ne.pa,h.ne.rg,h.ne.ra,h.ne.ga⟩,lB:=h.lB,pB:=h.pB,rB:=h.rB,gB:=h.gB,aB:=h.aB }
theorem pI{m:dM}{v:EvM}(h:bV m v=0):bM v=true:=by
 cases hc:bM v with
 | true=>rfl
 | false=>unfold bV at h; rw[d_ hc]at h; cases h
theorem pJ{m:dM}{v:EvM}(h:bV m v=0):v.seq=m.known (aK v)+1/\fC m v=0/\m.inn (aK v)=true/\m.left (aK v)=false:=by
 have d:=pI h;unfold bV at h;rw[b_ (by rw[d]; decide)]at h;by_cases c:lX m.known v=true
 ·rw[d_ c]at h; cases h
 rw[b_ c]at h;by_cases a:dw m.known v=false
 ·rw[d_ a]at h; cases h
 rw[b_ a]at h;by_cases b:m.inn (aK v)=false\/m.left (aK v)=true
 ·rw[d_ b]at h; cases h
 rw[b_ b]at h;refine⟨?_,h,?_,?_⟩
 ·have a:dw m.known v=true:=by cases e:dw m.known v with|true=>rfl|false=>exact L_ e a
  unfold dw at a;simp only[R_,O_]at a;exact a.1.2
 ·cases e:m.inn (aK v)with|true=>rfl|false=>exact L_ (.inl e) b
 cases e:m.left (aK v)with|false=>rfl|true=>exact L_ (.inr e) b
theorem aoe(m:dM)(lp B:Nat)(w:World)(h:kQ w B lp m)(v:EvM)(C:fV v)(A:QlK m)(q:1<=B)(i:iQ w 0 0 8 Ch) :
 Calls Tryd.prog 15 #[(pt lp),.agg (aA 14 (bH v))] w fun e w'=>e = .returned (au (bV m v))/\Below w.heap.size w w':=by
 have s:=h.c;have K:=h.t;have x:=h.p;have y:=h.r;have u:=h.g;have o:=h.a;have J:=h.ne;have N:=h.c.lt;have R:=h.t.lt;have P:=h.p.lt;have Q:=h.r.lt;have O:=h.g.lt;have M:=h.a.lt;refine Kent Tryd.func15 14 ?_;refine ay<|pQ fun n w1 b k E z1 => ?_;have⟨D,f⟩:=eU E.old i (Below.refl w.heap.size w);have S:=gL b;have⟨T,U,V,W,X⟩:=Aw b s.lt x.lt y.lt u.lt o.lt;have Y:0≠n:=by rw[b]; exact t_ (i.lt (by omega))
 have Z:=k.lt;refine av (au 0)<|aD<|ay<|av (pt lp)<|Lv (.agg (aA 14 (bH v))) (fJ k.aH 0)<|lS (OP m lp B _ (h.up f) v C A q D) ?_;rintro G w2 ⟨⟨d,H,F,j,L,I⟩,z⟩;refine⟨_,j,?_⟩;clear j;have l:=bE z f;refine av (.tuple #[d,au (bV m v)])<|av (d)<|av (au (bV m v))<|av (d)<|av (au (bV m v))<|aD<|ay<|av (au (bV m v))<|av (au (bV m v))<|aD<|Wr<|aJ (au (bV m v)) ?_;exact⟨rfl,l⟩
theorem Yd(m:dM)(lp B:Nat)(w:World)(h:kQ w B lp m)(v:EvM)(hwf:fV v)(L:QlK m)(Y:1<=B)(H:iQ w 0 0 8 Ch) :
 Calls Tryd.prog 14 #[(pt lp),.agg (aA 14 (bH v))] w fun e w'=>e = .returned (au (bV m v))/\kQ w' B lp (gJ m v)/\jM (MR m lp w.heap.size) w w':=by
 have E:=h.c;have hT:=h.t;have hP:=h.p;have hR:=h.r;have hG:=h.g;have X:=h.a;have hN:=h.ne;have lC:=h.c.lt;have lT:=h.t.lt;have lP:=h.p.lt;have lR:=h.r.lt;have lG:=h.g.lt;have lA:=h.a.lt;refine Kent Tryd.func14 30 ?_;refine ay<|pQ fun D w1 u C s1 z1 => ?_;have⟨b,m8,j⟩:=jh s1.old E H (Below.refl w.heap.size w);have sO:=gL u;have⟨nC,zB,xI,CQ,AP⟩:=Aw u E.lt hP.lt hR.lt hG.lt X.lt;have Kt:0≠D:=by rw[u]; exact t_ (H.lt (by omega))
 have uo:=C.lt;refine av (au 0)<|aD<|ay<|av (pt lp)<|Lv (.agg (aA 14 (bH v))) (fJ C.aH 0)<|lS (OP m lp B _ (h.up j) v hwf L Y m8) ?_;rintro U w2 ⟨⟨y,W,T,i,ho1,Z⟩,hb1⟩;refine⟨_,i,?_⟩;clear i;have⟨N,l⟩:=eU hb1 C j;refine av (.tuple #[y,au (bV m v)])<|av (y)<|av (au (bV m v))<|av (y)<|av (au (bV m v))<|aD<|Ws<|ay<|av (au (bV m v)) ?_;by_cases d:(bV m v)=0
 ·refine Lv aF (jH d)<|aD<|aL<|Wk<|sN<|Ws ?_;have z:=Z d;have hfe:=z.e;subst hfe;refine Wl<|av (.func (.func W) #[] T)<|Bl (by rfl) (Fx.OA (args := []) rfl rfl rfl (by simp) z.f) rfl<|(z.s _ (Below.refl _ _)).mono ?_;rintro U n ⟨i,A,F⟩;refine⟨_,i,?_⟩;clear i;have I:jM (MR m lp w.heap.size) w n:=(Fx.jM.of_below l) |> fun q=>Fx.jM.trans _ _ _ q (F.mono fun k hk=>hk.imp id (m_ j.size));obtain⟨b,x⟩ : ∃ q,q=gV m v:=⟨_,rfl⟩;rw[<- x]at A;have V:b.known=m.known:=by rw[x,K7]
  have G:=A.c;have lC2:=G.lt;have hkb:=(pJ d).1;have M:=pI d;obtain⟨a,J,ho⟩ : ∃ a:Nat,a<6/\v.o=(a:Int)+1:=eG (iG M);have hra:aK v=a:=by unfold aK; omega
  have hbd:=nO M;have hka:=L.kn a J;have O:=(h.up l).Jg (w':=n) (N) (by decide) F (by have:=N.lt; have:=j.size; omega);have avf:=O.lt;refine aD<|Ws ?_;refine jS [0,1,4,5,9,10,2,3,6,7,8,11,12] [0,0,4,0,0,0,0,4,0,0,0,0,3] [(12,2,[2]),(12,7,[7])] fun qE K iC => ?_;have s3:Stp n.heap.size n qE:=Sb K;have⟨P,m19,m20⟩:=jh K G A O;have R:=I.then s3 (.inr I.size);refine aZ (pt lp)<|aZ (pt D)<|aZ (pt lp)<|aZ (pf lp 12)<|aZ (pt lp)<|aZ (pf lp 12)<|Rs (au v.o) (aM m20.aH 0) ?_;refine Rp (au a) (fun _=>fQ)<|Rp (pf lp (a+12)) (fun _=>jm 6 1)<|Rs (aC (b.known a)) (aM P.aH (a+12) (uQ (p:=a) (by omega) (by omega))) ?_;refine Rp (aC (b.known a+1)) (fun v1=>Fx.JD rfl rfl rfl (jN (by rw[V]; omega) rfl))<|Rp (pf lp (a+12)) (fun _=>jm 6 1)<|gG<|iX P (a+12) (aC (b.known a+1)) fun w4 m21 Q z2 => ?_;have m22:aQ w4 lp 29 (vg { b with known:=aI b.known a (b.known a+1) }) 93:=m21.to (Qu J (by omega) _);have S:=R.then Q (.inl (.inl (.inl rfl)));refine Ln (bO (ay (av (au 0) (aD (Wr (aJ (au 0) (⟨by rw[d],?_,S⟩)))))));rw[show gJ m v = { b with known:=aI b.known a (b.known a+1) } by unfold gJ; rw[d_ d,<- x,hra]];exact m19.known Q m22
 refine Lv aG (mX d) (aD (aO (ay (av (au (bV m v)) (av (au (bV m v)) (aD (Wr (sR (aJ (au (bV m v)) (⟨rfl,?_,Fx.jM.of_below l⟩))))))))));rw[show gJ m v=m by unfold gJ; exact b_ d]; exact h.up l
set_option maxRecDepth 20000
set_option linter.unusedVariables false
namespace Rt
def xQ(k f c d e b a:Nat):dM := { inn:=fun i=>decide (i<k),left:=fun _=>false,known:=fun _=>0,own:=fun _=>0,T:=dK.zero,R:=fun _ _=>0,gn:=0,g:=fun _ _=>0,an:=0,ao:=fun _=>0,ar:=fun _=>0,tp:=f,mb:=c,pb:=d,rb:=e,gb:=b,ab:=a }
end Rt
theorem Vn(k g c d f b a:Nat)(h:k<6):dD (vg (xQ k g c d f b a)) k (.bool true)=vg (xQ (k+1) g c d f b a):=by
 rw[Uu h];have:aI (xQ k g c d f b a).inn k true=(xQ (k+1) g c d f b a).inn:=by
  funext i
  show(if i=k then true else decide (i<k))=decide (i<k+1);by_cases e:i=k
  ·subst e; rw[d_ rfl]; exact(f_ (by omega)).symm
  ·rw[b_ e]; exact decide_eq_decide.2 (by omega)
 show vg { xQ k g c d f b a with inn:=_ }=_;rw[this]; rfl
theorem Ye(m:dM)(lp B:Nat)(w:World)(h:kQ w B lp m) :
 Calls Tryd.prog 16 #[(pt lp)] w fun e w'=>e = .returned (.agg (aA 6 (rv .u64 m.known)))/\Below w.heap.size w w':=by
 have f:=h.c;have E:=h.t;have q:=h.p;have s:=h.r;have o:=h.g;have n:=h.a;have D:=h.ne;have H:=h.c.lt;have L:=h.t.lt;have J:=h.p.lt;have K:=h.r.lt;have I:=h.g.lt;have G:=h.a.lt;refine Kent Tryd.func16 10 ?_;refine ay<|DI (m:=6) (y:=rv .u64 (fun _=>0)) (by rfl) rfl (by kernel_rfl) rfl fun l T d i z U => ?_;have⟨u,b⟩:=eU z.old f (Below.refl w.heap.size w);have M:=gL d;have⟨N,O,P,Q,R⟩:=Aw d f.lt q.lt s.lt o.lt n.lt;have S:=i.lt;refine aD<|Ws<|ay<|av (pt lp)<|Lv aF (Fx.mh rfl rfl rfl (by kernel_rfl))<|aD<|aL<|Wk<|sN<|ay<|av (pt lp)<|av (pt lp)<|av (pf lp 12)<|Lv (.agg (aA 6 (rv .u64 m.known))) (fJ u.aH 12 (fun j F=>uQ (p:=j) (by omega) (by omega)))<|dZ i 0 fun C v A V => ?_;have x:aQ C l 6 (rv .u64 m.known) 26:=aR v;have k:=A.below b b.size (by omega);refine aD (Wr (⟨.agg (aA 6 (rv .u64 m.known)),rV Tryd.results16 ⟨_,rfl,aU x.aH (by kernel_rfl) (by kernel_rfl)⟩,?_⟩));exact⟨rfl,k⟩
theorem Yf(m:dM)(lp B:Nat)(w:World)(h:kQ w B lp m)(i b:Int)(hi : -9223372036854775808<=i/\i<=9223372036854775807) :
 Calls Tryd.prog 17 #[(pt lp),au i,aC b] w fun e w'=>e = .returned (au (fF (bf m b) i))/\Below w.heap.size w w':=by
 have u:=h.c;have F:=h.t;have E:=h.p;have l:=h.r;have C:=h.g;have A:=h.a;have D:=h.ne;have H:=h.c.lt;have L:=h.t.lt;have J:=h.p.lt;have K:=h.r.lt;have I:=h.g.lt;have G:=h.a.lt;refine Kent Tryd.func17 17 ?_;refine ay<|av (au 0)<|aD<|Ws<|ay<|av (pt lp)<|Lv aF (Fx.mh rfl rfl rfl (by kernel_rfl))<|aD<|aL<|Wk<|sN<|ay<|av (pt lp)<|av (pt lp)<|av (pf lp 20)<|Lv (.map (some m.rb)) (aM u.aH 20)<|av (aC b) ?_
 rcases Fx.qY m.T.x m.T.n b with ⟨d,k,f⟩|jg
 ·refine Lv (.agg (aA 54 (rv .i64 (m.R d)))) (Fx.Ay (z := .agg (aA 54 (rv .i64 (fun _=>0)))) rfl rfl rfl l Tryd.underlying88 Tryd.underlying22 (by kernel_rfl) k f rfl)<|av (au i)<|dL (vM (m.R d) i _ hi) _ rfl ?_;intro M v;have o:=bE v (Below.refl w.heap.size w);refine av (au (fF (m.R d) i))<|aD<|Wr<|aJ (au (fF (m.R d) i)) ?_;have j:bf m b=m.R d:=by unfold bf FX; rw[d_ (show m.T.has b=true from jy k f),show m.idx b=d from nQ h.t.inv.inj k f]
  exact⟨K_ (fun q=>Ending.returned (Value.int .i64 (fF q i))) j.symm,o⟩
 refine Lv (.agg (aA 54 (rv .i64 (fun _=>0)))) (Fx.NQ (z := .agg (aA 54 (rv .i64 (fun _=>0)))) rfl rfl rfl l Tryd.underlying88 Tryd.underlying22 (by kernel_rfl) jg)<|av (au i)<|dL (vM (fun _=>0) i _ hi) _ rfl ?_;intro N y;have s:=bE y (Below.refl w.heap.size w);refine av (au (fF (fun _=>0) i))<|aD<|Wr<|aJ (au (fF (fun _=>0) i)) ?_;have j:bf m b=Fv:=by unfold bf; exact b_ (by rw[show m.T.has b=false from yh jg]; decide)
 exact⟨K_ (fun q=>Ending.returned (Value.int .i64 (fF q i))) j.symm,s⟩
theorem acK(m:dM)(lp B:Nat)(w:World)(h:kQ w B lp m)(b:Int) :
 Calls Tryd.prog 18 #[(pt lp),aC b] w fun e w' => ∃ a c,e = .returned (.slice a (m.T.path b).length c)/\Wd w' w.heap.size a c (m.T.path b)/\Below w.heap.size w w':=by
 have k:=h.c;have l:=h.t;have x:=h.p;have y:=h.r;have u:=h.g;have s:=h.a;have v:=h.ne;have A:=h.c.lt;have F:=h.t.lt;have D:=h.p.lt;have E:=h.r.lt;have C:=h.g.lt;have z:=h.a.lt;refine Kent Tryd.func18 13 ?_;refine ay<|av (.slice none 0 0)<|aD<|Ws<|ay<|av (pt lp)<|Lv aF (Fx.mh rfl rfl rfl (by kernel_rfl))<|aD<|aL<|Wk<|sN<|ay<|av (pt lp)<|av (pt lp)<|av (pf lp 18)<|Lv (pt m.tp) (aM k.aH 18)<|av (aC b)<|lS (IJ b l) ?_;rintro q G ⟨f,i,d,o,n⟩;refine⟨_,d,?_⟩;clear d;have j:=bE n (Below.refl w.heap.size w);refine av (.slice f ((dK.path m.T b).length) (i))<|aD<|Wr<|aJ (.slice f ((dK.path m.T b).length) (i)) ?_;exact⟨_,_,rfl,o,j⟩
theorem agf(k:Nat)(hk:1<=k/\k<=6)(w:World) :
 Calls Tryd.prog 13 #[au (k:Int)] w fun e w' => ∃ lp m,e = .returned (.tuple #[(pt lp),au 0])/\(∃ tp mb pb rb gb ab,m=xQ k tp mb pb rb gb ab)/\kQ w' w.heap.size lp m/\Below w.heap.size w w':=by
 refine Kent Tryd.func13 30 ?_;refine ay<|av (.pointer none)<|av (au 0)<|aD<|Ws<|ay<|av (au k)<|Lv aF Gn<|av aF<|av (au k)<|Lv aF wZ<|av aF<|aD<|aL<|Wk<|sN<|ay<|lS (Za _) ?_;rintro e9 w1 ⟨n,x,V,hg1,W,hb1⟩;refine⟨_,V,?_⟩;clear V;have J:=bE hb1 (Below.refl w.heap.size w);have m2:rR w1 (w.heap.size) n x dK.zero:=W.weak (Below.refl w.heap.size w).size;clear W hg1;refine Fx.L.JQ (by rfl) rfl rfl fun o w2 Q G s2 z1 => ?_;have⟨m4,K⟩:=eU s2.old m2 J;have sO:=jc Q J.size;have acL:=cu Q m2.lt;have uo:=G.lt;refine Fx.L.JQ (by rfl) rfl rfl fun q w3 R H s3 z2 => ?_;have⟨m6,m7,M⟩:=jh s3.old m4 G K;have qN:=jc R K.size;have⟨acM,Oh⟩:=yT R m4.lt G.lt;have zL:=H.lt;refine Fx.L.RP (by rfl) rfl rfl fun s w4 S I s4 z3 => ?_;have⟨m9,X,Y,N⟩:=mJ s4.old m6 m7 H M;have Bz:=jc S M.size;have⟨acN,aof,Vk⟩:=Dh S m6.lt m7.lt H.lt;have IK:=I.lt;refine Fx.L.RP (by rfl) rfl rfl fun u w5 T E s5 z4 => ?_;have⟨m13,Z,aa,ac,O⟩:=qD s5.old m9 X Y I N;have Q7:=jc T N.size;have⟨acO,acI,acJ,Vo⟩:=Iy T m9.lt X.lt Y.lt I.lt;have Qi:=E.lt;refine av (.agg (aA 29 (bR (bR (bR (bR (bR (fun d=>if d<12 then .bool false else if d<18 then aC 0 else if d<19 then .pointer none else if d<21 then .map none else if d<27 then au 0 else .map none) 18 1 (fun _=>(pt n))) 19 1 (fun _ => .map (some o))) 20 1 (fun _ => .map (some q))) 27 1 (fun _ => .map (some s))) 28 1 (fun _ => .map (some u)))))<|Ei (m:=29) (y:=bR (bR (bR (bR (bR (fun d=>if d<12 then .bool false else if d<18 then aC 0 else if d<19 then .pointer none else if d<21 then .map none else if d<27 then au 0 else .map none) 18 1 (fun _=>(pt n))) 19 1 (fun _ => .map (some o))) 20 1 (fun _ => .map (some q))) 27 1 (fun _ => .map (some s))) 28 1 (fun _ => .map (some u))) (by rfl) rfl rfl (bL _ _) rfl fun b w6 U ad s6 z5 => ?_;have⟨m18,m19,m20,m21,m22,b6⟩:=rX s6.old m13 Z aa ac E O;have lg5:=jc U O.size;have⟨aog,aoh,aoi,aoj⟩:=Iy U Z.lt aa.lt ac.lt E.lt;have tg5:=ad.lt;have l:QlN (xQ 0 n x o q s u):=⟨acL,acM,acN,acO,by assumption,by assumption,by assumption,by assumption,by assumption,by assumption⟩;have m23:aQ w6 b 29 (vg (xQ 0 n x o q s u)) 93:=ad.congr (fun j hj=>match j,hj with|0,_=>rfl|1,_=>rfl|2,_=>rfl|3,_=>rfl|4,_=>rfl|5,_=>rfl|6,_=>rfl|7,_=>rfl|8,_=>rfl|9,_=>rfl|10,_=>rfl|11,_=>rfl|12,_=>rfl|13,_=>rfl|14,_=>rfl|15,_=>rfl|16,_=>rfl|17,_=>rfl|18,_=>rfl|19,_=>rfl|20,_=>rfl|21,_=>rfl|22,_=>rfl|23,_=>rfl|24,_=>rfl|25,_=>rfl|26,_=>rfl|27,_=>rfl|28,_=>rfl|j+29,h=>L_ h (by omega))
 refine av (pt b)<|aD<|Ws<|ay<|av (au k)<|av (au 0)<|aD<|Wb<|Wo (fun f z => ∃ i:Nat,i<=k/\f 4=(pt b)/\f 19=au (k:Int)/\f 20=au (i:Int)/\rR z (w.heap.size) n x dK.zero/\Mp z o 0 (fun _=>0) (fun _ => .pointer none)/\Mp z q 0 (fun _=>0) (fun _ => .pointer none)/\iR z s 0 (fun _=>0) (fun _=>0) (fun _ => .pointer none)/\iR z u 0 (fun _=>0) (fun _=>0) (fun _ => .pointer none)/\aQ z b 29 (vg (xQ i n x o q s u)) 93/\Below w.heap.size w z) (fun f _=>((k:Int)-intOf (f 20)).toNat) ⟨0,(by omega),(by rfl),Fx.ic,Fx.ic,m18,m19,m20,m21,m22,m23,b6⟩ ?_;rintro f1 w7 ⟨i,v,C,D,A,m24,mZ,nT,oM,oN,F,B⟩;refine ay ?_;by_cases P:(i:Int)<(k:Int)
 ·refine Lv aG (iL P (hx:=A) (hy:=D))<|aD<|Ws<|aO<|Wk<|sN<|Ws<|Wb<|ay<|aY A<|av (au i)<|aD<|Wl<|aY C<|av (au i)<|av (pt b)<|av (pt b)<|Lv (pf b i) (jm 6 1)<|iX F i aG fun w8 qc s7 z6 => ?_;have lU:aQ w8 b 29 (vg (xQ (i+1) n x o q s u)) 93:=qc.to (Vn i _ _ _ _ _ _ (by omega));have gM:=gK s7 F.ty;have⟨m32,qw,og,qG,pV⟩:=qb gM m24 mZ nT oM oN;have b8:=s7.below B B.size (by omega);refine Ln<|bT<|sN<|Wl<|Lv (au ((i:Int)+1)) (fE (hx:=A))<|av (au ((i:Int)+1))<|Ln<|iB ⟨i+1,(by omega),C,(D.trans Fx.ic),Fx.ic,m32,qw,og,qG,pV,lU,b8⟩ ?_;show((k:Int)-intOf (au ((i:Int)+1))).toNat<_;simp only[A,intOf]; omega
 refine Lv aF (iM P (hx:=A) (hy:=D))<|aD<|Ws<|aL<|Wx<|cK<|gU<|cO<|sN<|ay<|aY C<|av (pt b)<|av (au 0)<|aD<|Wr<|aJ (.tuple #[(pt b),au 0]) ?_;have eik:i=k:=by omega
 subst eik;exact⟨b,xQ i n x o q s u,rfl,⟨_,_,_,_,_,_,rfl⟩,{ c:=F,t:=m24,p:=mZ.uh fun i v=>L_ v (u_ _),r:=nT.uh fun i v=>L_ v (u_ _),g:=oM.uh fun i v=>L_ v (u_ _),a:=oN.uh fun i v=>L_ v (u_ _),ne:=⟨l.mp,l.mr,l.mg,l.ma,l.pr,l.pg,l.pa,l.rg,l.ra,l.ga⟩,lB:=lg5,pB:=sO,rB:=qN,gB:=Bz,aB:=Q7 },B⟩
end Go.Proofs.YtahbiajdgealnaaDoor
namespace Go.Proofs.YtahbiajdgealnaaDoor
open Go.RowKit Go.Sort Rt
set_option linter.unusedVariables false
set_option maxRecDepth 20000
namespace Fx
def Zr(w w':World):Prop := ∃ q a,w'=grow (w.drewN q) a
theorem Zr.refl(w:World):Zr w w:=⟨0,#[],by rw[grow_empty]; rfl⟩
theorem Zr.alloc{w a b:World}(h:Zr w a)(z : ∃ o,b=a.alloc o):Zr w b:=by
 obtain⟨q,c,rfl⟩:=h;obtain⟨o,rfl⟩:=z;exact⟨q,c ++ #[o],by rw[alloc_eq_grow,grow_grow]⟩
theorem Zr.drew{w a b:World}(h:Zr w a)(z:b=a.drew):Zr w b:=by
 obtain⟨q,c,rfl⟩:=h;subst z;exact⟨q+1,c,rfl⟩
end Fx
namespace Rt
structure Rb where
 x:Nat->Int
 h:0<=x 1/\x 1<=18446744073709551615
def g0:Rb:=⟨fun _=>0,by decide⟩
instance:Inhabited Rb:=⟨g0⟩
def grI(x:Nat->Int):Rb:=if h:0<=x 1/\x 1<=18446744073709551615 then⟨x,h⟩else g0
def gky(x:Rb):Int:=x.x 0*18446744073709551616+x.x 1
theorem agh{x:Nat->Int}(h:0<=x 1/\x 1<=18446744073709551615):(grI x).x=x:=by unfold grI; rw[dif_pos h]
structure Zt(n:Nat)(S:Nat->Bool)(il:List Nat):Prop where
 nd:il.Nodup
 mem : ∀ i,i∈il<->(i<n/\S i=true)
theorem Zt.start(n:Nat):Zt n (fun _=>false) []:=⟨List.nodup_nil,fun i=>⟨fun h=>(nomatch h),fun h=>(nomatch h.2)⟩⟩
theorem Zt.step{n i:Nat}{S:Nat->Bool}{c:List Nat}(h:Zt n S c)(hi:i<n)(l:S i=false):Zt n (Fx.aN S i true) (c ++ [i]):=by
 have k:i ∉ c:=fun g=>by have:=((h.mem i).1 g).2; rw[l]at this; cases this
 refine⟨List.nodup_append.2 ⟨h.nd,by simp,fun a f b d e => ?_⟩,fun j => ?_⟩
 ·rw[List.mem_singleton]at d; subst d; subst e; exact k f
 rw[List.mem_append,List.mem_singleton,h.mem];show _<->(j<n/\(if j=i then true else S j)=true);by_cases e:j=i
 ·subst e; rw[d_ rfl]; exact⟨fun _=>⟨hi,rfl⟩,fun _ => .inr rfl⟩
 rw[b_ e]; exact⟨fun h=>h.elim id fun h=>L_ h e,fun h => .inl h⟩
theorem Zt.len{n:Nat}{S:Nat->Bool}{c:List Nat}(h:Zt n S c):c.length<=n :=
 Ca n c.length (fun q=>c.getD q 0) (fun q d=>by
  have:c.getD q 0∈c:=by rw[r_,o_ d]; exact P_ d
  exact((h.mem _).1 this).1) fun a b f g e=>by
  have e:c.getD a 0=c.getD b 0:=e;rw[r_,r_,o_ f,o_ g]at e;exact(List.getElem_inj h.nd).1 e
structure GrS(m:dM)(l:List Rb):Prop where
 mem : ∀ x,x∈l -> ∃ i,i<m.gn/\x.x=m.g i
 all : ∀ i,i<m.gn -> ∃ x,x∈l/\x.x=m.g i
 up:l.Pairwise fun x y=>gky x<gky y
theorem GrS.of{m:dM}{w:World}{b:Nat}{t:List Nat}{l:List Rb}{S:Nat->Bool}(o:Fx.iR w b m.gn (fun i=>m.g i 0) (fun i=>m.g i 1) (zW m.g))(hi:Zt m.gn S t)(z : ∀ i,i<m.gn->S i=true)(r:l.Perm (t.map fun i=>grI (m.g i)))(B:l.Pairwise fun x y=>gky x<=gky y):GrS m l:=by
 have k : ∀ i,i<m.gn->(grI (m.g i)).x=m.g i:=fun i hi=>agh (o.ok hi).b;have f : ∀ i,i∈t<->i<m.gn:=fun i=>by rw[hi.mem]; exact⟨fun h=>h.1,fun h=>⟨h,z i h⟩⟩
 have p : ∀ x,x∈l -> ∃ i,i<m.gn/\x=grI (m.g i):=fun x s=>by
  obtain⟨i,c,d⟩:=List.mem_map.1 (r.mem_iff.1 s);exact⟨i,(f i).1 c,d.symm⟩
 have A:l.Nodup:=by
  rw[r.nodup_iff,List.nodup_iff_pairwise_ne,List.pairwise_map];refine(List.nodup_iff_pairwise_ne.1 hi.nd).imp_of_mem fun {a b} ha hb q e=>q ?_;have c:=K_ Rb.x e;rw[k a ((f a).1 ha),k b ((f b).1 hb)]at c;exact o.inj a b ((f a).1 ha) ((f b).1 hb) (by show m.g a 0=m.g b 0; rw[c]) (by show m.g a 1=m.g b 1; rw[c])
 refine⟨fun x s => ?_,fun i c => ?_,?_⟩
 ·obtain⟨i,c,d⟩:=p x s;exact⟨i,c,by rw[d,k i c]⟩
 ·exact⟨grI (m.g i),r.mem_iff.2 (List.mem_map.2 ⟨i,(f i).2 c,rfl⟩),k i c⟩
 refine(B.and (List.nodup_iff_pairwise_ne.1 A)).imp_of_mem fun {a b} ha hb h => ?_;obtain⟨i,c,u⟩:=p a ha;obtain⟨j,d,v⟩:=p b hb;have q:=h.2
 rcases Int.lt_or_eq_of_le h.1 with h3|h3
 ·exact h3
 exfalso;have C:=a.h;have D:=b.h;unfold gky at h3;refine q ?_;have n:a.x 0=b.x 0/\a.x 1=b.x 1:=by omega
 rw[u,v,k i c,k j d]at n;have:=o.inj i j c d n.1 n.2;rw[u,v,this]
def ndQ(m:dM)(l:List Int)(k:Nat):Nat->Value:=mO (l.getD k 0) (m.T.par (l.getD k 0)) (FX m (l.getD k 0))
def grQ(l:List Rb)(k:Nat):Nat->Value:=ng (l.getD k g0).x
end Rt
structure StQ(w:World)(B:Nat)(m:dM)(s:IU)(l:List Int)(gl:List Rb):Prop where
 inn:s.inn=m.inn
 left:s.left=m.left
 known:s.known=m.known
 nn:s.nn=l.length
 gn:s.gn=gl.length
 ls:l.Pairwise (· < ·) /\ ∀ k,k∈l<->m.T.has k=true
 len:l.length<=32
 gs:GrS m gl
 glb:gl.length<=m.gn
 n:Fx.Own w B 84 56 (.slice s.na s.nn s.nc) s.nn (Fx.flat 56 (ndQ m l))
 g:Fx.Own w B 99 5 (.slice s.ga s.gn s.gc) s.gn (Fx.flat 5 (grQ gl))
end Go.Proofs.YtahbiajdgealnaaDoor
namespace Go.Proofs.YtahbiajdgealnaaDoor
open Go.RowKit Go
set_option linter.unusedVariables false
namespace Rt
section
variable {f:(Nat->Int)->(Nat->Int) × Int} {idx:Nat->Nat} {R:Nat->Nat->Int} {r r':Nat->Nat->Int} {n K k:Nat}
theorem CX : ∀ {n:Nat},(∀ i,i<n->r i=r' i)->jA f r n=jA f r' n
 | 0,_=>rfl
 | n+1,h=>by unfold jA; rw[CX (n:=n) fun i a=>h i (by omega),h n (by omega)]
theorem Fw : ∀ {K:Nat},(∀ i j,i<K->j<K->idx i=idx j->i=j)->(cZ f idx R K).2=jA f (fun i=>R (idx i)) K/\((cZ f idx R K).2=0 -> ∀ k,(cZ f idx R K).1 k=R k/\(∀ i,i<K->idx i≠k)\/(cZ f idx R K).1 k=(f (R k)).1 /\ ∃ i,i<K/\idx i=k)
 | 0,_=>⟨rfl,fun _ k => .inl ⟨rfl,fun _ h=>L_ h (u_ _)⟩⟩
 | K+1,hi=>by
   obtain⟨q,r⟩:=Fw (K:=K) fun i j a b=>hi i j (by omega) (by omega);unfold jA;rw[<- q];by_cases c:(cZ f idx R K).2=0
   ·have n:=r c;have p:(cZ f idx R K).1 (idx K)=R (idx K):=by
     rcases n (idx K)with h|⟨_,i,d,g⟩
     ·exact h.1
     ·have:=hi i K (by omega) (by omega) g; omega
    rw[d_ c];have e:cZ f idx R (K+1)=(if(f ((cZ f idx R K).1 (idx K))).2=0 then(aI (cZ f idx R K).1 (idx K) (f ((cZ f idx R K).1 (idx K))).1,0)else((cZ f idx R K).1,(f ((cZ f idx R K).1 (idx K))).2)):=(by show(if _ then _ else _)=_; rw[d_ c]);rw[e,p];by_cases l:(f (R (idx K))).2=0
    ·rw[d_ l];refine⟨l.symm,fun _ k => ?_⟩;show aI (cZ f idx R K).1 (idx K) _ k=R k/\_\/aI (cZ f idx R K).1 (idx K) _ k=(f (R k)).1/\_;unfold aI;by_cases e:k=idx K
     ·subst e; rw[d_ rfl]; exact .inr ⟨rfl,K,by omega,rfl⟩
     ·rw[b_ e]
      rcases n k with ⟨d,g⟩|⟨d,i,g,h5⟩
      ·refine .inl ⟨d,fun i s m => ?_⟩;by_cases o:i=K
       ·subst o; exact e m.symm
       ·exact g i (by omega) m
      ·exact .inr ⟨d,i,by omega,h5⟩
    ·rw[b_ l]; exact⟨rfl,fun h=>L_ h l⟩
   ·rw[b_ c];have e:cZ f idx R (K+1)=cZ f idx R K:=(by show(if _ then _ else _)=_; rw[b_ c]);rw[e];exact⟨rfl,fun h=>L_ h c⟩
end
structure Ci(T:dK)(L:fB):Prop where
 has : ∀ k,T.has k=true <-> ∃ i,i<L.nn/\L.id i=k
 n:T.n=L.nn
 par : ∀ i,i<L.nn->T.par (L.id i)=L.par i
section
variable {T:dK} {L:fB} {N:Nat} {x:Int}
theorem Ci.find(h:Ci T L)(b:Inv0 L N)(x:Int):T.has x=true<->0<=bB L.t L.tn x:=by
 rw[h.has,iy,b.BO];constructor
 ·rintro ⟨i,a,e⟩; exact⟨i,a,by rw[(b.tid i a).1]; exact e⟩
 rintro ⟨i,a,e⟩; exact⟨i,a,by rw[<- (b.tid i a).1]; exact e⟩
theorem Ci.findF(h:Ci T L)(a:Inv0 L N)(x:Int):T.has x=false<->bB L.t L.tn x<0:=by
 have:=h.find a x
 cases e:T.has x with
 | false=>rw[e]at this; exact⟨fun _=>by rcases Zh (bB L.t L.tn x)with h1|h1; exact h1; exact L_ (this.2 h1) (by decide),fun _=>rfl⟩
 | true=>rw[e]at this; have:=this.1 rfl; exact⟨fun h=>(nomatch h),fun h=>by omega⟩
theorem Inv0.at(c:Inv0 L N){i:Nat}(hi:i<L.nn):L.node (L.id i)=(i:Int):=by
 rw[c.node,<- (c.tid i hi).1];exact uO (fun a b d f e=>c.afA a b d f e) (by rw[c.BO]; exact hi)
theorem Ci.next(h:Ci T L)(a:Inv0 L N)(hx:T.has x=true):T.par x=L.t (bB L.t L.tn x).toNat 1:=by
 obtain⟨i,b,rfl⟩:=(h.has x).1 hx;have e:=a.at b;rw[a.node]at e;rw[e,h.par i b];exact((a.tid i b).2).symm
theorem Ci.path(h:Ci T L)(f:T.ok)(a:Inv0 L N)(x:Int):(T.path x).length=dR L.t L.tn x /\ ∀ q,q<(T.path x).length->(T.path x).getD q 0=aW L.t L.tn q x:=by
 have g : ∀ q,q<(T.path x).length->T.has ((T.path x).getD q 0)=true/\(q+1<(T.path x).length->(T.path x).getD (q+1) 0=T.par ((T.path x).getD q 0))/\(q+1=(T.path x).length->T.has (T.par ((T.path x).getD q 0))=false):=qO (f.stop x);have j : ∀ q,q<(T.path x).length->(T.path x).getD q 0=aW L.t L.tn q x:=by
  intro q
  induction q with
  | zero =>
    intro b
    cases hx:T.has x with
    | false=>rw[show T.path x = []from kE hx]at b; exact L_ b (u_ _)
    | true=>rw[dK.step f hx]; rfl
  | succ q ih =>
    intro b;have l:=ih (by omega);have c:=(g q (by show q<(T.path x).length; omega));have e:=c.2.1 b;show(T.path x).getD (q+1) 0=L.t (bB L.t L.tn (aW L.t L.tn q x)).toNat 1;rw[<- l,<- h.next a c.1]
    exact e
 refine⟨?_,j⟩;obtain⟨D,n,m⟩:=a.dep x;refine uL (D:=D) (fun i k => ?_) ?_ m (by omega)
 ·rw[<- j i k,<- h.find a]; exact(g i k).1
 by_cases d:(T.path x).length=0
 ·rw[d];show bB L.t L.tn x<0;rw[<- h.findF a]
  cases hx:T.has x with
  | false=>rfl
  | true=>rw[dK.step f hx]at d; simp at d
 obtain⟨q,b⟩ : ∃ q,(T.path x).length=q+1:=⟨(T.path x).length-1,by omega⟩;have c:=g q (by show q<(T.path x).length; omega);have e:=c.2.2 (by show q+1=(T.path x).length; omega);rw[b];show bB L.t L.tn (L.t (bB L.t L.tn (aW L.t L.tn q x)).toNat 1)<0;rw[<- j q (by omega),<- h.next a c.1,<- h.findF a]
 exact e
theorem Yg(d:Inv0 L N)(x:Int):bB L.t L.tn (aW L.t L.tn (dR L.t L.tn x) x)<0:=by
 obtain⟨D,e,b⟩:=d.dep x;obtain⟨K,f,a,c⟩:=uP D b;rw[<- uL c a b (by omega)]; exact a
theorem Ci.mem(h:Ci T L)(f:T.ok)(d:Inv0 L N)(x y:Int):y∈T.path x <-> ∃ i,i<dR L.t L.tn x/\aW L.t L.tn i x=y:=by
 obtain⟨c,b⟩:=h.path f d x;rw[<- c];constructor
 ·intro g;obtain⟨i,a,e⟩:=List.getElem_of_mem g;refine⟨i,a,?_⟩;rw[<- b i a,r_,o_ a]; exact e
 rintro ⟨i,a,rfl⟩;rw[<- b i a,r_,o_ a]; exact P_ a
theorem Ci.err(h:Ci T L)(l:T.ok)(a:Inv0 L N)(id pa:Int):T.err id pa=jk L.t L.tn id pa:=by
 unfold dK.err qF jk;by_cases c:id=0
 ·rw[d_ c,d_ c]
 rw[b_ c,b_ c];by_cases d:dO T.x T.n id=true
 ·rw[d_ d,d_ ((h.find a id).1 d)]
 rw[b_ d,b_ (fun e=>d ((h.find a id).2 e))];have j:(¬ pa=0/\dO T.x T.n pa=false)<->(pa≠0/\bB L.t L.tn pa<0):=by
  rw[<- h.findF a]; exact Iff.rfl
 by_cases f : ¬ pa=0/\dO T.x T.n pa=false
 ·rw[d_ f,d_ (j.1 f)]
 rw[b_ f,b_ (fun e=>f (j.2 e))];have k:(32<=T.n\/4<=(ji T.x T.p T.n 4 pa).length)<->(32<=L.tn\/CB L.t L.tn pa):=by
  obtain⟨q,r⟩:=h.path l a pa;have v:(T.path pa).length<=4:=dK.yI;have:4<=(T.path pa).length<->CB L.t L.tn pa:=by
   constructor
   ·intro s i u;have b:=(qO (l.stop pa)) i (by show i<(T.path pa).length; omega);rw[<- r i (by omega),<- h.find a]; exact b.1
   ·intro o
    rcases Nat.lt_or_ge (T.path pa).length 4 with b|b
    ·exfalso;have m:=o _ b;rw[q]at m;have:=Yg a pa;omega
    ·exact b
  show(32<=T.n\/4<=(T.path pa).length)<->_;rw[this,h.n,a.BO]
 by_cases g:32<=T.n\/4<=(ji T.x T.p T.n 4 pa).length
 ·rw[d_ g,d_ (k.1 g)]
 rw[b_ g,b_ (fun e=>g (k.2 e))]
end
end Rt
end Go.Proofs.YtahbiajdgealnaaDoor
namespace Go.Proofs.YtahbiajdgealnaaDoor
open Go.RowKit Go
set_option linter.unusedVariables false
set_option maxRecDepth 20000
namespace Rt
section
variable {m:dM} {k:Int} {i:Nat}
theorem dM.CY(b:m.T.ok)(c:m.T.has k=true):m.idx k<m.T.n/\m.T.x (m.idx k)=k:=by
 obtain⟨j,a,e⟩:=gQ c;have:m.idx k=j:=nQ b.inj a e;rw[this]; exact⟨a,e⟩
theorem K8(x:Nat->Int)(id:Int) : ∀ n,(∀ i,i<n->x i≠id)->zh (Fx.aN x n id) (n+1) id=n:=fun n _=>by
 unfold zh;rw[d_];unfold Fx.aN;rw[d_ rfl]
theorem Ht{x y:Nat->Int}{k:Int} : ∀ {n:Nat},(∀ i,i<n->x i=y i)->zh x n k=zh y n k
 | 0,_=>rfl
 | n+1,h=>by unfold zh; rw[h n (by omega),Ht (n:=n) fun i a=>h i (by omega)]
theorem K9(x:Nat->Int){id k:Int}(n:Nat)(b:id≠k):zh (Fx.aN x n id) (n+1) k=zh x n k:=by
 have a:Fx.aN x n id n=id:=by unfold Fx.aN; rw[d_ rfl]
 show(if Fx.aN x n id n=k then n else zh (Fx.aN x n id) n k)=_;rw[a,b_ b];exact Ht fun i c=>by unfold Fx.aN; rw[b_ (by omega)]
theorem Hu{f g:Nat->Int}{o:Int} : ∀ {n:Nat},(∀ i,i<n->f i=g i)->nK f o n=nK g o n
 | 0,_=>rfl
 | n+1,h=>by unfold nK; rw[Hu (n:=n) fun i a=>h i (by omega),h n (by omega)]
theorem La{f:Nat->Int}{o v:Int}{k:Nat} : ∀ n,k<=n->nK (Fx.bZ f k v) o (n+1)=nK f o n+if v / 1099511627776=o then 1 else 0
 | 0,h=>by
   obtain rfl:k=0:=(by omega);show 0+(if Fx.bZ f 0 v 0 / 1099511627776=o then 1 else 0)=0+_;rw[dG]
 | n+1,h=>by
   by_cases e:k=n+1
   ·subst e;show nK (Fx.bZ f (n+1) v) o (n+1)+(if Fx.bZ f (n+1) v (n+1) / 1099511627776=o then 1 else 0)=_;rw[dG,Hu (g:=f) fun i a=>DZ a]
   ·show nK (Fx.bZ f k v) o (n+1)+(if Fx.bZ f k v (n+1) / 1099511627776=o then 1 else 0)=nK f o n+(if f n / 1099511627776=o then 1 else 0)+_;rw[La n (by omega),D5 (by omega)];show _+(if f n / 1099511627776=o then 1 else 0)=_;omega
theorem OQ{f:Nat->Int}{o:Int} : ∀ n,nK f o n<=n
 | 0=>z_ _
 | n+1=>by have:=OQ (f:=f) (o:=o) n; unfold nK; split <;> omega
theorem Cj{P:Nat->Bool}{n:Nat}:0<=gI P n <-> ∃ j,j<n/\P j=true:=by
 rcases jC P n with ⟨k,c,e,a⟩|⟨e,h⟩
 ·rw[e]; exact⟨fun _=>⟨k,c,a⟩,fun _=>by omega⟩
 rw[e]; exact⟨fun h=>by omega,fun⟨j,b,a⟩=>by rw[h j b]at a; cases a⟩
end
structure fM(m:dM)(L:fB):Prop where
 T:Ci m.T L
 inn:m.inn=L.inn
 left:m.left=L.left
 known:m.known=L.known
 row : ∀ i,i<L.nn->FX m (L.id i)=L.R i
 own : ∀ a,a<6->m.own a=((nK L.id ((a:Int)+1) L.nn:Nat):Int)
 gi : ∀ i j,i<m.gn->j<m.gn->m.g i 0=m.g j 0->m.g i 1=m.g j 1->i=j
 gn:m.gn=L.gn
 g1 : ∀ q,q<L.gn -> ∃ j,j<m.gn/\m.g j=L.g q
 g2 : ∀ j,j<m.gn -> ∃ q,q<L.gn/\L.g q=m.g j
 ask : ∀(a:Nat) (r:Int),a<6->(gN m ((a:Int)+1) r=true <-> ∃ j,j<L.rn a/\L.rq a j=r)
 ga:QD m
 li : ∀ p q,p<L.gn->q<L.gn->L.g p 0=L.g q 0->L.g p 1=L.g q 1->p=q
section
variable {m:dM} {L:fB} {N:Nat} {v:EvM} {x:Int}
theorem fM.node(h:fM m L)(a:Inv0 L N)(x:Int):m.T.has x=true<->0<=L.node x:=by rw[h.T.find a,a.node]
theorem fM.Lb(h:fM m L)(a:Inv0 L N)(x:Int):m.T.has x=false<->L.node x<0:=by rw[h.T.findF a,a.node]
theorem Inv0.Yh(a:Inv0 L N)(hx:0<=L.node x):(L.node x).toNat<L.nn/\L.id (L.node x).toNat=x:=by
 rw[a.node]at hx ⊢;obtain⟨j,b,e,c⟩:=uJ hx;rw[e];rw[a.BO]at b;exact⟨b,by show L.id j=x; rw[<- (a.tid j b).1]; exact c⟩
theorem fM.rk(h:fM m L)(c:Inv0 L N)(hx:0<=L.node x):FX m x=L.R (L.node x).toNat:=by
 obtain⟨a,b⟩:=c.Yh hx;rw[<- h.row _ a,b]
theorem fM.BS(h:fM m L)(f:m.T.ok)(a:Inv0 L N)(hx:m.T.has x=true)(r:Nat->Int):fM (BS m x r) { L with R:=aI L.R (L.node x).toNat r }:=by
 have l:=(h.node a x).1 hx;obtain⟨j,c⟩:=a.Yh l;refine { h with row:=fun i b => ?_,T:=⟨h.T.has,h.T.n,h.T.par⟩ };show Fx.aN m.R (m.idx x) r (m.idx (L.id i))=aI L.R (L.node x).toNat r i;unfold Fx.aN aI;by_cases e:i=(L.node x).toNat
 ·subst e; rw[c,d_ rfl,d_ rfl]
 rw[b_ e,b_]
 ·exact h.row i b
 intro g;have d:=(dM.CY f ((h.T.has _).2 ⟨i,b,rfl⟩)).2;have k:=(dM.CY f hx).2;rw[g,k]at d;exact e (a.inj i _ b j (by rw[c]; exact d.symm))
theorem fM.along(h:fM m L)(l:m.T.ok)(g:Inv0 L N)(f:(Nat->Int)->(Nat->Int) × Int)(x:Int) :
 dn m f (m.T.path x)=(cZ f (nV L x) L.R (dR L.t L.tn x)).2/\((cZ f (nV L x) L.R (dR L.t L.tn x)).2=0 -> ∀ i,i<L.nn->(qm m f (m.T.path x)).R (m.idx (L.id i))=(cZ f (nV L x) L.R (dR L.t L.tn x)).1 i):=by
 obtain⟨z,p⟩:=h.T.path l g x;have w:(m.T.path x).Nodup:=dK.zY l x;have o : ∀ i,i<dR L.t L.tn x->0<=L.node (aW L.t L.tn i x):=fun i c=>by rw[g.node]; exact A9 c
 have y : ∀ i j,i<dR L.t L.tn x->j<dR L.t L.tn x->nV L x i=nV L x j->i=j:=fun i j c v e=>by
  have a:=g.Yh (o i c);have b:=g.Yh (o j v);have e:(L.node (aW L.t L.tn i x)).toNat=(L.node (aW L.t L.tn j x)).toNat:=e;rw[e]at a;have k:aW L.t L.tn i x=aW L.t L.tn j x:=a.2.symm.trans b.2;rw[<- p i (by omega),<- p j (by omega)]at k;exact Ce w (by omega) (by omega) k
 obtain⟨A,B⟩:=Fw (f:=f) (idx:=nV L x) (R:=L.R) y;refine⟨?_,fun s i c => ?_⟩
 ·rw[A];unfold dn;rw[z];exact CX fun i c=>by
   rw[p i (by omega)];exact h.rk g (o i c)
 have u:=(dM.CY l ((h.T.has _).2 ⟨i,c,rfl⟩)).2;show(if m.T.x (m.idx (L.id i))∈m.T.path x then(f (m.R (m.idx (L.id i)))).1 else m.R (m.idx (L.id i)))=_;rw[u,show m.R (m.idx (L.id i))=L.R i from h.row i c];have r:L.id i∈m.T.path x <-> ∃ q,q<dR L.t L.tn x/\nV L x q=i:=by
  rw[h.T.mem l g];constructor
  ·rintro ⟨q,d,e⟩;exact⟨q,d,(D6 g c d).2 e⟩
  ·rintro ⟨q,d,e⟩;exact⟨q,d,(D6 g c d).1 e⟩
 rcases B s i with ⟨n,k⟩|⟨n,q,d,k⟩
 ·rw[n,b_];rw[r]; rintro ⟨q,d,e⟩; exact k q d e
 rw[n,d_ (r.2 ⟨q,d,k⟩)]
theorem fM.asked(h:fM m L)(f:bM v=true)(r:Int):gN m v.o r=true<->0<=L.kM (aK v) r:=by
 obtain⟨a,c,d⟩:=eG (iG f);have:aK v=a:=by unfold aK; omega
 rw[this,d,h.ask a r c];unfold fB.kM;rw[Cj];constructor
 ·rintro ⟨j,b,e⟩; exact⟨j,b,f_ e⟩
 rintro ⟨j,b,e⟩; exact⟨j,b,h_ e⟩
theorem fM.grant(h:fM m L)(o r:Int):(iA m o r=true<->0<=L.grant o r)/\(0<=L.grant o r->(L.grant o r).toNat<L.gn/\eX m o r<m.gn/\m.g (eX m o r)=L.g (L.grant o r).toNat/\L.g (L.grant o r).toNat 0=o/\L.g (L.grant o r).toNat 1=r):=by
 have k1:iA m o r=true <-> ∃ j,j<m.gn/\m.g j 0=o/\m.g j 1=r:=kV;have k2:0<=L.grant o r <-> ∃ q,q<L.gn/\L.g q 0=o/\L.g q 1=r:=by
  unfold fB.grant;rw[Cj];constructor
  ·rintro ⟨j,a,e⟩; rw[R_]at e; exact⟨j,a,h_ e.1,h_ e.2⟩
  ·rintro ⟨j,a,b,c⟩; exact⟨j,a,by rw[f_ b,f_ c]; rfl⟩
 refine⟨?_,fun l => ?_⟩
 ·rw[k1,k2];constructor
  ·rintro ⟨j,a,b,c⟩;obtain⟨q,d,e⟩:=h.g2 j a;exact⟨q,d,by rw[e]; exact b,by rw[e]; exact c⟩
  rintro ⟨q,d,b,c⟩;obtain⟨j,a,e⟩:=h.g1 q d;exact⟨j,a,by rw[e]; exact b,by rw[e]; exact c⟩
 have : ∃ q,q<L.gn/\L.grant o r=(q:Int)/\L.g q 0=o/\L.g q 1=r:=by
  unfold fB.grant at l ⊢
  rcases jC (fun i=>decide (L.g i 0=o)&&decide (L.g i 1=r)) L.gn with ⟨q,d,e,k⟩|⟨e,_⟩
  ·rw[R_]at k; exact⟨q,d,e,h_ k.1,h_ k.2⟩
  ·omega
 obtain⟨q,d,e,b,c⟩:=this;rw[e];obtain⟨j,a,f⟩:=h.g1 q d;have:eX m o r=j:=yJ h.gi a (by show m.g j 0=o; rw[f]; exact b) (by show m.g j 1=r; rw[f]; exact c);rw[this];exact⟨d,a,f,b,c⟩
theorem fM.agi(h:fM m L)(i:m.T.ok)(g:Inv0 L N)(e:bM v=true)(l:v.kind=1):iP m v=jV L v:=by
 obtain⟨a,j,d⟩:=eG (iG e);have k:aK v=a:=by unfold aK; omega
 unfold iP jV;rw[k,h.own a j,d];have b:(5<=((nK L.id ((a:Int)+1) L.nn:Nat):Int)\/140737488355328<v.aT)<->(5<=nK L.id ((a:Int)+1) L.nn\/140737488355328<v.aT):=by omega
 have f:mY v=iY ((a:Int)+1) v.seq:=by rw[<- d,qJ e]; rfl
 by_cases c:5<=nK L.id ((a:Int)+1) L.nn\/140737488355328<v.aT
 ·rw[d_ c,d_ (b.2 c)]
 rw[b_ c,b_ (fun q=>c (b.1 q)),h.T.err i g,f]
theorem fM.make(h:fM m L)(A:m.T.ok)(r:Inv0 L N)(l:bM v=true)(D:v.kind=1)(z:jV L v=0):fM (CV m v) (qg L v):=by
 obtain⟨k,g,H,I,J,K,M,y,P,Q,G⟩:=vX r l D z;have t:=qJ l;have O:=nO l;have f:mY v=iY v.o v.seq:=by rw[t]; rfl
 have w:m.T.has (mY v)=false:=by
  rw[h.T.findF r,f,uN];exact G.no
 have E : ∀ i,i<m.T.n->m.T.x i≠mY v:=fun i d e=>by
  have:=dK.zC d; rw[e,w]at this; cases this
 rw[y];have C : ∀ q,(m.T.put (mY v) v.node).has q=true<->(m.T.has q=true\/q=mY v):=fun q=>by
  rw[dK.jo,Bool.or_eq_true,O_];exact⟨fun h=>h.imp id Eq.symm,fun h=>h.imp id Eq.symm⟩
 have u : ∀ q,q<L.nn->L.id q≠mY v:=fun q F e=>by
  have:=(h.T.has _).2 ⟨q,F,rfl⟩; rw[e,w]at this; cases this
 refine {
  T:=⟨fun q => ?_,?_,fun i d => ?_⟩
  inn:=h.inn
  left:=h.left
  known:=h.known
  row:=fun i d => ?_
  own:=fun a s => ?_
  gi:=h.gi
  gn:=h.gn
  g1:=h.g1
  g2:=h.g2
  ask:=h.ask
  ga:=h.ga
  li:=h.li }
 ·show(m.T.put (mY v) v.node).has q=true <-> ∃ i,i<L.nn+1/\Fx.bZ L.id k (iY v.o v.seq) i=q;rw[C,h.T.has];constructor
  ·rintro (⟨i,d,e⟩|e)
   ·obtain⟨j,b,_,c⟩:=A8 (k:=k) d;exact⟨j,b,by rw[c]; exact e⟩
   exact⟨k,by omega,by rw[dG,e,f]⟩
  rintro ⟨i,d,e⟩
  rcases dS g d with rfl|⟨j,b,c,_,_⟩
  ·rw[dG]at e; exact .inr (by rw[<- e,f])
  rw[c]at e; exact .inl ⟨j,b,e⟩
 ·show m.T.n+1=L.nn+1;rw[h.T.n]
 ·show(m.T.put (mY v) v.node).par (Fx.bZ L.id k (iY v.o v.seq) i)=Fx.bZ L.par k v.node i;rw[dK.sK]
  rcases dS g d with rfl|⟨j,b,c,_,_⟩
  ·rw[dG,dG,d_ f]
  rw[c,c,b_ (fun e=>u j b e.symm)]; exact h.T.par j b
 ·show Fx.aN m.R m.T.n _ (zh (Fx.aN m.T.x m.T.n (mY v)) (m.T.n+1) (Fx.bZ L.id k (iY v.o v.seq) i))=Fx.bZ L.R k _ i
  rcases dS g d with rfl|⟨j,b,c,_,_⟩
  ·rw[dG,dG,<- f,K8 _ _ _ E]; unfold Fx.aN; rw[d_ rfl]
  rw[c,c,K9 _ _ (fun e=>u j b e.symm)];have p:=(dM.CY A ((h.T.has _).2 ⟨j,b,rfl⟩)).1;have p:zh m.T.x m.T.n (L.id j)<m.T.n:=p;unfold Fx.aN;rw[b_ (by omega)];exact h.row j b
 show aI m.own (aK v) (m.own (aK v)+1) a=((nK (Fx.bZ L.id k (iY v.o v.seq)) ((a:Int)+1) (L.nn+1):Nat):Int);rw[La _ g,t];have B:(1099511627776*v.o+v.seq) / 1099511627776=v.o:=by omega
 rw[B];unfold aI;by_cases e:a=aK v
 ·rw[d_ e,<- e,h.own a s,d_ (by unfold aK at e; omega)]; rfl
 rw[b_ e,h.own a s,b_ (by unfold aK at e; omega)]; rfl
attribute [local irreducible] dR cZ dn in
theorem fM.qx(h:fM m L)(d:m.T.ok)(g:Inv0 L N)(i:bM v=true):jL m v=iN L v:=by
 unfold jL iN;by_cases c:gN m v.o v.req=true
 ·rw[d_ c,d_ ((h.asked i _).1 c)]
 rw[b_ c,b_ (fun e=>c ((h.asked i _).2 e))];obtain⟨j,_⟩:=h.T.path d g v.node;have f:m.T.has v.node=false<->dR L.t L.tn v.node=0:=by
  rw[<- j];constructor
  ·intro b; rw[show m.T.path v.node = []from kE b]; rfl
  ·intro b
   cases e:m.T.has v.node with
   | false=>rfl
   | true=>rw[dK.step d e]at b; simp at b
 by_cases a:m.T.has v.node=false
 ·rw[d_ a,d_ (f.1 a)]
 rw[b_ a,b_ (fun e=>a (f.2 e))];exact(h.along d g _ _).1
theorem Fy{k1 k2:Nat->Int}{n:Nat}{a b o r:Int}:Bf (Fx.aN k1 n a) (Fx.aN k2 n b) (n+1) o r=true<->(Bf k1 k2 n o r=true\/(a=o/\b=r)):=by
 rw[kV,kV];unfold Fx.aN;constructor
 ·rintro ⟨j,f,c,d⟩;by_cases e:j=n
  ·subst e; rw[d_ rfl]at c d; exact .inr ⟨c,d⟩
  rw[b_ e]at c d; exact .inl ⟨j,by omega,c,d⟩
 rintro (⟨j,f,c,d⟩|⟨c,d⟩)
 ·exact⟨j,by omega,by rw[b_ (by omega)]; exact c,by rw[b_ (by omega)]; exact d⟩
 exact⟨n,by omega,by rw[d_ rfl]; exact c,by rw[d_ rfl]; exact d⟩
theorem fM.OT(h:fM m L)(w:bM v=true)(d:dM)(f:fB)(i:d.an=m.an+1)(k:d.ao=Fx.aN m.ao m.an v.o)(l:d.ar=Fx.aN m.ar m.an v.req)(n:f.rn=aI L.rn (aK v) (L.rn (aK v)+1))(p:f.rq=aI L.rq (aK v) (aI (L.rq (aK v)) (L.rn (aK v)) v.req)) :
 (∀(a:Nat) (r:Int),a<6->(gN d ((a:Int)+1) r=true <-> ∃ j,j<f.rn a/\f.rq a j=r))/\(∀ o r,gN m o r=true->gN d o r=true)/\gN d v.o v.req=true:=by
 obtain⟨b,x,t⟩:=eG (iG w);have u:aK v=b:=by unfold aK; omega
 have g : ∀ o r,gN d o r=true<->(gN m o r=true\/(v.o=o/\v.req=r)):=fun o r=>by
  unfold gN; rw[i,k,l]; exact Fy
 refine⟨fun a r q => ?_,fun o r h=>(g o r).2 (.inl h),(g _ _).2 (.inr ⟨rfl,rfl⟩)⟩;rw[g,h.ask a r q,n,p,u];unfold aI;by_cases e:a=b
 ·subst e;rw[d_ rfl,d_ rfl];constructor
  ·rintro (⟨j,s,e⟩|⟨_,e⟩)
   ·exact⟨j,by omega,by show(if j=L.rn a then v.req else L.rq a j)=r; rw[b_ (by omega)]; exact e⟩
   exact⟨L.rn a,by omega,by show(if L.rn a=L.rn a then v.req else _)=r; rw[d_ rfl]; exact e⟩
  rintro ⟨j,s,e⟩;have e:(if j=L.rn a then v.req else L.rq a j)=r:=e;by_cases c:j=L.rn a
  ·rw[d_ c]at e; exact .inr ⟨t,e⟩
  rw[b_ c]at e; exact .inl ⟨j,by omega,e⟩
 rw[b_ e,b_ e];exact⟨fun h=>h.elim id fun h=>by omega,.inl⟩
attribute [local irreducible] dR cZ dn in
theorem fM.take(h:fM m L)(F:m.T.ok)(E:Inv0 L N)(D:bM v=true)(t:iN L v=0):fM (jY m v) (lN L v):=by
 unfold iN at t;split at t
 ·cases t
 rename_i c1;split at t
 ·cases t
 have I:=(h.along F E (fun x=>bC x v.o v.aT) v.node).2 t;have G : ¬ gN m v.o v.req=true:=fun e=>c1 ((h.asked D _).1 e);obtain⟨k1,k2,J⟩:=h.OT D (jY m v) (lN L v) rfl rfl rfl rfl rfl;have s : ∀ j,(jY m v).g j=if j=m.gn then pW v else m.g j:=fun j=>rfl;have A:pW v 0=v.o:=rfl;have B:pW v 1=v.req:=rfl;have y : ∀ j,j<m.gn -> ¬ (m.g j 0=v.o/\m.g j 1=v.req):=fun j d e=>G (by have:=h.ga j d; rw[e.1,e.2]at this; exact this);have u:=Fx.yc (fun i=>EN v (L.g i)) L.gn
 refine {
  T:=⟨h.T.has,h.T.n,h.T.par⟩
  inn:=h.inn
  left:=h.left
  known:=h.known
  row:=I
  own:=h.own
  gi:=fun i j r d b a => ?_
  gn:=by show m.gn+1=L.gn+1; rw[h.gn]
  g1:=fun q f => ?_
  g2:=fun j d => ?_
  ask:=k1
  ga:=fun i r => ?_
  li:=fun p q z f b a => ?_ }
 ·have r:i<m.gn+1:=r;have d:j<m.gn+1:=d;rw[s,s]at b a;by_cases c:i=m.gn
  ·by_cases l:j=m.gn
   ·omega
   rw[d_ c,b_ l,A]at b; rw[d_ c,b_ l,B]at a;exact L_ ⟨b.symm,a.symm⟩ (y j (by omega))
  by_cases l:j=m.gn
  ·rw[b_ c,d_ l,A]at b; rw[b_ c,d_ l,B]at a;exact L_ ⟨b,a⟩ (y i (by omega))
  rw[b_ c,b_ l]at b a; exact h.gi i j (by omega) (by omega) b a
 ·have f:q<L.gn+1:=f;show ∃ j,j<m.gn+1/\(jY m v).g j=Fx.bZ L.g (Fx.down (fun i=>EN v (L.g i)) L.gn) (pW v) q
  rcases dS u f with e|⟨j,d,a,_,_⟩
  ·rw[e,dG]; exact⟨m.gn,by omega,by rw[s,d_ rfl]⟩
  rw[a];obtain⟨i,r,w⟩:=h.g1 j d;exact⟨i,by omega,by rw[s,b_ (by omega)]; exact w⟩
 ·have d:j<m.gn+1:=d;show ∃ q,q<L.gn+1/\Fx.bZ L.g (Fx.down (fun i=>EN v (L.g i)) L.gn) (pW v) q=(jY m v).g j;rw[s];by_cases c:j=m.gn
  ·rw[d_ c]; exact⟨_,by omega,dG⟩
  rw[b_ c];obtain⟨q,f,e⟩:=h.g2 j (by omega);obtain⟨K,H,_,a⟩:=A8 (k:=Fx.down (fun i=>EN v (L.g i)) L.gn) f;exact⟨K,H,by rw[a]; exact e⟩
 ·have r:i<m.gn+1:=r;rw[s];by_cases c:i=m.gn
  ·rw[d_ c]; exact J
  rw[b_ c]; exact k2 _ _ (h.ga i (by omega))
 have z:p<L.gn+1:=z;have f:q<L.gn+1:=f;have C : ∀ j,j<L.gn -> ¬ (L.g j 0=v.o/\L.g j 1=v.req):=fun j d e=>by
  obtain⟨i,r,w⟩:=h.g1 j d;rw[<- w]at e;exact y i r e
 have b:Fx.bZ L.g (Fx.down (fun i=>EN v (L.g i)) L.gn) (pW v) p 0=Fx.bZ L.g (Fx.down (fun i=>EN v (L.g i)) L.gn) (pW v) q 0:=b;have a:Fx.bZ L.g (Fx.down (fun i=>EN v (L.g i)) L.gn) (pW v) p 1=Fx.bZ L.g (Fx.down (fun i=>EN v (L.g i)) L.gn) (pW v) q 1:=a;generalize Fx.down (fun i=>EN v (L.g i)) L.gn=k at b a u
 rcases dS u z with c|⟨j,d,f1,f2,f3⟩
 ·rcases dS u f with l|⟨j',hj',f1',f2',f3'⟩
  ·omega
  rw[c,dG,f1']at b a; exact L_ ⟨b.symm,a.symm⟩ (C j' hj')
 rcases dS u f with l|⟨j',hj',f1',f2',f3'⟩
 ·rw[l,dG,f1]at b a; exact L_ ⟨b,a⟩ (C j d)
 rw[f1,f1']at b a;have:=h.li j j' d hj' b a;omega
attribute [local irreducible] dR cZ dn in
theorem fM.qy(h:fM m L)(l:m.T.ok)(k:Inv0 L N)(f:bM v=true):jd m v=iE L v:=by
 unfold jd iE;by_cases c:gN m v.o v.req=true
 ·rw[d_ c,d_ ((h.asked f _).1 c)]
 rw[b_ c,b_ (fun e=>c ((h.asked f _).2 e))];obtain⟨d,j⟩:=h.grant v.o v.of;by_cases b:0<=L.grant v.o v.of
 ·obtain⟨p,r,i,s,t⟩:=j b;have n:=d.2 b;have e:(iA m v.o v.of=false\/m.g (eX m v.o v.of) 4≠0)<->(L.grant v.o v.of<0\/L.g (zy L v) 4≠0):=by
   rw[i,n];show _<->_\/L.g (L.grant v.o v.of).toNat 4≠0;constructor
   ·rintro (h|h)
    ·cases h
    ·exact .inr h
   ·rintro (h|h)
    ·omega
    ·exact .inr h
  by_cases a:L.grant v.o v.of<0\/L.g (zy L v) 4≠0
  ·rw[d_ a,d_ (e.2 a)]
  rw[b_ a,b_ (fun q=>a (e.1 q)),i];exact(h.along l k _ _).1
 rw[d_ (.inl (by
  cases e:iA m v.o v.of with
  | false=>rfl
  | true=>exact L_ (d.1 e) b)),d_ (.inl (by omega))]
attribute [local irreducible] dR cZ dn in
theorem fM.free(h:fM m L)(G:m.T.ok)(F:Inv0 L N)(I:bM v=true)(k:iE L v=0):fM (iq m v) (jW L v):=by
 unfold iE at k;split at k
 ·cases k
 split at k
 ·cases k
 rename_i c2;have E:0<=L.grant v.o v.of:=by rcases Zh (L.grant v.o v.of)with h1|h1; exact L_ (.inl h1) c2; exact h1
 obtain⟨C,D,t,K,M⟩:=(h.grant v.o v.of).2 E;have H:=(h.along G F (fun x=>bD x v.o (L.g (zy L v) 3)) (L.g (zy L v) 2)).2 k;obtain⟨k1,k2,J⟩:=h.OT I (iq m v) (jW L v) rfl rfl rfl rfl rfl;have A:zy L v=(L.grant v.o v.of).toNat:=rfl;have w : ∀ j,(iq m v).g j=if j=eX m v.o v.of then upd (m.g (eX m v.o v.of)) 4 v.req else m.g j:=fun j=>rfl;have u : ∀ q,(jW L v).g q=if q=zy L v then aI (L.g (zy L v)) 4 v.req else L.g q:=fun q=>rfl;have B:upd (m.g (eX m v.o v.of)) 4 v.req=aI (L.g (zy L v)) 4 v.req:=by rw[t]; rfl
 have f : ∀ j p,(p=0\/p=1)->(iq m v).g j p=m.g j p:=fun j p s=>by
  rw[w];by_cases c:j=eX m v.o v.of
  ·subst c; rw[d_ rfl]; rcases s with rfl|rfl <;> rfl
  ·rw[b_ c]
 have z : ∀ j p,(p=0\/p=1)->(jW L v).g j p=L.g j p:=fun j p s=>by
  rw[u];by_cases c:j=zy L v
  ·subst c; rw[d_ rfl]; rcases s with rfl|rfl <;> rfl
  ·rw[b_ c]
 refine {
  T:=⟨h.T.has,h.T.n,h.T.par⟩
  inn:=h.inn
  left:=h.left
  known:=h.known
  row:=fun i r => ?_
  own:=h.own
  gi:=fun i j r a l d=>h.gi i j r a (by rw[f i 0 (.inl rfl),f j 0 (.inl rfl)]at l; exact l) (by rw[f i 1 (.inr rfl),f j 1 (.inr rfl)]at d; exact d)
  gn:=h.gn
  g1:=fun q b => ?_
  g2:=fun j a => ?_
  ask:=k1
  ga:=fun i r=>by rw[f i 0 (.inl rfl),f i 1 (.inr rfl)]; exact k2 _ _ (h.ga i r)
  li:=fun p q s b l d=>h.li p q s b (by rw[z p 0 (.inl rfl),z q 0 (.inl rfl)]at l; exact l) (by rw[z p 1 (.inr rfl),z q 1 (.inr rfl)]at d; exact d) }
 ·have:=H i r;show(qm m (fun x=>bD x v.o (m.g (eX m v.o v.of) 3)) (m.T.path (m.g (eX m v.o v.of) 2))).R (m.idx (L.id i))=_;rw[t]; exact this
 ·have b:q<L.gn:=b;rw[u];by_cases c:q=zy L v
  ·rw[d_ c]; exact⟨eX m v.o v.of,D,by rw[w,d_ rfl,B]⟩
  rw[b_ c];obtain⟨j,a,y⟩:=h.g1 q b;refine⟨j,a,?_⟩;rw[w,b_]
  ·exact y
  intro e;rw[e,t]at y;exact c (h.li q _ b C (congrFun y.symm 0) (congrFun y.symm 1))
 have a:j<m.gn:=a;rw[w];by_cases c:j=eX m v.o v.of
 ·rw[d_ c]; exact⟨zy L v,C,by rw[u,d_ rfl,B]⟩
 rw[b_ c];obtain⟨q,b,e⟩:=h.g2 j a;refine⟨q,b,?_⟩;rw[u,b_]
 ·exact e
 intro d;rw[d]at e;exact c (h.gi j _ a D (by rw[t,<- e,A]) (by rw[t,<- e,A]))
theorem fM.move(h:fM m L)(i:m.T.ok)(a:Inv0 L N)(k:bM v=true)(j:v.kind=5):jX m v=oH L v/\(oH L v=0->fM (CP m v) (EX L v)):=by
 obtain⟨b,l,n⟩:=OE k j;unfold jX oH;by_cases c:L.node v.node<0
 ·rw[d_ c,d_ ((h.Lb a _).2 c)];exact⟨rfl,fun h=>by cases h⟩
 have f:0<=L.node v.node:=by omega
 rw[b_ c,b_ (fun e=>c ((h.Lb a _).1 e)),h.inn];have g:rE m v=xK L v:=by unfold rE xK; rw[<- h.rk a f]; rfl
 have e:(v.dst<1\/6<v.dst\/L.inn (v.dst-1).toNat=false)<->L.inn (v.dst-1).toNat=false:=⟨fun h=>by rcases h with h|h|h; omega; omega; exact h,fun h => .inr (.inr h)⟩
 by_cases d:L.inn (v.dst-1).toNat=false
 ·rw[d_ d,d_ (e.2 d)];exact⟨rfl,fun h=>by cases h⟩
 rw[b_ d,b_ (fun q=>d (e.1 q)),g];refine⟨rfl,fun _ => ?_⟩;have:=h.BS i a ((h.node a _).2 f) (xK L v).1;unfold CP EX;rw[g]; exact this
theorem fM.raise(h:fM m L)(f:m.T.ok)(a:Inv0 L N):jr m v=vW L v/\(vW L v=0->fM (tY m v) (EW L v)):=by
 unfold jr vW;by_cases c:L.node v.node<0
 ·rw[d_ c,d_ ((h.Lb a _).2 c)];exact⟨rfl,fun h=>by cases h⟩
 have b:0<=L.node v.node:=by omega
 have d:m.R (m.idx v.node)=L.R (L.node v.node).toNat:=h.rk a b;rw[b_ c,b_ (fun e=>c ((h.Lb a _).1 e)),d];refine⟨rfl,fun _ => ?_⟩;unfold tY EW;rw[d];exact h.BS f a ((h.node a _).2 b) _
theorem fM.does(h:fM m L)(c:m.T.ok)(b:Inv0 L N)(d:bM v=true):fC m v=dP L v/\(dP L v=0->fM (gV m v) (iF L v)):=by
 have j:=iV d;unfold fC dP gV iF;by_cases k1:v.kind=1
 ·rw[d_ k1,d_ k1,d_ k1,d_ k1]; exact⟨h.agi c b d k1,fun e=>h.make c b d k1 e⟩
 rw[b_ k1,b_ k1,b_ k1,b_ k1];by_cases k2:v.kind=2
 ·rw[d_ k2,d_ k2,d_ k2,d_ k2]; exact h.raise c b
 rw[b_ k2,b_ k2,b_ k2,b_ k2];by_cases f:v.kind=3
 ·rw[d_ f,d_ f,d_ f,d_ f]; exact⟨h.qx c b d,fun e=>h.take c b d e⟩
 rw[b_ f,b_ f,b_ f,b_ f];by_cases g:v.kind=4
 ·rw[d_ g,d_ g,d_ g,d_ g]; exact⟨h.qy c b d,fun e=>h.free c b d e⟩
 rw[b_ g,b_ g,b_ g,b_ g];by_cases a:v.kind=5
 ·rw[d_ a,d_ a,d_ a,d_ a]; exact h.move c b d a
 rw[b_ a,b_ a,b_ a,b_ a];by_cases i:v.kind=6
 ·rw[d_ i,d_ i,d_ i];exact⟨rfl,fun _ => { h with T:=⟨h.T.has,h.T.n,h.T.par⟩,inn:=by show aI m.inn _ true=aI L.inn _ true; rw[h.inn] }⟩
 rw[b_ i,b_ i,b_ i];exact⟨rfl,fun _ => { h with T:=⟨h.T.has,h.T.n,h.T.par⟩,left:=by show aI m.left _ true=aI L.left _ true; rw[h.left] }⟩
theorem fM.apply(h:fM m L)(f:m.T.ok)(d:Inv0 L N)(v:EvM):bV m v=bG L v/\fM (gJ m v) (dz L v):=by
 have e:bV m v=bG L v:=by
  unfold bV bG;rw[h.known,h.inn,h.left]
  cases b:bM v with
  | false=>rfl
  | true =>
    rw[(h.does f d b).1]
 refine⟨e,?_⟩;unfold gJ dz;rw[e];by_cases c:bG L v=0
 ·rw[d_ c,d_ c];have b:=(Dz (iW c)).1;have g:dP L v=0:=by
   unfold bG at c;rw[b_ (by rw[b]; decide)]at c;split at c; · cases c
   split at c; · cases c
   split at c; · cases c
   exact c
  have a:=(h.does f d b).2 g;exact { a with T:=⟨a.T.has,a.T.n,a.T.par⟩,known:=by show aI (gV m v).known _ _=aI (iF L v).known _ _; rw[a.known] }
 rw[b_ c,b_ c]; exact h
theorem fM.sound(h:fM m L)(k:m.T.ok)(c:Inv0 L N):QlK m := {
 own:=fun a l=>by
  have b:=OQ (f:=L.id) (o:=(a:Int)+1) L.nn;have d:=c.nn;rw[h.own a l]; omega
 row:=fun i g p n=>by
  obtain⟨j,hj,e⟩:=(h.T.has _).1 (dK.zC g);have b:=h.row j hj;rw[e]at b;have d:m.idx (m.T.x i)=i:=nQ k.inj g rfl;unfold FX at b;rw[d]at b;rw[b];exact lu (c.may j hj) p n
 ga:=h.ga
 kn:=by rw[h.known]; exact c.kn }
end
end Rt
end Go.Proofs.YtahbiajdgealnaaDoor
namespace Go.Proofs.YtahbiajdgealnaaDoor
open Go.RowKit Go
set_option linter.unusedVariables false
set_option maxRecDepth 20000
namespace Rt
def nS(x:Nat->Int):Int:=x 0*18446744073709551616+x 1
structure zi(L:fB):Prop where
 up : ∀ i j,i<j->j<L.gn->nS (L.g i)<nS (L.g j)
 wf : ∀ q,q<L.gn->jU (L.g q 1)/\jU (L.g q 4)
 ga : ∀ q,q<L.gn->1<=L.g q 0/\L.g q 0<=6 /\ ∃ j,j<L.rn (L.g q 0-1).toNat/\L.rq (L.g q 0-1).toNat j=L.g q 1
section
variable {L:fB} {N:Nat} {v:EvM}
theorem Vp(a:jU v.req){x:Nat->Int}(hx:jU (x 1)):EN v x=true<->nS (pW v)<nS x:=by
 unfold EN nS jU at *;rw[Bool.or_eq_true,R_,O_,O_,O_];show v.o<x 0\/x 0=v.o/\v.req<x 1<->v.o*18446744073709551616+v.req<x 0*18446744073709551616+x 1;omega
theorem Lc{a:Nat}{r:Int}(d:fB)(f:d.rn=aI L.rn a (L.rn a+1))(g:d.rq=aI L.rq a (aI (L.rq a) (L.rn a) r)):(∀ b y,(∃ j,j<L.rn b/\L.rq b j=y) -> ∃ j,j<d.rn b/\d.rq b j=y) /\ ∃ j,j<d.rn a/\d.rq a j=r:=by
 rw[f,g];unfold aI;refine⟨fun b y ⟨j,h,e⟩ => ?_,L.rn a,by rw[d_ rfl]; omega,by rw[d_ rfl,d_ rfl]⟩;by_cases c:b=a
 ·subst c;exact⟨j,by rw[d_ rfl]; omega,by rw[d_ rfl,b_ (by omega)]; exact e⟩
 exact⟨j,by rw[b_ c]; exact h,by rw[b_ c]; exact e⟩
attribute [local irreducible] dR cZ in
theorem Nf(h:zi L)(J:bM v=true)(M:fV v)(t:iN L v=0):zi (lN L v):=by
 have z:=nO J;have m:jU v.req:=M.req;unfold iN at t;split at t
 ·cases t
 rename_i c1;obtain⟨w,x⟩:=Lc (L:=L) (a:=aK v) (r:=v.req) (lN L v) rfl rfl;have K : ∀ j,j<L.gn -> ¬ (L.g j 0=v.o/\L.g j 1=v.req):=fun j f e=>c1 (by
  obtain⟨_,_,q,b,y⟩:=h.ga j f;rw[e.1,e.2]at y;rw[e.1]at b;unfold fB.kM;rw[Cj];exact⟨q,b,f_ y⟩)
 obtain⟨k,u⟩ : ∃ k,k=Fx.down (fun i=>EN v (L.g i)) L.gn:=⟨_,rfl⟩;have l:k<=L.gn:=by rw[u]; exact Fx.yc _ _
 have I : ∀ q,k<=q->q<L.gn->nS (pW v)<nS (L.g q):=fun q D d=>(Vp m (h.wf q d).1).1 (Fx.Iu (P:=fun i=>EN v (L.g i)) (n:=L.gn) (i:=q) (by omega) d);have H : ∀ q,q<k->nS (L.g q)<nS (pW v):=fun q D=>by
  obtain⟨j,rfl⟩ : ∃ j,k=j+1:=⟨k-1,by omega⟩;have d:=Fx.Iw (P:=fun i=>EN v (L.g i)) (n:=L.gn) (j:=j) u.symm;have E : ¬ nS (pW v)<nS (L.g j):=fun e=>by
   have:=(Vp m (h.wf j (by omega)).1).2 e;rw[this]at d; cases d
  have F:nS (L.g j)<nS (pW v):=by
   rcases Int.lt_trichotomy (nS (L.g j)) (nS (pW v))with c|c|c
   ·exact c
   ·exfalso;have G:=(h.wf j (by omega)).1;refine K j (by omega) ?_;unfold nS at c;have c:L.g j 0*18446744073709551616+L.g j 1=v.o*18446744073709551616+v.req:=c;unfold jU at G m;omega
   ·exact L_ c E
  by_cases e:q=j
  ·rw[e]; exact F
  ·have:=h.up q j (by omega) (by omega); omega
 have p:(lN L v).g=Fx.bZ L.g k (pW v):=by rw[u]; rfl
 have s:(lN L v).gn=L.gn+1:=rfl;refine⟨fun i j N f => ?_,fun q b => ?_,fun q b => ?_⟩
 ·rw[s]at f;rw[p]
  rcases dS l (show i<L.gn+1 by omega)with rfl|⟨q,b,eq,q1,q2⟩
  ·rcases dS l f with rfl|⟨r,hr,er,w,x⟩
   ·omega
   rw[dG,er]; exact I r (by omega) hr
  rcases dS l f with rfl|⟨r,hr,er,w,x⟩
  ·rw[dG,eq]; exact H q (by omega)
  rw[eq,er]; exact h.up q r (by omega) hr
 ·rw[s]at b;rw[p]
  rcases dS l b with rfl|⟨r,hr,er,_,_⟩
  ·rw[dG]; exact⟨m,by show jU 0; unfold jU; omega⟩
  rw[er]; exact h.wf r hr
 rw[s]at b;rw[p]
 rcases dS l b with rfl|⟨r,hr,er,_,_⟩
 ·rw[dG]; exact⟨z.1,z.2.1,x⟩
 rw[er];obtain⟨A,B,C⟩:=h.ga r hr;exact⟨A,B,w _ _ C⟩
attribute [local irreducible] dR cZ in
theorem Ng(h:zi L)(w:bM v=true)(s:fV v)(u:iE L v=0):zi (jW L v):=by
 obtain⟨t,x⟩:=Lc (L:=L) (a:=aK v) (r:=v.req) (jW L v) rfl rfl;have e : ∀ q,(jW L v).g q=if q=zy L v then aI (L.g (zy L v)) 4 v.req else L.g q:=fun q=>rfl;have b : ∀ j p,(p=0\/p=1)->(jW L v).g j p=L.g j p:=fun j p o=>by
  rw[e];by_cases c:j=zy L v
  ·subst c; rw[d_ rfl]; rcases o with rfl|rfl <;> rfl
  ·rw[b_ c]
 refine⟨fun i j m n => ?_,fun q d => ?_,fun q d => ?_⟩
 ·unfold nS;rw[b i 0 (.inl rfl),b i 1 (.inr rfl),b j 0 (.inl rfl),b j 1 (.inr rfl)];exact h.up i j m n
 ·rw[b q 1 (.inr rfl)];refine⟨(h.wf q d).1,?_⟩;rw[e];by_cases c:q=zy L v
  ·rw[d_ c]; exact s.req
  rw[b_ c]; exact(h.wf q d).2
 rw[b q 0 (.inl rfl),b q 1 (.inr rfl)];obtain⟨f,k,l⟩:=h.ga q d;exact⟨f,k,t _ _ l⟩
theorem Nh(h:zi L)(e:fV v):zi (dz L v):=by
 unfold dz;by_cases c:bG L v=0
 ·rw[d_ c];have b:=(Dz (iW c)).1;have a:dP L v=0:=by
   unfold bG at c;rw[b_ (by rw[b]; decide)]at c;split at c; · cases c
   split at c; · cases c
   split at c; · cases c
   exact c
  have d:zi (iF L v):=by
   unfold dP at a;unfold iF;by_cases k1:v.kind=1
   ·rw[d_ k1]; exact⟨h.up,h.wf,h.ga⟩
   rw[b_ k1]at a ⊢;by_cases k2:v.kind=2
   ·rw[d_ k2]; exact⟨h.up,h.wf,h.ga⟩
   rw[b_ k2]at a ⊢;by_cases f:v.kind=3
   ·rw[d_ f]at a ⊢; exact Nf h b e a
   rw[b_ f]at a ⊢;by_cases g:v.kind=4
   ·rw[d_ g]at a ⊢; exact Ng h b e a
   rw[b_ g]at a ⊢;by_cases i:v.kind=5
   ·rw[d_ i]; exact⟨h.up,h.wf,h.ga⟩
   rw[b_ i];by_cases j:v.kind=6
   ·rw[d_ j]; exact⟨h.up,h.wf,h.ga⟩
   ·rw[b_ j]; exact⟨h.up,h.wf,h.ga⟩
  exact⟨d.up,d.wf,d.ga⟩
 rw[b_ c]; exact h
theorem Vq(k a:Nat):zi (kN k a).core:=⟨fun i j _ h=>L_ h (u_ _),fun q h=>L_ h (u_ _),fun q h=>L_ h (u_ _)⟩
theorem fM.new(k l d e f c b g:Nat):fM (xQ k l d e f c b) (kN k g).core where
 T:=⟨fun q=>⟨fun h=>(nomatch h),fun⟨i,h,_⟩=>L_ h (u_ _)⟩,rfl,fun i h=>L_ h (u_ _)⟩
 inn:=rfl
 left:=rfl
 known:=rfl
 row:=fun i h=>L_ h (u_ _)
 own:=fun a _=>rfl
 gi:=fun i j h=>L_ h (u_ _)
 gn:=rfl
 g1:=fun q h=>L_ h (u_ _)
 g2:=fun q h=>L_ h (u_ _)
 ask:=fun a r _=>⟨fun h=>(nomatch h),fun⟨j,h,_⟩=>L_ h (u_ _)⟩
 ga:=fun i h=>L_ h (u_ _)
 li:=fun i j h=>L_ h (u_ _)
structure StC(L:fB)(m:dM)(l:List Int)(gl:List Rb):Prop where
 nn:l.length=L.nn
 gn:gl.length=L.gn
 n : ∀ k,k<L.nn->l.getD k 0=L.id k/\m.T.par (l.getD k 0)=L.par k/\FX m (l.getD k 0)=L.R k
 g : ∀ k,k<L.gn->(gl.getD k g0).x=L.g k
theorem StC.of{m:dM}{l:List Int}{c:List Rb}(h:fM m L)(F:Inv0 L N)(u:zi L)(B:l.Pairwise (· < ·) /\ ∀ k,k∈l<->m.T.has k=true)(s:GrS m c):StC L m l c:=by
 have w:l=(List.range L.nn).map L.id:=um B.1 (by
  rw[List.pairwise_map];exact(List.pairwise_lt_range (n:=L.nn)).imp_of_mem fun {a b} _ hb hab=>F.rise a b hab (N_.1 hb)) fun k=>by
  rw[B.2,h.T.has,List.mem_map];exact⟨fun⟨i,d,e⟩=>⟨i,N_.2 d,e⟩,fun⟨i,d,e⟩=>⟨i,N_.1 d,e⟩⟩
 have y:c.map gky=(List.range L.gn).map fun q=>nS (L.g q):=um (by rw[List.pairwise_map]; exact s.up) (by
  rw[List.pairwise_map];exact(List.pairwise_lt_range (n:=L.gn)).imp_of_mem fun {a b} _ hb hab=>u.up a b hab (N_.1 hb)) fun k=>by
  rw[List.mem_map,List.mem_map];constructor
  ·rintro ⟨x,v,e⟩;obtain⟨i,d,p⟩:=s.mem x v;obtain⟨q,o,r⟩:=h.g2 i d;refine⟨q,N_.2 o,?_⟩;rw[r,<- p]; exact e
  ·rintro ⟨q,o,e⟩;obtain⟨j,G,C⟩:=h.g1 q (N_.1 o);obtain⟨x,v,E⟩:=s.all j G;refine⟨x,v,?_⟩;rw[<- e,<- C,<- E]; rfl
 have I:c.length=L.gn:=by have:=K_ List.length y; rwa [List.length_map,List.length_map,List.length_range]at this
 refine⟨by rw[w,List.length_map,List.length_range],I,fun k f => ?_,fun k f => ?_⟩
 ·have:l.getD k 0=L.id k:=by
   rw[w,r_,o_ (by rw[List.length_map,List.length_range]; exact f)];simp
  rw[this];exact⟨rfl,h.T.par k f,h.row k f⟩
 have t:k<c.length:=by omega
 have H:c.getD k g0∈c:=by rw[r_,o_ t]; exact P_ t
 have D:gky (c.getD k g0)=nS (L.g k):=by
  have A:=K_ (fun z=>z.getD k 0) y;simp only[r_,List.getElem?_map,o_ t,List.getElem?_range f]at A;rw[r_,o_ t]; exact A
 obtain⟨i,d,p⟩:=s.mem _ H;obtain⟨q,o,r⟩:=h.g2 i d;have J:nS (L.g q)=nS (L.g k):=by rw[r,<- p,<- D]; rfl
 have:q=k:=by
  rcases Nat.lt_trichotomy q k with h5|h5|h5
  ·have:=u.up q k h5 f; omega
  ·exact h5
  ·have:=u.up k q h5 o; omega
 rw[p,<- r,this]
end
end Rt
end Go.Proofs.YtahbiajdgealnaaDoor
namespace Go.Proofs.YtahbiajdgealnaaDoor
open Go.RowKit Go.WideShapes Go.ChangeShapes Go.Deep
theorem QE{w:World}{x:Addr}{v:Value}(h:w.cell? x=some v) : ∃ b a,x=⟨b,a,none⟩:=by
 obtain⟨b,a,c⟩:=x
 cases c with
 | none=>exact⟨b,a,rfl⟩
 | some q =>
   unfold World.cell? at h;simp at h;split at h <;> cases h
def At4(a k1 k2 c:IntKind)(w:World)(b off:Nat)(x0 x1 x2 d:Int):Prop :=
 w.cell? ⟨b,off,none⟩=some (.int a x0)/\w.cell? ⟨b,off+1,none⟩=some (.int k1 x1)/\w.cell? ⟨b,off+2,none⟩=some (.int k2 x2)/\w.cell? ⟨b,off+3,none⟩=some (.int c d)
def Wf4(a k1 k2 b:IntKind)(x0 x1 x2 c:Int):Prop:=(Lit.int a x0).wf=true/\(Lit.int k1 x1).wf=true/\(Lit.int k2 x2).wf=true/\(Lit.int b c).wf=true
def Sl4(g k1 k2 h:IntKind)(w:World)(a:Option Addr)(len:Nat)(c d e f:Nat->Int):Prop :=
 ∀ i,i<len->(∃ b j,a=some ⟨b,j,none⟩/\At4 g k1 k2 h w b (j+i*4) (c i) (d i) (e i) (f i))/\Wf4 g k1 k2 h (c i) (d i) (e i) (f i)
theorem Sl4.up{m k1 k2 n:IntKind}{w w':World}{a:Option Addr}{len:Nat}{g j k l:Nat->Int}(h:Sl4 m k1 k2 n w a len g j k l)(f:Below w.heap.size w w'):Sl4 m k1 k2 n w' a len g j k l:=by
 intro i q;obtain⟨⟨b,d,e,o,r,s,t⟩,hw⟩:=h i q;have c:=block_lt_of_cell o
 dsimp only at c
 exact⟨⟨b,d,e,(f.cell (p:=⟨b,d+i*4,none⟩) c).trans o,(f.cell (p:=⟨b,d+i*4+1,none⟩) c).trans r,(f.cell (p:=⟨b,d+i*4+2,none⟩) c).trans s,(f.cell (p:=⟨b,d+i*4+3,none⟩) c).trans t⟩,hw⟩
instance {g k1 k2 i:IntKind} {w w':World} {a:Option Addr} {len:Nat} {c d e f:Nat->Int}:Rt.Tr w w' (Sl4 g k1 k2 i w a len c d e f) (Sl4 g k1 k2 i w' a len c d e f):=⟨fun b h=>h.up b⟩
end Go.Proofs.YtahbiajdgealnaaDoor
namespace Go.Proofs.YtahbiajdgealnaaDoor
open Go.RowKit Go.WideShapes Go.ChangeShapes Go.Deep
def wh(P:Program):Nat->TypeId->Option (List (Option IntKind))
 | 0,_=>none
 | d+1,t=>match P.underlying t with
   | some (.int k)=>some [some k]
   | some .bool=>some [none]
   | some (.array n e)=>(wh P d e).bind fun a=>if P.cellsOf e=a.length/\P.cellsOf t=n*a.length then some (List.replicate n a).flatten else none
   | some (.struct fs)=>(fs.toList.foldlM (fun l f=>(wh P d f.type).bind fun a=>if f.offset=l.length/\P.cellsOf f.type=a.length then some (l++a)else none) []).bind fun l=>if P.cellsOf t=l.length then some l else none
   | _=>none
def OU(k:Option IntKind)(v:Value):Prop:=match k with|some k => ∃ n,v = .int k n/\(Lit.int k n).wf=true|none => ∃ b,v = .bool b
def Zu(ks:List (Option IntKind))(cs:List Value):Prop:=cs.length=ks.length /\ ∀(j:Nat) (k:Option IntKind),ks[j]? = some k -> ∃ v,cs[j]? = some v/\OU k v
theorem Ck{ks:List (Option IntKind)}{k:Option IntKind} : ∀(n j:Nat),(List.replicate n ks).flatten[j]? = some k->ks[j % ks.length]? = some k/\j / ks.length<n
 | 0,j,h=>by simp at h
 | n+1,j,h=>by
   rw[List.replicate_succ,List.flatten_cons]at h;by_cases b:j<ks.length
   ·rw[List.getElem?_append_left b]at h;rw[Nat.mod_eq_of_lt b,Nat.div_eq_of_lt b]; exact⟨h,by omega⟩
   ·rw[List.getElem?_append_right (by omega)]at h;have c:0<ks.length:=by
     rcases Nat.eq_zero_or_pos ks.length with e|e
     ·obtain⟨a,_⟩:=Ck n _ h;have:=(List.getElem?_eq_some_iff.1 a).1; omega
     ·exact e
    obtain⟨a,d⟩:=Ck n _ h;rw[Nat.mod_eq_sub_mod (by omega),Nat.div_eq_sub_div c (by omega)];exact⟨a,by omega⟩
section
variable {H:Type} {enc:TypeId × Value->H} {P:Program} {w:World} {base:Nat} {spare:Nat->Bool} {held:Bool}
theorem Fz{ks:List (Option IntKind)}{cs:List Value}{o s j:Nat}{k:Option IntKind}(h:Zu ks ((cs.drop o).take s))(e:s=ks.length)(b:ks[j]? = some k) : ∃ v,cs[o+j]? = some v/\OU k v:=by
 obtain⟨n,a,c⟩:=h.2 j k b;have d:=(List.getElem?_eq_some_iff.1 b).1;rw[List.getElem?_take_of_lt (by omega),List.getElem?_drop]at a;exact⟨n,a,c⟩
theorem yK : ∀(d:Nat) (t:TypeId) (q:List (Option IntKind)),wh P d t=some q -> ∀(C:Nat) (p:List Value) (x:DataW H × List MemPlace),DataW.trod enc P w base spare held C t p=some x->Zu q p
 | 0,_,_,h=>by simp[wh]at h
 | d+1,t,q,h=>by
   intro C p x z;unfold wh at h;split at h
   ·rename_i k hu;simp only[Option.some.injEq]at h; subst h;obtain⟨n,rfl,_,U⟩:=DataW.trod_int hu z;refine⟨rfl,fun j W a => ?_⟩
    match j,a with
    | 0,a=>simp at a; subst a; exact⟨_,rfl,n,rfl,U⟩
    | j+1,a=>simp at a
   ·rename_i hu;simp only[Option.some.injEq]at h; subst h;obtain⟨b,rfl,_⟩:=DataW.trod_bool hu z;refine⟨rfl,fun j W a => ?_⟩
    match j,a with
    | 0,a=>simp at a; subst a; exact⟨_,rfl,b,rfl⟩
    | j+1,a=>simp at a
   ·rename_i n e hu;obtain⟨I,S,h⟩:=Option.bind_eq_some_iff.1 h;split at h
    ·rename_i hc;simp only[Option.some.injEq]at h; subst h;obtain⟨Y,m,_,_,c,F,J⟩:=DataW.trod_array hu z;refine⟨by rw[c,hc.2]; simp,fun j k a => ?_⟩;obtain⟨r,A⟩:=Ck n j a;have u:=J (j / I.length) A;rw[o_ (by omega),hc.1]at u;have:=Fz (yK d e I S _ _ _ u) rfl r;rw[Nat.mul_comm,Nat.div_add_mod]at this;exact this
    ·cases h
   ·rename_i fs hu;obtain⟨l,c,h⟩:=Option.bind_eq_some_iff.1 h;split at h
    ·rename_i hc;simp only[Option.some.injEq]at h; subst h;obtain⟨Y,m,_,_,T,F,K⟩:=DataW.trod_struct hu z;refine⟨by rw[T,hc],?_⟩;have M : ∀ f,f∈fs.toList -> ∃ y,DataW.trod enc P w base spare held m f.type ((p.drop f.offset).take (P.cellsOf f.type))=some y:=by
      intro f N;obtain⟨i,u,e⟩:=List.mem_iff_getElem.1 N;have E:i<fs.size:=(by simpa using u);have r:fs[i]? = some f:=(by rw[Array.getElem?_eq_getElem E]; simpa using e);have:=K i f r;rw[o_ (by rw[F]; exact E)]at this;exact⟨_,this⟩
     have X : ∀(L:List Field) (o:List (Option IntKind)),(∀ f,f∈L -> ∃ y,DataW.trod enc P w base spare held m f.type ((p.drop f.offset).take (P.cellsOf f.type))=some y)->(∀(j:Nat) (k:Option IntKind),o[j]? = some k -> ∃ v,p[j]? = some v/\OU k v) -> ∀ l,L.foldlM (fun l f=>(wh P d f.type).bind fun q=>if f.offset=l.length/\P.cellsOf f.type=q.length then some (l++q)else none) o=some l -> ∀(j:Nat) (k:Option IntKind),l[j]? = some k -> ∃ v,p[j]? = some v/\OU k v:=by
      intro L
      induction L with
      | nil=>intro o _ B l c; simp at c; subst c; exact B
      | cons f L ih =>
        intro o D B l c;rw[List.foldlM_cons]at c;obtain⟨Z,r,A⟩:=Option.bind_eq_some_iff.1 c;obtain⟨G,R,s⟩:=Option.bind_eq_some_iff.1 r;split at s
        ·rename_i hcc;simp only[Option.some.injEq]at s; subst s;refine ih (o++G) (fun g O=>D g (List.mem_cons_of_mem _ O)) (fun j k a => ?_) l A;by_cases Q:j<o.length
         ·rw[List.getElem?_append_left Q]at a; exact B j k a
         ·rw[List.getElem?_append_right (by omega)]at a;obtain⟨y,V⟩:=D f (List.mem_cons_self ..);have:=Fz (yK d f.type G R _ _ _ V) hcc.2 a;rw[hcc.1,show o.length+(j-o.length)=j by omega]at this;exact this
        ·cases s
     exact X fs.toList [] M (fun j k a=>by simp at a) l c
    ·cases h
   ·cases h
end
section
variable {H:Type} {enc:TypeId × Value->H} {P:Program} {w:World} {base:Nat} {spare:Nat->Bool} {held:Bool}
theorem QF{t e:TypeId}{ks:List (Option IntKind)}{fuel D:Nat}{cs:List Value}{x:DataW H × List MemPlace}(S:P.underlying t=some (.slice e))(O:wh P D e=some ks)(F:P.cellsOf e=ks.length)(C:0<ks.length)
 (h:DataW.trod enc P w base spare held fuel t cs=some x) : ∃ a c l,cs = [.slice a c l]/\c<=maxLen/\c<=l /\ ∃ X:Nat->Nat->Value,(∀ i,i<c -> ∀(j:Nat) (k:Option IntKind),ks[j]? = some k->OU k (X i j))/\Fx.nY w a c ks.length (Fx.flat ks.length X):=by
 rcases open_slice S h with ⟨rfl,_⟩|⟨a',c,l,m,n,D',Pl,rfl,_,hl,hm,hmm,_,hx⟩
 ·exact⟨none,0,0,rfl,by unfold maxLen; omega,z_ _,fun _ _=>undef,fun i d=>L_ d (by omega),fun h=>L_ h (by omega)⟩
 have W:c<=m:=by rw[hmm]; split <;> omega
 have r : ∀ i j:Nat,∃ q:Value,i<c -> ∀ k,ks[j]? = some k->w.cell? (a'.add (i*ks.length+j))=some q/\OU k q:=by
  intro i j;by_cases d:i<c/\j<ks.length
  ·obtain⟨U,A,J⟩:=hx i (by omega);rw[F]at A;obtain⟨_,V,M⟩:=World.cells?_some A;obtain⟨q,y,z⟩:=(yK _ _ _ O _ _ _ J).2 j _ (o_ d.2);refine⟨q,fun _ k v => ?_⟩;rw[o_ d.2,Option.some.injEq]at v;subst v;have E:=M j (by omega);rw[add_add]at E;exact⟨by rw[<- y]; simpa using E,z⟩
  ·refine⟨undef,fun y k z=>L_ ⟨y,(List.getElem?_eq_some_iff.1 z).1⟩ d⟩
 refine⟨some a',c,l,rfl,by omega,hl,fun i j=>Classical.choose (r i j),fun i d j k v=>(Classical.choose_spec (r i j) d k v).2,fun K => ?_⟩;have G:a'.add (0*ks.length+0)=a':=by unfold Addr.add; simp
 obtain⟨Z,L⟩:=r 0 0;have Q:=o_ C;have B:=(L K _ Q);have g:=B.1;rw[G]at g;have o : ∃ b f,a'=⟨b,f,none⟩:=by
  have u:=B.2;unfold OU at u;split at u
  ·obtain⟨Y,rfl,_⟩:=u; exact QE g
  ·obtain⟨T,rfl⟩:=u;unfold World.cell? at g
   cases a' with
   | mk b f sp =>
     cases sp with
     | none=>exact⟨b,f,rfl⟩
     | some s=>simp at g; split at g <;> simp_all
 obtain⟨b,f,o⟩:=o;refine⟨b,f,by rw[o],fun p R => ?_⟩;have N:p % ks.length<ks.length:=I_ _ C;have d:p / ks.length<c:=Nat.div_lt_of_lt_mul (by rw[Nat.mul_comm]; exact R);have:=(Classical.choose_spec (r (p / ks.length) (p % ks.length)) d _ (o_ N)).1;have I:a'.add (p / ks.length*ks.length+p % ks.length)=⟨b,f+p,none⟩:=by rw[o,addr_add,Nat.mul_comm,Nat.div_add_mod]
 exact(K_ w.cell? I).symm.trans this
end
section
variable {H:Type} {enc:TypeId × Value->H} {P:Program} {w:World}
theorem nY.uh{w:World}{a:Option Addr}{n s:Nat}{x y:Nat->Value}(h:Fx.nY w a n s x)(e : ∀ p,p<n*s->x p=y p):Fx.nY w a n s y:=fun f=>by
 obtain⟨b,j,d,g⟩:=h f;exact⟨b,j,d,fun i c=>by rw[<- e i c]; exact g i c⟩
end
end Go.Proofs.YtahbiajdgealnaaDoor
namespace Go.Proofs.YtahbiajdgealnaaDoor
open Go.RowKit Rt
open Fx (fI fq fP bF gX gW dA dY gP jE eZ jF gy jv jG Lv sN Ln Ws Qv Wl Rp Wc Qs Wr Sb Lk Wk rC rV sR Rs Rn Rd Rk Wb Wx Wo FQ Wt rT K4 Qn F3 Bl Af Ar DI Ei rM gK Av mV wI uT wX xX Aq DL Au rv aA aQ bR aN ev bZ Stp dJ aR flat dD Mp fA aU iR iQ bJ down iI jM iT nY bP bL cells_one jl bS wQ unseen jN iK bX dH bI bT cK cO gU iB qo gu)
set_option maxRecDepth 20000
set_option linter.unusedVariables false
namespace Rt
def stL(L:fB)(c:Option Addr)(d:Nat)(a:Option Addr)(b:Nat):IU:=⟨L.inn,L.left,L.known,c,L.nn,d,a,L.gn,b⟩
def ndL(L:fB):Nat->Nat->Value:=fun k=>mO (L.id k) (L.par k) (L.R k)
def grL(L:fB):Nat->Nat->Value:=fun k=>ng (L.g k)
structure LWf(L:fB):Prop where
 n : ∀ k,k<L.nn->jU (L.id k)/\jU (L.par k) /\ ∀ p,p<54->uF (L.R k p)
 g : ∀ k,k<L.gn->uF (L.g k 0)/\jU (L.g k 1)/\jU (L.g k 2)/\uF (L.g k 3)/\jU (L.g k 4)
 k : ∀ i,i<6->jU (L.known i)
 bn:L.nn<=900000
 bg:L.gn<=900000
theorem LWf.of{L:fB}{N:Nat}(a:Inv0 L N)(o:zU L)(m:zi L)(A:N<=900000):LWf L where
 n:=fun k c=>by
  have y:=a.pos k c;have z:=a.top k c;have f:=lu (a.may k c);refine⟨⟨by omega,by omega⟩,?_,fun p r=>by have:=f p r; exact⟨by omega,by omega⟩⟩
  rcases a.up k c with e|⟨j,b,e⟩
  ·rw[e]; exact⟨by omega,by omega⟩
  ·have h:=a.pos j b;have l:=a.top j b;rw[<- e]; exact⟨by omega,by omega⟩
 g:=fun k c=>by
  obtain⟨d,u,v,w,x⟩:=o.gb k c;obtain⟨s,t⟩:=m.wf k c;obtain⟨j,b,e⟩:=iy.1 d;rw[a.BO]at b;rw[(a.tid j b).1]at e;have h:=a.pos j b;have l:=a.top j b;exact⟨⟨by omega,by omega⟩,s,by rw[<- e]; exact⟨by omega,by omega⟩,⟨by omega,by omega⟩,t⟩
 k:=fun i q=>by have:=a.kn i q; exact⟨by omega,by omega⟩
 bn:=by have:=a.nn; omega
 bg:=by have:=a.gn; omega
end Rt
structure QG(w:World)(s:IU)(L:fB):Prop where
 e:s=stL L s.na s.nc s.ga s.gc
 n:nY w s.na L.nn 56 (flat 56 (ndL L))
 g:nY w s.ga L.gn 5 (flat 5 (grL L))
theorem QG.up{w w':World}{s:IU}{L:fB}(h:QG w s L)(a:Below w.heap.size w w'):QG w' s L:=⟨h.e,h.n.up a rfl,h.g.up a rfl⟩
instance {w w':World} {s:IU} {L:fB}:Rt.Tr w w' (QG w s L) (QG w' s L):=⟨fun b h=>h.up b⟩
theorem QG.ldg{w:World}{p:Nat}{m:lH}(h:Cy w p m):QG w m.s m.core:=⟨rfl,h.an,h.ag⟩
theorem QG.of{w:World}{B:Nat}{m:dM}{s:IU}{l:List Int}{p:List Rb}{L:fB}{N:Nat}(h:StQ w B m s l p)(d:fM m L)(r:Inv0 L N)(q:zi L):QG w s L:=by
 have e:=StC.of d r q h.ls h.gs;have f:s.nn=L.nn:=by rw[h.nn,e.nn]
 have i:s.gn=L.gn:=by rw[h.gn,e.gn]
 refine⟨?_,?_,?_⟩
 ·cases s
  unfold stL;have a:=h.inn;have b:=h.left;have c:=h.known;simp only at a b c f i ⊢;rw[a,b,c,d.inn,d.left,d.known,f,i]
 ·have:=h.n.arr;rw[f]at this;refine nY.uh this<|bP fun k o j _ => ?_;obtain⟨a,b,c⟩:=e.n k o;unfold ndQ ndL;rw[b,c,a]
 have:=h.g.arr;rw[i]at this;refine nY.uh this<|bP fun k o j _ => ?_;unfold grQ grL;rw[e.g k o]
namespace Rt
def Ni(x y:Value):Nat->Value:=fun q=>if q=0 then x else y
theorem agk(x y v:Value):dD (Ni x y) 0 v=Ni v y:=by funext q; unfold dD Ni; split <;> rfl
theorem agl(x y v:Value) : ∀ j,j<2->dD (Ni x y) 1 v j=Ni x v j:=fun j a=>by
 unfold dD Ni
 rcases j with _|_|j
 ·rfl
 ·rfl
 ·omega
def Gd(a:Nat->Nat):Nat->Value:=fun i=>(pt (a i))
def Hw(w:World)(B n:Nat)(b:Nat->Nat)(a:Nat->lH):Prop := ∀ i,i<n->uZ w B (b i) (a i)
theorem Hw.up{w w':World}{B n:Nat}{b:Nat->Nat}{a:Nat->lH}(h:Hw w B n b a)(c:Below w.heap.size w w'):Hw w' B n b a:=fun i d=>(h i d).up c
instance {w w':World} {B n:Nat} {c:Nat->Nat} {a:Nat->lH}:Rt.Tr w w' (Hw w B n c a) (Hw w' B n c a):=⟨fun b h=>h.up b⟩
theorem Hw.kg{w w':World}{B n:Nat}{c:Nat->Nat}{b:Nat->lH}{a:List TypeId}(h:Hw w B n c b)(e:jl a w w')(f:(Kv.all fun T => !a.contains T)=true):Hw w' B n c b:=fun i d=>(h i d).kg e f
instance {w w':World} {B n:Nat} {d:Nat->Nat} {c:Nat->lH} {a:List TypeId}:Rt.Tc a w w' (Hw w B n d c) (Hw w' B n d c) (Kv.all fun T => !a.contains T):=⟨fun b h e=>h.kg b (by simpa using e)⟩
theorem Hw.put{w:World}{B n o p:Nat}{b:Nat->Nat}{a:Nat->lH}{m:lH}(h:Hw w B n b a)(d:uZ w B p m):Hw w B n (aI b o p) (aI a o m):=fun i c=>by
 unfold aI;by_cases e:i=o
 ·rw[d_ e,d_ e]; exact d
 ·rw[b_ e,b_ e]; exact h i c
theorem Hw.snoc{w:World}{B n p:Nat}{b:Nat->Nat}{a:Nat->lH}{m:lH}(h:Hw w B n b a)(c:uZ w B p m):Hw w B (n+1) (aI b n p) (aI a n m):=fun i d=>by
 unfold aI;by_cases e:i=n
 ·rw[d_ e,d_ e]; exact c
 ·rw[b_ e,b_ e]; exact h i (by omega)
theorem acR{n p:Nat}{a:Nat->Nat}{z:Nat->Value} : ∀ j,j<(n+1)*1->iK (Gd a) (n*1) (bR z (0*1) 1 (fun _=>(pt p))) j=Gd (aI a n p) j:=by
 intro j b;unfold iK Gd aI;by_cases h:j<n*1
 ·rw[d_ h,b_ (by omega)]
 rw[b_ h,d_ (by omega)];unfold bR;rw[d_ (by omega)]
theorem Vr{o p:Nat}{a:Nat->Nat}:dD (Gd a) o (pt p)=Gd (aI a o p):=by
 funext j; unfold dD Gd aI
 by_cases h:j=o
 ·rw[d_ h,d_ h]
 rw[b_ h,b_ h]
theorem acS{n:Nat}{e:Nat->EvM}{v:EvM}{z:Nat->Value} : ∀ j,j<(n+1)*14->iK (evX e) (n*14) (bR z (0*14) 14 (bH v)) j=evX (aI e n v) j:=fun j a =>
 (Fx.Eo j a).trans (bP (fun i _ q _=>by unfold Fx.rU aI; split <;> rfl) j a)
structure WM where
 n:Nat
 la:Option Addr
 lc:Nat
 pl:Nat->Nat
 ml:Nat->lH
 an:Nat
 aa:Option Addr
 ac:Nat
 ev:Nat->EvM
end Rt
structure nW(w:World)(B p:Nat)(M:WM)(T:Nat):Prop where
 c:aQ w p 2 (Ni (.slice M.la M.n M.lc) (.slice M.aa M.an M.ac)) 61
 l:Fx.Own w B 57 1 (.slice M.la M.n M.lc) M.n (Gd M.pl)
 a:Fx.Own w B 28 14 (.slice M.aa M.an M.ac) M.an (evX M.ev)
 g:Hw w B M.n M.pl M.ml
 inv : ∀ i,i<M.n->Inv (M.ml i).core T
 wf : ∀ k,k<M.an->fV (M.ev k)
 may : ∀ k,k<M.an->bM (M.ev k)=true
 sm : ∀ k,k<M.an->nP (M.ev k)
 cz:Cz M.n M.an M.ev fun o=>(M.ml o).s.known
 pB:B<=p
 n1:1<=M.n
 n6:M.n<=6
def acT:List Nat := [61,57,28]++Kv
theorem nW.up{w w':World}{B p T:Nat}{M:WM}(h:nW w B p M T)(b:Below w.heap.size w w'):nW w' B p M T := { h with c:=h.c.bY (Sb b) (t_ h.c.lt),l:=h.l.up b,a:=h.a.up b,g:=h.g.up b }
instance {w w':World} {B p T:Nat} {M:WM}:Rt.Tr w w' (nW w B p M T) (nW w' B p M T):=⟨fun b h=>h.up b⟩
theorem nW.kg{w w':World}{B p T:Nat}{M:WM}{e:List TypeId}(h:nW w B p M T)(b:jl e w w')(j:(acT.all fun T => !e.contains T)=true):nW w' B p M T:=by
 have i : ∀ d∈acT,e.contains d=false:=fun d f=>by
  have:=List.all_eq_true.1 j d f
  simpa using this
 exact { h with c:=h.c.kg b (i _ (by decide)),l:=h.l.kg b (i _ (by decide)),a:=h.a.kg b (i _ (by decide)),g:=h.g.kg b (List.all_eq_true.2 fun T f=>List.all_eq_true.1 j T (List.mem_append_right _ f)) }
instance {w w':World} {B p T:Nat} {M:WM} {a:List TypeId}:Rt.Tc a w w' (nW w B p M T) (nW w' B p M T) (acT.all fun T => !a.contains T):=⟨fun b h e=>h.kg b (by simpa using e)⟩
theorem Yi{w:World}{B p k a:Nat}(d:aQ w p 27 (mD (kN k a)) 56)(f:aQ w a 1 (fun _ => .slice none 0 0) 111)(h1:B<=p)(b:B<=a):uZ w B p (kN k a) where
 c:=d
 n:=xX _ _ _ _ _
 g:=xX _ _ _ _ _
 tc:=f
 t:=xX _ _ _ _ _
 r:=⟨fun _ _=>xX _ _ _ _ _,fun _ _ _ _ _ _ e=>by cases e⟩
 pB:=h1
 tB:=b
 bn:=J_ _
 bg:=J_ _
 bt:=J_ _
 br:=fun _ _=>J_ _
theorem Rt.Bg(k a:Nat):Inv (kN k a).core 0 where
 BO:=rfl
 nn:=J_ _
 tid:=fun _ h=>L_ h (u_ _)
 rise:=fun _ _ _ h=>L_ h (u_ _)
 pos:=fun _ h=>L_ h (u_ _)
 top:=fun _ h=>L_ h (u_ _)
 up:=fun _ h=>L_ h (u_ _)
 dep:=fun _=>⟨0,J_ _,by show(-1:Int)<0; decide⟩
 gn:=z_ _
 rn:=fun _ _=>z_ _
 may:=fun _ h=>L_ h (u_ _)
 g47:=fun _ h=>L_ h (u_ _)
 kn:=fun _ _=>⟨M_ _,by show(0:Int)<_; decide⟩
 s:=⟨fun _ h=>L_ h (u_ _),fun _ h=>L_ h (u_ _)⟩
 b:=⟨fun _ _=>M_ _,fun _ h=>L_ h (u_ _),fun _ _ _ h=>L_ h (u_ _)⟩
set_option maxRecDepth 20000 in
theorem Nj(n:Nat)(w:World)(V:1<=n)(W:n<=6) :
 Calls Tryd.prog 10 #[au (n:Int)] w fun e w' => ∃ p M,e = .returned (pt p)/\M.n=n/\M.an=0/\(∀ i,(M.ml i).core=(kN n 0).core)/\nW w' w.heap.size p M 0/\Below w.heap.size w w':=by
 refine Kent Tryd.func10 30 ?_;refine ay<|av (.pointer none)<|aD<|ay<|av (.agg (aA 2 (fun _ => .slice none 0 0)))<|pQ fun b P mR X s1 z1 => ?_;have b1:=bE s1.old (Below.refl w.heap.size w);have sO:=gL mR;have uo:=X.lt;refine av (pt b)<|aD<|Ws<|ay<|av (au 0)<|aD<|Wb ?_;have m2:aQ P b 2 (Ni (.slice none 0 0) (.slice none 0 0)) 61:=X.congr (fun j _=>by unfold Ni; split <;> rfl)
 have m3:Fx.Own P w.heap.size 57 1 (.slice none 0 0) 0 (Gd (fun _=>0)):=xX _ _ _ _ _;have m4:Hw P w.heap.size 0 (fun _=>0) (fun _=>kN n 0):=fun _ h=>L_ h (u_ _);refine Wo (fun f G => ∃ k:Nat,∃ a:Option Addr,∃ u:Nat,∃ t:Nat->Nat,∃ r:Nat->lH,k<=n/\(∀ i,∃ z,r i=kN n z)/\f 0=au (n:Int)/\f 3=(pt b)/\f 4=au (k:Int)/\aQ G b 2 (Ni (.slice a k u) (.slice none 0 0)) 61/\Fx.Own G w.heap.size 57 1 (.slice a (k) (u)) k (Gd t)/\Hw G w.heap.size k t r/\Below w.heap.size w G) (fun f _=>(n-(intOf (f 4)).toNat)) ⟨0,none,0,(fun _=>0),(fun _=>kN n 0),by omega,(fun _=>⟨0,rfl⟩),Fx.ic,(by rfl),Fx.ic,m2,m3,m4,b1⟩ ?_;rintro f1 w2 ⟨k,a,u,t,r,hk,F,J,E,K,m5,m6,m7,A⟩;refine Ws<|ay<|aY K<|aY J ?_;by_cases S:(k:Int)<(n:Int)
 ·refine Lv aG (iL S)<|aD<|aO<|Wk<|sN<|Ws<|Wb<|ay<|aY J<|lS (aeU n _ V W) ?_;rintro e9 w3 ⟨d,O,T,hp3,_,hb3,hc3,ht3,aom⟩;refine⟨.tuple #[(pt d),au 0],T,?_⟩;clear T;have⟨N,m9,m10,Q⟩:=mJ hb3 m5 m6 m7 A;have hL1:uZ w3 w.heap.size d (kN n O):=Yi hc3 ht3 (m_ A.size hp3) (m_ A.size aom);refine av (.tuple #[(pt d),au 0])<|av (pt d)<|av (au 0)<|av (pt d)<|av (au 0)<|aD<|Wl<|aY E<|aY E<|av (pt b)<|av (pt b)<|Lv (.slice a (k) (u)) (aM N.aH 0)<|av (pt d)<|Af (vs := [(0,(pt d))]) (s:=1) (zc:=fun _ => .pointer none) (y:=bR (fun j => .pointer none) (0*1) 1 (fun _=>(pt d))) (by rfl) rfl rfl Tryd.underlying58 (by kernel_rfl) (by rfl) (by rfl) (by kernel_rfl) (by rw[bJ (off:=0*1) (s:=1) (y:=fun _=>(pt d)) rfl (cells_one (by rfl)) (by rfl)]; rfl) rfl fun g2 w4 I Y s3 z2 => ?_;have⟨m12,L,m14,m15,H⟩:=qD s3.old N m9 m10 hL1 Q;have qN:=jc I Q.size;have Fg:=cu I N.lt;have zX:(.slice a (k) (u):Value).ownBlock≠some g2:=by rw[I]; exact m9.mH (z_ _)
  have zL:=Y.lt;refine Ar (B:=w.heap.size) (s:=1) (bytes:=8) (k:=k) (m:=1) (v := .slice a (k) (u)) (x:=Gd t) (by rfl) rfl rfl rfl Tryd.underlying58 (by kernel_rfl) (by kernel_rfl) rfl rfl L Y.aH (yE (fun _=>rfl)) (by omega) (by omega) (by omega) H.size fun D C w5 ho1 U wJ hlt1 => ?_;have gM:=Av U L;have⟨Z,m18,m19⟩:=Df gM m12 m14 m15;have m16:Fx.Own w5 w.heap.size 57 1 (bK D (k+1) C) (k+1) (Gd (aI t k d)):=(ho1.congr (fun j hj=>acR j hj));have R:Below w.heap.size w w5:=Aq H U H.size (fun q hq=>(L.ge hq).1);refine av (pt b)<|av (pt b)<|iX Z 0 (bK D (k+1) C) fun w6 m20 s4 z3 => ?_;have m21:aQ w6 b 2 (Ni (bK D (k+1) C) (.slice none 0 0)) 61:=m20.to (agk _ _ _);have kr:=gK s4 Z.ty;have⟨m22,m23,m24⟩:=Df kr m18 m19 m16;have b6:=s4.below R R.size (by omega);refine Ln<|bT<|sN<|Wl<|aY K<|Lv (au ((k:Int)+1)) fE<|av (au ((k:Int)+1))<|Ln ?_;have mZ:Hw w6 w.heap.size (k+1) (aI t k d) (aI r k (kN n O)):=m22.snoc m23
  skip
  refine iB ⟨k+1,(some ⟨D,0,none⟩),C,(aI t k d),(aI r k (kN n O)),by omega,(fun i=>by unfold aI; split <;> first|exact⟨_,rfl⟩|exact F i),(J.trans Fx.ic),E,Fx.ic,m21,m24,mZ,b6⟩ ?_
  show(n-(intOf (au ((k:Int)+1))).toNat)<_;simp only[K,intOf]; omega
 refine Lv aF (iM S)<|aD<|aL<|Wx<|cK<|gU<|cO<|sN<|ay<|aY E<|av (pt b)<|aD<|Wr<|aJ (pt b) ?_;obtain rfl:k=n:=by omega
 exact⟨b,⟨k,a,u,t,r,0,none,0,fun _=>⟨0,0,fun _=>0,0,0,0,0,0,0⟩⟩,rfl,rfl,rfl,(fun i=>by obtain⟨z,e⟩:=F i; show(r i).core=_; rw[e]; rfl),{ c:=m5,l:=m6,a:=xX _ _ _ _ _,g:=m7,inv:=fun i _=>by obtain⟨z,e⟩:=F i; show Inv (r i).core 0; rw[e]; exact Bg k z,wf:=fun _ h=>L_ h (u_ _),may:=fun _ h=>L_ h (u_ _),sm:=fun _ h=>L_ h (u_ _),cz:=Cz.zero k (fun o _=>by obtain⟨z,e⟩:=F o; show(r o).s.known=_; rw[e]; rfl),pB:=sO,n1:=V,n6:=W },A⟩
end Go.Proofs.YtahbiajdgealnaaDoor
namespace Go.Proofs.YtahbiajdgealnaaDoor
open Go.RowKit Go Rt
set_option linter.unusedVariables false
set_option maxRecDepth 20000
namespace Rt
section
variable {L:fB} {N:Nat} {v:EvM}
theorem Nk(b:Inv0 L N)(h:zU L):zU (dz L v):=by
 unfold dz;by_cases c:bG L v=0
 ·rw[d_ c];have a:=(Dz (iW c)).1;have d:dP L v=0:=by
   unfold bG at c;rw[b_ (by rw[a]; decide)]at c;split at c; · cases c
   split at c; · cases c
   split at c; · cases c
   exact c
  have:=G5 b h a d;exact⟨this.us,this.gb⟩
 rw[b_ c]; exact h
def gT(L:fB)(x i:Int):Int:=if L.node x<0 then 0 else fF (L.R (L.node x).toNat) i
theorem Nl(i:Int):fF Fv i=0:=by
 unfold fF;by_cases c:(gD i&&may Fv)=true
 ·rw[d_ c];rw[R_]at c;obtain⟨a,d,e,b⟩:=oP c.1;have:=uH (lu c.2) a d;rw[b,this]; rfl
 rw[b_ c]
theorem fM.local{m:dM}(h:fM m L)(a:Inv0 L N)(x i:Int):fF (bf m x) i=gT L x i:=by
 unfold bf gT;by_cases c:L.node x<0
 ·rw[b_ (by rw[(h.Lb a x).2 c]; decide),d_ c]; exact Nl i
 rw[d_ ((h.node a x).2 (by omega)),b_ c,h.rk a (by omega)]
structure CZ(m m':dM):Prop where
 et:m'.tp=m.tp
 em:m'.mb=m.mb
 ep:m'.pb=m.pb
 er:m'.rb=m.rb
 eg:m'.gb=m.gb
 ea:m'.ab=m.ab
theorem CZ.refl(m:dM):CZ m m:=⟨rfl,rfl,rfl,rfl,rfl,rfl⟩
theorem CZ.trans{a b c:dM}(h:CZ a b)(k:CZ b c):CZ a c:=⟨k.et.trans h.et,k.em.trans h.em,k.ep.trans h.ep,k.er.trans h.er,k.eg.trans h.eg,k.ea.trans h.ea⟩
theorem QH(m:dM)(v:EvM):CZ m (gV m v):=by
 unfold gV
 repeat' split
 all_goals exact⟨rfl,rfl,rfl,rfl,rfl,rfl⟩
theorem Nn(m:dM)(v:EvM):CZ m (gJ m v):=by
 unfold gJ;split
 ·have:=QH m v; exact⟨this.et,this.em,this.ep,this.er,this.eg,this.ea⟩
 exact .refl m
end
end Rt
structure wm(w:World)(B lp:Nat)(m:dM)(L:fB)(N:Nat):Prop where
 q:kQ w B lp m
 s:fM m L
 i:Inv0 L N
 u:zU L
 g:zi L
section
variable {w w':World} {B lp:Nat} {m:dM} {L:fB} {N:Nat} {v:EvM}
theorem wm.up(h:wm w B lp m L N)(a:Below w.heap.size w w'):wm w' B lp m L N := { h with q:=h.q.up a }
instance:Rt.Tr w w' (wm w B lp m L N) (wm w' B lp m L N):=⟨fun b h=>h.up b⟩
theorem wm.kg{a:List TypeId}(h:wm w B lp m L N)(b:Fx.jl a w w')(c:(a.contains 93 || a.contains 116)=false):wm w' B lp m L N := { h with q:=h.q.kg b c }
instance {a:List TypeId}:Rt.Tc a w w' (wm w B lp m L N) (wm w' B lp m L N) (!(a.contains 93 || a.contains 116)):=⟨fun b h e=>h.kg b (by simpa using e)⟩
theorem wm.weak{a:Nat}(h:wm w B lp m L N)(b:a<=B):wm w a lp m L N := { h with q:=h.q.weak b }
theorem wm.mono{a:Nat}(h:wm w B lp m L N)(b:N<=a):wm w B lp m L a := { h with i:=h.i.mono b }
theorem wm.wf(h:wm w B lp m L N)(a:N<=900000):LWf L:=LWf.of h.i h.u h.g a
theorem kQ.xR(h:kQ w B lp m)(a:Fx.jM (MR m lp w.heap.size) w w')(c:B<=w.heap.size):Below B w w':=⟨a.os,a.tape,a.output,a.size,fun k d=>a.block k (by omega) fun b=>by
 rcases b with b|b
 ·have:=(h.ltS b).1; omega
 ·omega⟩
theorem kQ.typed(h:kQ w B lp m)(d:Fx.jM (MR m lp w.heap.size) w w'):Fx.yU [93] w w':=⟨d.os,d.tape,d.output,d.size,fun k T b e=>d.block k b.ltw fun f=>by
 rcases f with (rfl|rfl|rfl|rfl|rfl|rfl)|f
 ·have:=Fx.Ty.only h.c.ty b;rw[this]at e; simp at e
 ·exact h.t.map.qW b
 ·exact h.p.qW b
 ·exact h.r.qW b
 ·exact h.g.qW b
 ·exact h.a.qW b
 ·have:=b.ltw; omega⟩
theorem QI{B:Nat}{a b c:World}(h:Below a.heap.size a b)(e:Below B b c)(d:a.heap.size<=B):Below a.heap.size a c:=h.trans (e.mono d)
theorem yL{P:Program}{g:Nat}{a b:Array Value}{w:World}{R:Ending->World->Prop}(h:Calls P g b w R)(e:a=b):Calls P g a w R:=e ▸ h
theorem OV{x:Value}{y:Nat->Value}(hy : ∀ j,j<14->y j=bH v j):(#[x,.agg (Fx.aA 14 y)]:Array Value) = #[x,.agg (Fx.aA 14 (bH v))]:=K_ (fun z=>(#[x,.agg z]:Array Value)) (Fx.dW hy)
theorem Vs(k:Nat)(d:1<=k/\k<=6)(w:World):Calls Tryd.prog 13 #[au (k:Int)] w fun e w' => ∃ lp m,e = .returned (.tuple #[(pt lp),au 0])/\wm w' w.heap.size lp m (kN k 0).core 0/\Below w.heap.size w w' :=
 (agf k d w).mono fun e w' ⟨lp,m,c,⟨n,i,j,l,h,g,a⟩,f,b⟩=>⟨lp,m,c,⟨f,by rw[a]; exact fM.new ..,(Bg k 0).toInv0,(Bg k 0).s,Vq k 0⟩,b⟩
theorem yM(h:wm w B lp m L N)(b:fV v)(c:1<=B)(d:Fx.iQ w 0 0 8 Ch){y:Nat->Value}(hy : ∀ j,j<14->y j=bH v j) :
 Calls Tryd.prog 14 #[(pt lp),.agg (Fx.aA 14 y)] w fun e w'=>e = .returned (au (bG L v))/\wm w' B lp (gJ m v) (dz L v) (N+1)/\Fx.jM (MR m lp w.heap.size) w w':=by
 have a:=h.s.apply h.q.t.inv h.i v;refine yL ((Yd m lp B w h.q v b (h.s.sound h.q.t.inv h.i) c d).mono fun e w' ⟨k,l,f⟩=>⟨by rw[k,a.1],⟨l,a.2,zT h.i,Nk h.i h.u,Nh h.g b⟩,f⟩) (OV hy)
theorem OW(h:wm w B lp m L N)(g:fV v)(a:1<=B)(b:Fx.iQ w 0 0 8 Ch){y:Nat->Value}(hy : ∀ j,j<14->y j=bH v j) :
 Calls Tryd.prog 15 #[(pt lp),.agg (Fx.aA 14 y)] w fun e w'=>e = .returned (au (bG L v))/\Below w.heap.size w w':=by
 have f:=h.s.apply h.q.t.inv h.i v;refine yL ((aoe m lp B w h.q v g (h.s.sound h.q.t.inv h.i) a b).mono fun e w' ⟨d,c⟩=>⟨by rw[d,f.1],c⟩) (OV hy)
theorem OX(h:wm w B lp m L N):Calls Tryd.prog 16 #[(pt lp)] w fun e w'=>e = .returned (.agg (Fx.aA 6 (Fx.rv .u64 L.known)))/\Below w.heap.size w w':=by
 rw[<- h.s.known]; exact Ye m lp B w h.q
theorem Yj(h:wm w B lp m L N)(i x:Int)(hi : -9223372036854775808<=i/\i<=9223372036854775807):Calls Tryd.prog 17 #[(pt lp),au i,aC x] w fun e w'=>e = .returned (au (gT L x i))/\Below w.heap.size w w':=by
 rw[<- h.s.local h.i]; exact Yf m lp B w h.q i x hi
def lsP(L:fB)(x:Int):Nat->Value:=Fx.rv .u64 fun q=>aW L.t L.tn q x
theorem acU(h:wm w B lp m L N)(x:Int):Calls Tryd.prog 18 #[(pt lp),aC x] w fun e w' => ∃ a c,e = .returned (.slice a (dR L.t L.tn x) c)/\Fx.Own w' w.heap.size 22 1 (.slice a (dR L.t L.tn x) c) (dR L.t L.tn x) (lsP L x)/\Below w.heap.size w w':=by
 obtain⟨d,l⟩:=h.s.T.path h.q.t.inv h.i x;refine(acK m lp B w h.q x).mono fun e w' ⟨a,c,g,b,f⟩=>⟨a,c,by rw[g,d],?_,f⟩;unfold Wd at b;rw[d]at b;exact b.congr fun j k=>by
  rw[Nat.mul_one]at k;show Value.int .u64 ((m.T.path x).getD j 0)=aC (aW L.t L.tn j x);rw[l j (by omega)]
structure Np(w:World)(B:Nat)(s:IU)(L:fB):Prop where
 e:s=stL L s.na s.nc s.ga s.gc
 n:Fx.Own w B 84 56 (.slice s.na L.nn s.nc) L.nn (Fx.flat 56 (ndL L))
 g:Fx.Own w B 99 5 (.slice s.ga L.gn s.gc) L.gn (Fx.flat 5 (grL L))
theorem Np.r{s:IU}(h:Np w B s L):QG w s L:=⟨h.e,h.n.arr,h.g.arr⟩
theorem Np.up{s:IU}(h:Np w B s L)(a:Below w.heap.size w w'):Np w' B s L:=⟨h.e,h.n.up a,h.g.up a⟩
instance {s:IU}:Rt.Tr w w' (Np w B s L) (Np w' B s L):=⟨fun b h=>h.up b⟩
theorem Np.kg{s:IU}{a:List TypeId}(h:Np w B s L)(c:Fx.jl a w w')(b:(a.contains 84 || a.contains 99)=false):Np w' B s L:=by
 rw[Bool.or_eq_false_iff]at b;exact⟨h.e,h.n.kg c b.1,h.g.kg c b.2⟩
instance {s:IU} {a:List TypeId}:Rt.Tc a w w' (Np w B s L) (Np w' B s L) (!(a.contains 84 || a.contains 99)):=⟨fun b h e=>h.kg b (by simpa using e)⟩
theorem Np.uj{s:IU}{a:List TypeId}(h:Np w B s L)(c:Fx.yU a w w')(b:(a.contains 84 || a.contains 99)=false):Np w' B s L:=by
 rw[Bool.or_eq_false_iff]at b;exact⟨h.e,h.n.uj c b.1,h.g.uj c b.2⟩
end
end Go.Proofs.YtahbiajdgealnaaDoor
namespace Go.Proofs.YtahbiajdgealnaaDoor
open Go.RowKit Rt
open Fx (fI fq fP bF gX gW dA dY gP jE eZ jF gy jv jG Lv sN Ln Ws Qv Wl Rp Wc Qs Wr Sb Lk Wk rC rV sR Rs Rn Rd Rk Wb Wx Wo FQ Wt rT K4 Qn F3 Bl Af Ar DI Ei rM gK Av mV wI uT wX xX Aq DL Au rv aA aQ bR aN ev bZ Stp dJ aR flat dD Mp fA aU iR iQ bJ down iI jM iT nY bP bL cells_one jl bS wQ unseen jN iK bX dH bI bT cK cO gU iB qo gu)
set_option maxRecDepth 20000
set_option linter.unusedVariables false
namespace Rt
def Jz:Int:=1099511627777
def agm(n:Int)(i:Nat):Int:=if i=0 then n else 0
def vA:EvM:=⟨1,1,fun _=>0,1,0,0,10,0,0⟩
def vC:EvM:=⟨1,2,agm 1,5,Jz,2,4,0,0⟩
def vD:EvM:=⟨2,1,agm 2,3,Jz,0,4,1,0⟩
theorem Vt{m:dM}(b:m.T.ok)(v:EvM):(gJ m v).T.ok:=by
 unfold gJ;by_cases c:bV m v=0
 ·rw[d_ c];have e:=pI c;have a:=(pJ c).2.1;have f:=nO e;show(gV m v).T.ok;unfold fC at a;unfold gV;by_cases k1:v.kind=1
  ·rw[d_ k1]at a ⊢;have d:m.T.err (mY v) v.node=0:=by
    unfold iP at a;split at a
    ·cases a
    ·exact a
   exact Bo.put b d (by unfold mY; omega)
  rw[b_ k1]
  repeat' split
  all_goals exact b
 rw[b_ c]; exact b
structure FZ(m:dM)(L:fB)(N:Nat):Prop where
 s:fM m L
 t:m.T.ok
 i:Inv0 L N
theorem FZ.new(k:Nat):FZ (xQ k 0 0 0 0 0 0) (kN k 0).core 0:=⟨fM.new ..,Bo.zero _ _,(Bg k 0).toInv0⟩
theorem FZ.apply{m:dM}{L:fB}{N:Nat}(h:FZ m L N)(v:EvM):FZ (gJ m v) (dz L v) (N+1):=⟨(h.s.apply h.t h.i v).2,Vt h.t v,zT h.i⟩
theorem FZ.err{m:dM}{L:fB}{N:Nat}(h:FZ m L N)(v:EvM){c:Int}(e:bV m v=c):bG L v=c:=(h.s.apply h.t h.i v).1.symm.trans e
theorem FZ.loc{m:dM}{L:fB}{N:Nat}(h:FZ m L N)(x i:Int){c:Int}(e:fF (bf m x) i=c):gT L x i=c:=(h.s.local h.i x i).symm.trans e
noncomputable def wq0:dM:=xQ 2 0 0 0 0 0 0
noncomputable def Dn:dM:=gJ wq0 vA
noncomputable def wq2:dM:=gJ Dn vC
noncomputable def Zf:dM:=gJ wq2 vD
theorem tw0:FZ wq0 (kN 2 0).core 0 := .new 2
end Rt
end Go.Proofs.YtahbiajdgealnaaDoor
